/- Trimmed by wip/trim.py to what this claim rests on. -/
import Derived.Test.YtecodlefcmjihaaGreatWB11
namespace Go.Proofs.YtecodlefcmjihaaGreat
open Go.RowKit
theorem Uq : Tryz.prog.follows .mixedOrders = true := by kernel_rfl
def GD (σ : Hp) (a0_A : Option Addr) (a0_n : Nat) (_ : Nat) (a1 : Int) (R : Value → Hp → Prop) : Prop :=
  wk .i64 (a1 + 1000) (fun n1 => wk .i64 (((a0_n : Nat) : Int) + 1) (fun n2 => (0 ≤ n2 ∧ n2 ≤ n2 ∧ n2 ≤ (1000000000 : Int) ∧ 
    bx σ (.cells (M1 (.slice none 0 0) (n2 : Int).toNat) 34) (fun b3 σ4 => cut (α := Hp → Prop) (fun  σ6 => 
    ∀ _ : Nat → Value, ix (some ⟨b3, 0, none⟩) ((n2 : Int).toNat) ((a0_n : Nat) : Int) 1 (fun b8 a9 => ldS σ6 b8 a9 (fun A10 l10 _ => 
    ix A10 l10 0 1 (fun b11 a12 => st σ6 b11 a12 (.int .i64 0) (fun σ13 => cut (α := Hp → Prop) (fun  σ15 => 
    ∀ _ : Nat → Value, cut (α := Int → Hp → Prop) (fun n20 σ18 => ∀ _ : Nat → Value, ix (some ⟨b3, 0, none⟩) ((n2 : Int).toNat) 0 1 (fun b21 a22 => 
    ldS σ18 b21 a22 (fun A23 l23 _ => ix A23 l23 n20 1 (fun b24 a25 => ldI σ18 .i64 b24 a25 (fun n26 => 
    bc (decide (n26 = 1152921504606846976)) (rt σ18 R (.tuple #[(.slice none 0 0), (.int .i64 0)])) ((0 ≤ ((a0_n : Nat) : Int) ∧ 
    ((a0_n : Nat) : Int) ≤ ((a0_n : Nat) : Int) ∧ ((a0_n : Nat) : Int) ≤ (1000000000 : Int) ∧ bx σ18 (.cells (M1 (.int .i64 0) (((a0_n : Nat) : Int) : Int).toNat) 3) (fun b27 σ28 => 
    cut (α := Hp → Prop) (fun  σ30 => ∀ _ : Nat → Value, rt σ30 R (.tuple #[(.slice (some ⟨b27, 0, none⟩) ((((a0_n : Nat) : Int) : Int).toNat) ((((a0_n : Nat) : Int) : Int).toNat)), (.int .i64 n26)])) (fun J31 => 
    ∃ I34 : Nat → Int → Int → Hp → Prop, (∃ n350, I34 n350 n20 0 σ28) ∧ ∀ n35 : Nat, ∀ n36 : Int, ∀ n37 : Int, ∀ σ33 : Hp, I34 n35 n36 n37 σ33 → ∀ _ : Nat → Value, bc (decide (n37 < ((a0_n : Nat) : Int))) (cut (α := Int → Hp → Prop) (fun n41 σ39 => 
    ∀ _ : Nat → Value, wk .i64 (n37 + 1) (fun n42 => bk σ39 n35 (fun m43 σ44 => I34 m43 n41 n42 σ44))) (fun J40 => 
    ix a0_A a0_n n37 2 (fun b45 a46 => ldI σ33 .i64 b45 a46 (fun n47 => ldI σ33 .i64 b45 (a46 + 1) (fun n48 => 
    ix (some ⟨b3, 0, none⟩) ((n2 : Int).toNat) n37 1 (fun b49 a50 => ldS σ33 b49 a50 (fun A51 l51 _ => 
    ix A51 l51 n36 1 (fun b52 a53 => ldI σ33 .i64 b52 a53 (fun n54 => ∃ I57 : Nat → Int → Int → Hp → Prop, (∃ n580, I57 n580 n36 n54 σ33) ∧ 
    ∀ n58 : Nat, ∀ n59 : Int, ∀ n60 : Int, ∀ σ56 : Hp, I57 n58 n59 n60 σ56 → ∀ _ : Nat → Value, cut (α := Hp → Prop) (fun  σ62 => 
    ∀ _ : Nat → Value, wk .i64 (n59 - n47) (fun n64 => ix (some ⟨b27, 0, none⟩) ((((a0_n : Nat) : Int) : Int).toNat) n37 1 (fun b65 a66 => 
    ldI σ62 .i64 b65 a66 (fun n67 => wk .i64 (n67 + 1) (fun n68 => ix (some ⟨b27, 0, none⟩) ((((a0_n : Nat) : Int) : Int).toNat) n37 1 (fun b69 a70 => 
    st σ62 b69 a70 (.int .i64 n68) (fun σ71 => ix (some ⟨b3, 0, none⟩) ((n2 : Int).toNat) n37 1 (fun b72 a73 => 
    ldS σ71 b72 a73 (fun A74 l74 _ => ix A74 l74 n64 1 (fun b75 a76 => ldI σ71 .i64 b75 a76 (fun n77 => 
    bk σ71 n58 (fun m78 σ79 => I57 m78 n64 n77 σ79)))))))))))) (fun J63 => cut (α := Bool → Hp → Prop) (fun t83 σ81 => 
    ∀ _ : Nat → Value, bc t83 (J63 σ81) (J40 n59 σ81)) (fun J82 => bc (decide (n47 ≤ n59)) (ix (some ⟨b3, 0, none⟩) ((n2 : Int).toNat) n37 1 (fun b84 a85 => 
    ldS σ56 b84 a85 (fun A86 l86 _ => wk .i64 (n59 - n47) (fun n87 => ix A86 l86 n87 1 (fun b88 a89 => 
    ldI σ56 .i64 b88 a89 (fun n90 => bc (decide (n90 < 1152921504606846976)) (ix (some ⟨b3, 0, none⟩) ((n2 : Int).toNat) n37 1 (fun b91 a92 => 
    ldS σ56 b91 a92 (fun A93 l93 _ => wk .i64 (n59 - n47) (fun n94 => ix A93 l93 n94 1 (fun b95 a96 => 
    ldI σ56 .i64 b95 a96 (fun n97 => wk .i64 (n97 + n48) (fun n98 => J82 (decide (n98 = n60)) σ56))))))) (J82 false σ56))))))) (J82 false σ56)))))))))))) (J31 σ33)))))))))) (fun J19 => 
    ∃ I101 : Nat → Int → Int → Hp → Prop, (∃ n1020, I101 n1020 a1 a1 σ15) ∧ ∀ n102 : Nat, ∀ n103 : Int, ∀ n104 : Int, ∀ σ100 : Hp, I101 n102 n103 n104 σ100 → ∀ _ : Nat → Value, bc (decide (n104 ≤ n1)) (cut (α := Int → Hp → Prop) (fun n108 σ106 => 
    ∀ _ : Nat → Value, wk .i64 (n104 + 1) (fun n109 => bk σ106 n102 (fun m110 σ111 => I101 m110 n108 n109 σ111))) (fun J107 => 
    ix (some ⟨b3, 0, none⟩) ((n2 : Int).toNat) 0 1 (fun b112 a113 => ldS σ100 b112 a113 (fun A114 l114 _ => 
    ix A114 l114 n104 1 (fun b115 a116 => ldI σ100 .i64 b115 a116 (fun n117 => ix (some ⟨b3, 0, none⟩) ((n2 : Int).toNat) 0 1 (fun b118 a119 => 
    ldS σ100 b118 a119 (fun A120 l120 _ => ix A120 l120 n103 1 (fun b121 a122 => ldI σ100 .i64 b121 a122 (fun n123 => 
    bc (decide (n117 < n123)) (J107 n104 σ100) (J107 n103 σ100))))))))))) (J19 n103 σ100))) (fun J16 => wk .i64 (((a0_n : Nat) : Int) - 1) (fun n124 => 
    ∃ I127 : Nat → Int → Hp → Prop, (∃ n1280, I127 n1280 n124 σ13) ∧ ∀ n128 : Nat, ∀ n129 : Int, ∀ σ126 : Hp, I127 n128 n129 σ126 → ∀ _ : Nat → Value, bc (decide ((0 : Int) ≤ n129)) (cut (α := Hp → Prop) (fun  σ131 => 
    ∀ _ : Nat → Value, wk .i64 (n129 - 1) (fun n133 => bk σ131 n128 (fun m134 σ135 => I127 m134 n133 σ135))) (fun J132 => 
    ix (some ⟨b3, 0, none⟩) ((n2 : Int).toNat) n129 1 (fun b136 a137 => ldS σ126 b136 a137 (fun _ l138 _ => 
    ∃ I141 : Nat → Int → Hp → Prop, (∃ n1420, I141 n1420 0 σ126) ∧ ∀ n142 : Nat, ∀ n143 : Int, ∀ σ140 : Hp, I141 n142 n143 σ140 → ∀ _ : Nat → Value, bc (decide (n143 < ((l138 : Nat) : Int))) (cut (α := Hp → Prop) (fun  σ145 => 
    ∀ _ : Nat → Value, wk .i64 (n143 + 1) (fun n147 => bk σ145 n142 (fun m148 σ149 => I141 m148 n147 σ149))) (fun J146 => 
    ix (some ⟨b3, 0, none⟩) ((n2 : Int).toNat) n129 1 (fun b150 a151 => ldS σ140 b150 a151 (fun A152 l152 _ => 
    wk .i64 (n129 + 1) (fun n153 => ix (some ⟨b3, 0, none⟩) ((n2 : Int).toNat) n153 1 (fun b154 a155 => ldS σ140 b154 a155 (fun A156 l156 _ => 
    ix A156 l156 n143 1 (fun b157 a158 => ldI σ140 .i64 b157 a158 (fun n159 => ix A152 l152 n143 1 (fun b160 a161 => 
    st σ140 b160 a161 (.int .i64 n159) (fun σ162 => ix a0_A a0_n n129 2 (fun b163 a164 => ldI σ162 .i64 b163 a164 (fun n165 => 
    wk .i64 (n143 - n165) (fun n166 => cut (α := Bool → Hp → Prop) (fun t170 σ168 => ∀ _ : Nat → Value, 
    bc t170 (ix (some ⟨b3, 0, none⟩) ((n2 : Int).toNat) n129 1 (fun b171 a172 => ldS σ168 b171 a172 (fun A173 l173 _ => 
    ix (some ⟨b3, 0, none⟩) ((n2 : Int).toNat) n129 1 (fun b174 a175 => ldS σ168 b174 a175 (fun A176 l176 _ => 
    ix A176 l176 n143 1 (fun b177 a178 => ldI σ168 .i64 b177 a178 (fun n179 => ix (some ⟨b3, 0, none⟩) ((n2 : Int).toNat) n129 1 (fun b180 a181 => 
    ldS σ168 b180 a181 (fun A182 l182 _ => ix A182 l182 n166 1 (fun b183 a184 => ldI σ168 .i64 b183 a184 (fun n185 => 
    ix a0_A a0_n n129 2 (fun b186 a187 => ldI σ168 .i64 b186 (a187 + 1) (fun n188 => wk .i64 (n185 + n188) (fun n189 => 
    ix A173 l173 n143 1 (fun b190 a191 => st σ168 b190 a191 (.int .i64 (if n189 < n179 then n189 else n179)) (fun σ192 => 
    J146 σ192)))))))))))))))) (J146 σ168)) (fun J169 => bc (decide ((0 : Int) ≤ n166)) (ix (some ⟨b3, 0, none⟩) ((n2 : Int).toNat) n129 1 (fun b193 a194 => 
    ldS σ162 b193 a194 (fun A195 l195 _ => ix A195 l195 n166 1 (fun b196 a197 => ldI σ162 .i64 b196 a197 (fun n198 => 
    J169 (decide (n198 < 1152921504606846976)) σ162))))) (J169 false σ162)))))))))))))))) (J132 σ140))))) (J16 σ126)))))))) (fun J7 => 
    ∃ I201 : Nat → Int → Hp → Prop, (∃ n2020, I201 n2020 0 σ4) ∧ ∀ n202 : Nat, ∀ n203 : Int, ∀ σ200 : Hp, I201 n202 n203 σ200 → ∀ _ : Nat → Value, bc (decide (n203 < (((n2 : Int).toNat : Nat) : Int))) (wk .i64 (n1 + 1) (fun n204 => 
    exl 3 [.int .i64] ([1152921504606846976] : List Int) σ200 (fun A205 l205 c205 σ206 => cl Tryz.prog (.func (.func 99) #[] #[]) #[(.slice A205 l205 c205), (.int .i64 n204)] σ206 (fun v207 σ208 => 
    ∃ A209 : Option Addr, ∃ l209 : Nat, ∃ c209 : Nat, (v207 = (.slice A209 l209 c209) ∧ adp 3 [.int .i64] A209 l209 c209 σ208 (fun (xs210 : List Int) σ211 => 
    ix (some ⟨b3, 0, none⟩) ((n2 : Int).toNat) n203 1 (fun b212 a213 => exl 3 [.int .i64] xs210 σ211 (fun A214 l214 c214 σ215 => 
    st σ215 b212 a213 (.slice A214 l214 c214) (fun σ216 => wk .i64 (n203 + 1) (fun n217 => bk σ216 n202 (fun m218 σ219 => 
    I201 m218 n217 σ219))))))))))) (J7 σ200))))))
def Ae : OA := ⟨[], false, []⟩
def Mw : MAn := (.seq (.txt []) (.seq (.txt []) (.seq (.txt [Ae, Ae, Ae, ⟨[.raw], false, []⟩]) (.cut ⟨[], 0, [], [(0, true), (1, true), (6, true), (7, true)]⟩ (.seq (.txt []) (.block (.loop ⟨[], 0, [.slot 25 (.sc (.int .i64))], [(0, true), (1, true), (6, true), (7, true), (24, true)]⟩ (.seq (.txt []) (.seq (.cond .leaf .leaf) (.seq (.block (.seq (.txt []) (.txt [Ae, Ae, Ae, Ae, Ae, ⟨[], false, [.adl 33 3 [.int .i64]]⟩]))) (.txt []))))))) (.seq (.txt []) (.cut ⟨[], 0, [], [(0, true), (1, true), (6, true), (7, true)]⟩ (.seq (.txt []) (.block (.loop ⟨[], 0, [.slot 9 (.sc (.int .i64))], [(0, true), (1, true), (6, true), (7, true)]⟩ (.seq (.seq (.txt []) (.cond .leaf .leaf)) (.cut ⟨[], 0, [], [(0, true), (1, true), (6, true), (7, true), (9, true)]⟩ (.block (.seq (.txt []) (.block (.loop ⟨[], 0, [.slot 54 (.sc (.int .i64))], [(0, true), (1, true), (6, true), (7, true), (9, true), (53, true)]⟩ (.seq (.txt []) (.seq (.cond .leaf .leaf) (.cut ⟨[], 0, [], [(0, true), (1, true), (6, true), (7, true), (9, true), (53, true), (54, true)]⟩ (.block (.seq (.txt []) (.seq (.plan [14] (.take 0 Ae (.take 1 Ae (.take 2 Ae (.take 3 Ae (.take 4 Ae (.take 5 Ae (.take 6 Ae (.take 7 Ae (.take 8 Ae (.take 9 Ae (.take 10 Ae (.take 11 Ae (.take 12 Ae (.take 13 Ae (.alt 14 false Ae .done .done)))))))))))))))) (.seq (.txt []) (.cut ⟨[], 0, [.slot 89 (.sc (.bool))], [(0, true), (1, true), (6, true), (7, true), (9, true), (10, true), (11, true), (53, true), (54, true)]⟩ (.txt [Ae, Ae, ⟨[], true, []⟩]) (.cond (.plan [27] (.take 0 Ae (.take 1 Ae (.take 2 Ae (.take 3 Ae (.take 4 Ae (.take 5 Ae (.take 6 Ae (.take 7 Ae (.take 8 Ae (.take 9 Ae (.take 10 Ae (.take 11 Ae (.take 12 Ae (.take 13 Ae (.take 14 Ae (.take 15 Ae (.take 16 Ae (.take 17 Ae (.take 18 Ae (.take 19 Ae (.take 20 Ae (.take 21 Ae (.take 22 Ae (.take 23 Ae (.take 24 Ae (.take 25 Ae (.take 26 Ae (.alt 27 false Ae .done .done))))))))))))))))))))))))))))) .leaf)))))) (.txt [])))))))) (.txt [])))))) (.seq (.txt []) (.cut ⟨[], 0, [.slot 12 (.sc (.int .i64))], [(0, true), (7, true)]⟩ (.seq (.txt []) (.block (.loop ⟨[], 0, [.slot 12 (.sc (.int .i64)), .slot 13 (.sc (.int .i64))], [(0, true), (6, true), (7, true)]⟩ (.seq (.seq (.txt []) (.cond .leaf .leaf)) (.cut ⟨[], 0, [.slot 12 (.sc (.int .i64))], [(0, true), (6, true), (7, true), (13, true)]⟩ (.block (.seq (.plan [] (.take 0 Ae (.take 1 Ae (.take 2 Ae (.take 3 Ae (.take 4 Ae (.take 5 Ae (.take 6 Ae (.take 7 Ae (.take 8 Ae (.take 9 Ae (.take 10 Ae (.take 11 Ae (.take 12 Ae .done)))))))))))))) (.cond (.txt []) .leaf))) (.txt [])))))) (.seq (.seq (.txt []) (.seq (.txt []) (.cond (.seq (.txt []) .leaf) .leaf))) (.seq (.txt [Ae, Ae, ⟨[.raw], false, []⟩]) (.cut ⟨[], 0, [], [(4, true), (5, true)]⟩ (.seq (.txt []) (.block (.loop ⟨[], 0, [.slot 12 (.sc (.int .i64)), .slot 152 (.sc (.int .i64))], [(4, true), (5, true), (7, true), (150, true), (151, true)]⟩ (.seq (.txt []) (.seq (.cond .leaf .leaf) (.cut ⟨[], 0, [.slot 12 (.sc (.int .i64))], [(4, true), (5, true), (7, true), (150, true), (151, true), (152, true)]⟩ (.block (.seq (.txt []) (.seq (.txt []) (.block (.loop ⟨[true], 1, [.slot 12 (.sc (.int .i64)), .slot 15 (.hb 0 0), .slot 16 (.sc (.int .i64))], [(4, true), (5, true), (7, true), (14, true), (150, true), (151, true), (152, true)]⟩ (.cut ⟨[true], 1, [.slot 15 (.hb 0 0)], [(4, true), (5, true), (7, true), (12, true), (14, true), (150, true), (151, true), (152, true)]⟩ (.cut ⟨[true], 1, [.slot 15 (.hb 0 0), .slot 197 (.sc (.bool))], [(4, true), (5, true), (7, true), (12, true), (14, true), (150, true), (151, true), (152, true)]⟩ (.plan [] (.take 0 Ae (.take 1 Ae (.take 2 Ae (.take 3 Ae (.take 4 ⟨[], true, []⟩ (.take 5 Ae (.take 6 Ae (.take 7 Ae (.take 8 Ae (.take 9 Ae (.take 10 Ae (.take 11 Ae (.take 12 Ae (.take 13 Ae (.take 14 Ae (.take 15 Ae (.take 16 Ae (.take 17 ⟨[], true, []⟩ (.take 18 Ae (.take 19 Ae (.take 20 Ae (.take 21 Ae (.take 22 Ae (.take 23 Ae (.take 24 Ae (.take 25 Ae (.take 26 Ae (.take 27 Ae (.take 28 Ae (.take 29 Ae (.take 30 Ae (.take 31 Ae (.take 32 Ae (.take 33 Ae .done))))))))))))))))))))))))))))))))))) (.cond .leaf .leaf)) (.seq (.block (.seq (.txt []) (.txt []))) (.txt [])))))))) (.txt []))))))) (.seq (.txt []) .leaf))))))))))))
set_option maxRecDepth 100000 in
theorem L9 (σ : Hp) (a0_A : Option Addr) (a0_n : Nat) (a0_c : Nat) (a1 : Int) (R : Value → Hp → Prop) (h : GD σ a0_A a0_n a0_c a1 R) : Al Tryz.prog 60 #[(.slice a0_A a0_n a0_c), (.int .i64 a1)] σ R :=
  Am Uq Mw Tryz.func60 rfl (by kernel_rfl) (by kernel_rfl) (M := GD σ a0_A a0_n a0_c a1 R) (by kernel_rfl) h
end Go.Proofs.YtecodlefcmjihaaGreat
