/- Trimmed by wip/trim.py to what this claim rests on. -/
import Derived.Test.YtecodlefcmjihaaGreatWB11
namespace Go.Proofs.YtecodlefcmjihaaGreat
open Go.RowKit
theorem FX : Tryz.prog.follows .mixedOrders = true := by kernel_rfl
abbrev E8 : FuncId := 18
def E6 (σ : Hp) (f_Purses : Int) (f_Boxes : Int) (f_Stock_A : Option Addr) (f_Stock_n : Nat) (f_Stock_c : Nat) (f_Cash_A : Option Addr) (f_Cash_n : Nat) (f_Cash_c : Nat) (f_Bundles_A : Option Addr) (f_Bundles_n : Nat) (f_Bundles_c : Nat) (f_Refund : Int) (f_Band : Int) (f_Hours : Int) (n : Int) (R : Value → Hp → Prop) : Prop :=
  cl Tryz.prog (.func (.func 17) #[] #[]) #[(.agg #[(.int .i64 f_Purses), (.int .i64 f_Boxes), (.slice f_Stock_A f_Stock_n f_Stock_c), (.slice f_Cash_A f_Cash_n f_Cash_c), (.slice f_Bundles_A f_Bundles_n f_Bundles_c), (.int .i64 f_Refund), (.int .i64 f_Band), (.int .i64 f_Hours)])] σ (fun v1 σ2 => 
    ∃ n3 : Int, (v1 = (.int .i64 n3) ∧ bc (!decide (n3 = 0)) (rt σ2 R (.tuple #[(.slice none 0 0), (.int .i64 0), (.int .i64 n3)])) (cl Tryz.prog (.func (.func 33) #[] #[]) #[(.int .i64 n), (.int .i64 0), (.int .i64 1000)] σ2 (fun v4 σ5 => 
    ∃ t6 : Bool, (v4 = (.bool t6) ∧ bc (!t6) (rt σ5 R (.tuple #[(.slice none 0 0), (.int .i64 0), (.int .i64 1)])) (cl Tryz.prog (.func (.func 37) #[] #[]) #[(.agg #[(.int .i64 f_Purses), (.int .i64 f_Boxes), (.slice f_Stock_A f_Stock_n f_Stock_c), (.slice f_Cash_A f_Cash_n f_Cash_c), (.slice f_Bundles_A f_Bundles_n f_Bundles_c), (.int .i64 f_Refund), (.int .i64 f_Band), (.int .i64 f_Hours)]), (.int .i64 n)] σ5 (fun v7 σ8 => 
    ∃ A9 : Option Addr, ∃ l9 : Nat, ∃ c9 : Nat, ∃ n10 : Int, ∃ n11 : Int, (v7 = (.tuple #[(.slice A9 l9 c9), (.int .i64 n10), (.int .i64 n11)]) ∧ 
    rt σ8 R (.tuple #[(.slice A9 l9 c9), (.int .i64 n10), (.int .i64 n11)])))))))))
def MZ : MAn := (.seq (.txt []) (.seq (.seq (.txt []) (.seq (.txt []) (.cond (.seq (.txt []) .leaf) .leaf))) (.seq (.seq (.txt []) (.cond (.seq (.txt []) .leaf) .leaf)) (.seq (.txt []) .leaf))))
set_option maxRecDepth 100000 in
theorem HY (σ : Hp) (f_Purses : Int) (f_Boxes : Int) (f_Stock_A : Option Addr) (f_Stock_n : Nat) (f_Stock_c : Nat) (f_Cash_A : Option Addr) (f_Cash_n : Nat) (f_Cash_c : Nat) (f_Bundles_A : Option Addr) (f_Bundles_n : Nat) (f_Bundles_c : Nat) (f_Refund : Int) (f_Band : Int) (f_Hours : Int) (n : Int) (R : Value → Hp → Prop) (h : E6 σ f_Purses f_Boxes f_Stock_A f_Stock_n f_Stock_c f_Cash_A f_Cash_n f_Cash_c f_Bundles_A f_Bundles_n f_Bundles_c f_Refund f_Band f_Hours n R) : Al Tryz.prog 18 #[(.agg #[(.int .i64 f_Purses), (.int .i64 f_Boxes), (.slice f_Stock_A f_Stock_n f_Stock_c), (.slice f_Cash_A f_Cash_n f_Cash_c), (.slice f_Bundles_A f_Bundles_n f_Bundles_c), (.int .i64 f_Refund), (.int .i64 f_Band), (.int .i64 f_Hours)]), (.int .i64 n)] σ R :=
  Am FX MZ Tryz.func18 rfl (by kernel_rfl) (by kernel_rfl) (M := E6 σ f_Purses f_Boxes f_Stock_A f_Stock_n f_Stock_c f_Cash_A f_Cash_n f_Cash_c f_Bundles_A f_Bundles_n f_Bundles_c f_Refund f_Band f_Hours n R) (by kernel_rfl) h
theorem Fv : AA Tryz.prog 18 = true := by kernel_rfl
abbrev EO : FuncId := 37
def Da (σ : Hp) (_ : Int) (_ : Int) (_ : Option Addr) (_ : Nat) (_ : Nat) (_ : Option Addr) (_ : Nat) (_ : Nat) (f_Bundles_A : Option Addr) (f_Bundles_n : Nat) (f_Bundles_c : Nat) (_ : Int) (_ : Int) (_ : Int) (n : Int) (R : Value → Hp → Prop) : Prop :=
  cl Tryz.prog (.func (.func 60) #[] #[]) #[(.slice f_Bundles_A f_Bundles_n f_Bundles_c), (.int .i64 n)] σ (fun v1 σ2 => 
    ∃ A3 : Option Addr, ∃ l3 : Nat, ∃ c3 : Nat, ∃ n4 : Int, (v1 = (.tuple #[(.slice A3 l3 c3), (.int .i64 n4)]) ∧ 
    bc ((A3).isNone) (rt σ2 R (.tuple #[(.slice none 0 0), (.int .i64 0), (.int .i64 3)])) (rt σ2 R (.tuple #[(.slice A3 l3 c3), (.int .i64 n4), (.int .i64 0)]))))
def Ks : MAn := (.seq (.txt []) (.seq (.txt []) (.seq (.seq (.txt []) (.cond (.seq (.txt []) .leaf) .leaf)) (.seq (.txt []) .leaf))))
set_option maxRecDepth 100000 in
theorem Fx (σ : Hp) (f_Purses : Int) (f_Boxes : Int) (f_Stock_A : Option Addr) (f_Stock_n : Nat) (f_Stock_c : Nat) (f_Cash_A : Option Addr) (f_Cash_n : Nat) (f_Cash_c : Nat) (f_Bundles_A : Option Addr) (f_Bundles_n : Nat) (f_Bundles_c : Nat) (f_Refund : Int) (f_Band : Int) (f_Hours : Int) (n : Int) (R : Value → Hp → Prop) (h : Da σ f_Purses f_Boxes f_Stock_A f_Stock_n f_Stock_c f_Cash_A f_Cash_n f_Cash_c f_Bundles_A f_Bundles_n f_Bundles_c f_Refund f_Band f_Hours n R) : Al Tryz.prog 37 #[(.agg #[(.int .i64 f_Purses), (.int .i64 f_Boxes), (.slice f_Stock_A f_Stock_n f_Stock_c), (.slice f_Cash_A f_Cash_n f_Cash_c), (.slice f_Bundles_A f_Bundles_n f_Bundles_c), (.int .i64 f_Refund), (.int .i64 f_Band), (.int .i64 f_Hours)]), (.int .i64 n)] σ R :=
  Am FX Ks Tryz.func37 rfl (by kernel_rfl) (by kernel_rfl) (M := Da σ f_Purses f_Boxes f_Stock_A f_Stock_n f_Stock_c f_Cash_A f_Cash_n f_Cash_c f_Bundles_A f_Bundles_n f_Bundles_c f_Refund f_Band f_Hours n R) (by kernel_rfl) h
theorem Cu : AA Tryz.prog 37 = true := by kernel_rfl
abbrev KX : FuncId := 60
def Hq (σ : Hp) (a0_A : Option Addr) (a0_n : Nat) (_ : Nat) (a1 : Int) (R : Value → Hp → Prop) : Prop :=
  wk .i64 (a1 + 1000) (fun n1 => wk .i64 (((a0_n : Nat) : Int) + 1) (fun n2 => (0 ≤ n2 ∧ n2 ≤ n2 ∧ n2 ≤ (1000000000 : Int) ∧ 
    cut (α := Option Addr → Nat → Nat → Hp → Prop) (fun A6 l6 _ σ4 => ∀ _ : Nat → Value, ix A6 l6 ((a0_n : Nat) : Int) 1 (fun b7 a8 => 
    ldS σ4 b7 a8 (fun A9 l9 _ => ix A9 l9 0 1 (fun b10 a11 => st σ4 b10 a11 (.int .i64 0) (fun σ12 => cut (α := Hp → Prop) (fun  σ14 => 
    ∀ _ : Nat → Value, cut (α := Int → Hp → Prop) (fun n19 σ17 => ∀ _ : Nat → Value, ix A6 l6 0 1 (fun b20 a21 => 
    ldS σ17 b20 a21 (fun A22 l22 _ => ix A22 l22 n19 1 (fun b23 a24 => ldI σ17 .i64 b23 a24 (fun n25 => 
    bc (decide (n25 = 1152921504606846976)) (rt σ17 R (.tuple #[(.slice none 0 0), (.int .i64 0)])) ((0 ≤ ((a0_n : Nat) : Int) ∧ 
    ((a0_n : Nat) : Int) ≤ ((a0_n : Nat) : Int) ∧ ((a0_n : Nat) : Int) ≤ (1000000000 : Int) ∧ cut (α := List Int → Hp → Prop) (fun xs29 σ27 => 
    ∀ _ : Nat → Value, exl 3 [.int .i64] xs29 σ27 (fun A30 l30 c30 σ31 => rt σ31 R (.tuple #[(.slice A30 l30 c30), (.int .i64 n25)]))) (fun J28 => 
    ∃ I34 : Nat → Int → Int → List Int → Hp → Prop, (∃ n350, I34 n350 n19 0 (List.replicate (((a0_n : Nat) : Int) : Int).toNat 0 : List Int) σ17) ∧ 
    ∀ n35 : Nat, ∀ n36 : Int, ∀ n37 : Int, ∀ xs38 : List Int, ∀ σ33 : Hp, I34 n35 n36 n37 xs38 σ33 → ∀ _ : Nat → Value, bc (decide (n37 < ((a0_n : Nat) : Int))) (cut (α := Int → List Int → Hp → Prop) (fun n42 xs43 σ40 => 
    ∀ _ : Nat → Value, wk .i64 (n37 + 1) (fun n44 => bk σ40 n35 (fun m45 σ46 => I34 m45 n42 n44 xs43 σ46))) (fun J41 => 
    ix a0_A a0_n n37 2 (fun b47 a48 => ldI σ33 .i64 b47 a48 (fun n49 => ldI σ33 .i64 b47 (a48 + 1) (fun n50 => 
    ix A6 l6 n37 1 (fun b51 a52 => ldS σ33 b51 a52 (fun A53 l53 _ => ix A53 l53 n36 1 (fun b54 a55 => ldI σ33 .i64 b54 a55 (fun n56 => 
    ∃ I59 : Nat → Int → Int → List Int → Hp → Prop, (∃ n600, I59 n600 n36 n56 xs38 σ33) ∧ ∀ n60 : Nat, ∀ n61 : Int, ∀ n62 : Int, ∀ xs63 : List Int, ∀ σ58 : Hp, I59 n60 n61 n62 xs63 σ58 → ∀ _ : Nat → Value, cut (α := Hp → Prop) (fun  σ65 => 
    ∀ _ : Nat → Value, wk .i64 (n61 - n49) (fun n67 => (0 ≤ n37 ∧ n37 < ((List.length xs63 : Nat) : Int) ∧ 
    lat xs63 ((n37 : Int).toNat) (fun r68 => wk .i64 (r68 + 1) (fun n69 => (0 ≤ n37 ∧ n37 < ((List.length xs63 : Nat) : Int) ∧ 
    lat xs63 ((n37 : Int).toNat) (fun _ => ix A6 l6 n37 1 (fun b71 a72 => ldS σ65 b71 a72 (fun A73 l73 _ => 
    ix A73 l73 n67 1 (fun b74 a75 => ldI σ65 .i64 b74 a75 (fun n76 => bk σ65 n60 (fun m77 σ78 => I59 m77 n67 n76 (List.set xs63 ((n37 : Int).toNat) n69) σ78)))))))))))) (fun J66 => 
    cut (α := Bool → Hp → Prop) (fun t82 σ80 => ∀ _ : Nat → Value, bc t82 (J66 σ80) (J41 n61 xs63 σ80)) (fun J81 => 
    bc (decide (n49 ≤ n61)) (ix A6 l6 n37 1 (fun b83 a84 => ldS σ58 b83 a84 (fun A85 l85 _ => wk .i64 (n61 - n49) (fun n86 => 
    ix A85 l85 n86 1 (fun b87 a88 => ldI σ58 .i64 b87 a88 (fun n89 => bc (decide (n89 < 1152921504606846976)) (ix A6 l6 n37 1 (fun b90 a91 => 
    ldS σ58 b90 a91 (fun A92 l92 _ => wk .i64 (n61 - n49) (fun n93 => ix A92 l92 n93 1 (fun b94 a95 => 
    ldI σ58 .i64 b94 a95 (fun n96 => wk .i64 (n96 + n50) (fun n97 => J81 (decide (n97 = n62)) σ58))))))) (J81 false σ58))))))) (J81 false σ58)))))))))))) (J28 xs38 σ33))))))))) (fun J18 => 
    ∃ I100 : Nat → Int → Int → Hp → Prop, (∃ n1010, I100 n1010 a1 a1 σ14) ∧ ∀ n101 : Nat, ∀ n102 : Int, ∀ n103 : Int, ∀ σ99 : Hp, I100 n101 n102 n103 σ99 → ∀ _ : Nat → Value, bc (decide (n103 ≤ n1)) (cut (α := Int → Hp → Prop) (fun n107 σ105 => 
    ∀ _ : Nat → Value, wk .i64 (n103 + 1) (fun n108 => bk σ105 n101 (fun m109 σ110 => I100 m109 n107 n108 σ110))) (fun J106 => 
    ix A6 l6 0 1 (fun b111 a112 => ldS σ99 b111 a112 (fun A113 l113 _ => ix A113 l113 n103 1 (fun b114 a115 => 
    ldI σ99 .i64 b114 a115 (fun n116 => ix A6 l6 0 1 (fun b117 a118 => ldS σ99 b117 a118 (fun A119 l119 _ => 
    ix A119 l119 n102 1 (fun b120 a121 => ldI σ99 .i64 b120 a121 (fun n122 => bc (decide (n116 < n122)) (J106 n103 σ99) (J106 n102 σ99))))))))))) (J18 n102 σ99))) (fun J15 => 
    wk .i64 (((a0_n : Nat) : Int) - 1) (fun n123 => ∃ I126 : Nat → Int → Hp → Prop, (∃ n1270, I126 n1270 n123 σ12) ∧ 
    ∀ n127 : Nat, ∀ n128 : Int, ∀ σ125 : Hp, I126 n127 n128 σ125 → ∀ _ : Nat → Value, bc (decide ((0 : Int) ≤ n128)) (cut (α := Hp → Prop) (fun  σ130 => 
    ∀ _ : Nat → Value, wk .i64 (n128 - 1) (fun n132 => bk σ130 n127 (fun m133 σ134 => I126 m133 n132 σ134))) (fun J131 => 
    ix A6 l6 n128 1 (fun b135 a136 => ldS σ125 b135 a136 (fun _ l137 _ => ∃ I140 : Nat → Int → Hp → Prop, (∃ n1410, I140 n1410 0 σ125) ∧ 
    ∀ n141 : Nat, ∀ n142 : Int, ∀ σ139 : Hp, I140 n141 n142 σ139 → ∀ _ : Nat → Value, bc (decide (n142 < ((l137 : Nat) : Int))) (cut (α := Hp → Prop) (fun  σ144 => 
    ∀ _ : Nat → Value, wk .i64 (n142 + 1) (fun n146 => bk σ144 n141 (fun m147 σ148 => I140 m147 n146 σ148))) (fun J145 => 
    ix A6 l6 n128 1 (fun b149 a150 => ldS σ139 b149 a150 (fun A151 l151 _ => wk .i64 (n128 + 1) (fun n152 => 
    ix A6 l6 n152 1 (fun b153 a154 => ldS σ139 b153 a154 (fun A155 l155 _ => ix A155 l155 n142 1 (fun b156 a157 => 
    ldI σ139 .i64 b156 a157 (fun n158 => ix A151 l151 n142 1 (fun b159 a160 => st σ139 b159 a160 (.int .i64 n158) (fun σ161 => 
    ix a0_A a0_n n128 2 (fun b162 a163 => ldI σ161 .i64 b162 a163 (fun n164 => wk .i64 (n142 - n164) (fun n165 => 
    cut (α := Bool → Hp → Prop) (fun t169 σ167 => ∀ _ : Nat → Value, bc t169 (ix A6 l6 n128 1 (fun b170 a171 => 
    ldS σ167 b170 a171 (fun A172 l172 _ => ix A6 l6 n128 1 (fun b173 a174 => ldS σ167 b173 a174 (fun A175 l175 _ => 
    ix A175 l175 n142 1 (fun b176 a177 => ldI σ167 .i64 b176 a177 (fun n178 => ix A6 l6 n128 1 (fun b179 a180 => 
    ldS σ167 b179 a180 (fun A181 l181 _ => ix A181 l181 n165 1 (fun b182 a183 => ldI σ167 .i64 b182 a183 (fun n184 => 
    ix a0_A a0_n n128 2 (fun b185 a186 => ldI σ167 .i64 b185 (a186 + 1) (fun n187 => wk .i64 (n184 + n187) (fun n188 => 
    ix A172 l172 n142 1 (fun b189 a190 => st σ167 b189 a190 (.int .i64 (if n188 < n178 then n188 else n178)) (fun σ191 => 
    J145 σ191)))))))))))))))) (J145 σ167)) (fun J168 => bc (decide ((0 : Int) ≤ n165)) (ix A6 l6 n128 1 (fun b192 a193 => 
    ldS σ161 b192 a193 (fun A194 l194 _ => ix A194 l194 n165 1 (fun b195 a196 => ldI σ161 .i64 b195 a196 (fun n197 => 
    J168 (decide (n197 < 1152921504606846976)) σ161))))) (J168 false σ161)))))))))))))))) (J131 σ139))))) (J15 σ125)))))))) (fun J5 => 
    ∃ I200 : Nat → Option Addr → Nat → Nat → Int → Hp → Prop, (∃ n2010, exl 34 [.slc] (List.replicate (n2 : Int).toNat (none, 0, 0) : List ((Option Addr × Nat × Nat))) σ (fun A202 l202 c202 σ203 => 
    I200 n2010 A202 l202 c202 0 σ203)) ∧ ∀ n201 : Nat, ∀ A204 : Option Addr, ∀ l204 : Nat, ∀ c204 : Nat, ∀ n205 : Int, ∀ σ199 : Hp, I200 n201 A204 l204 c204 n205 σ199 → ∀ _ : Nat → Value, bc (decide (n205 < ((List.length (List.replicate (n2 : Int).toNat (none, 0, 0) : List ((Option Addr × Nat × Nat))) : Nat) : Int))) (wk .i64 (n1 + 1) (fun n206 => 
    exl 3 [.int .i64] ([1152921504606846976] : List Int) σ199 (fun A207 l207 c207 σ208 => cl Tryz.prog (.func (.func 99) #[] #[]) #[(.slice A207 l207 c207), (.int .i64 n206)] σ208 (fun v209 σ210 => 
    ∃ A211 : Option Addr, ∃ l211 : Nat, ∃ c211 : Nat, (v209 = (.slice A211 l211 c211) ∧ adp 3 [.int .i64] A211 l211 c211 σ210 (fun (xs212 : List Int) σ213 => 
    ix A204 l204 n205 1 (fun b214 a215 => exl 3 [.int .i64] xs212 σ213 (fun A216 l216 c216 σ217 => st σ217 b214 a215 (.slice A216 l216 c216) (fun σ218 => 
    wk .i64 (n205 + 1) (fun n219 => bk σ218 n201 (fun m220 σ221 => I200 m220 A204 l204 c204 n219 σ221))))))))))) (J5 A204 l204 c204 σ199)))))
def Af : OA := ⟨[], false, []⟩
def M4 : MAn := (.seq (.txt []) (.seq (.txt []) (.seq (.txt []) (.cut ⟨[false], 1, [.slot 7 (.sc (.slc))], [(0, true), (1, true), (6, true)]⟩ (.seq (.txt []) (.block (.loop ⟨[false], 1, [.slot 7 (.sc (.slc)), .slot 25 (.sc (.int .i64))], [(0, true), (1, true), (6, true), (24, true)]⟩ (.seq (.txt []) (.seq (.cond .leaf .leaf) (.seq (.block (.seq (.txt []) (.txt [Af, Af, Af, Af, Af, ⟨[], false, [.adl 33 3 [.int .i64]]⟩]))) (.txt []))))))) (.seq (.txt []) (.cut ⟨[false], 1, [], [(0, true), (1, true), (6, true), (7, true)]⟩ (.seq (.txt []) (.block (.loop ⟨[false], 1, [.slot 9 (.sc (.int .i64))], [(0, true), (1, true), (6, true), (7, true)]⟩ (.seq (.seq (.txt []) (.cond .leaf .leaf)) (.cut ⟨[false], 1, [], [(0, true), (1, true), (6, true), (7, true), (9, true)]⟩ (.block (.seq (.txt []) (.block (.loop ⟨[false], 1, [.slot 54 (.sc (.int .i64))], [(0, true), (1, true), (6, true), (7, true), (9, true), (53, true)]⟩ (.seq (.txt []) (.seq (.cond .leaf .leaf) (.cut ⟨[false], 1, [], [(0, true), (1, true), (6, true), (7, true), (9, true), (53, true), (54, true)]⟩ (.block (.seq (.txt []) (.seq (.plan [14] (.take 0 Af (.take 1 Af (.take 2 Af (.take 3 Af (.take 4 Af (.take 5 Af (.take 6 Af (.take 7 Af (.take 8 Af (.take 9 Af (.take 10 Af (.take 11 Af (.take 12 Af (.take 13 Af (.alt 14 false Af .done .done)))))))))))))))) (.seq (.txt []) (.cut ⟨[false], 1, [.slot 89 (.sc (.bool))], [(0, true), (1, true), (6, true), (7, true), (9, true), (10, true), (11, true), (53, true), (54, true)]⟩ (.txt [Af, Af, ⟨[], true, []⟩]) (.cond (.plan [27] (.take 0 Af (.take 1 Af (.take 2 Af (.take 3 Af (.take 4 Af (.take 5 Af (.take 6 Af (.take 7 Af (.take 8 Af (.take 9 Af (.take 10 Af (.take 11 Af (.take 12 Af (.take 13 Af (.take 14 Af (.take 15 Af (.take 16 Af (.take 17 Af (.take 18 Af (.take 19 Af (.take 20 Af (.take 21 Af (.take 22 Af (.take 23 Af (.take 24 Af (.take 25 Af (.take 26 Af (.alt 27 false Af .done .done))))))))))))))))))))))))))))) .leaf)))))) (.txt [])))))))) (.txt [])))))) (.seq (.txt []) (.cut ⟨[false], 1, [.slot 12 (.sc (.int .i64))], [(0, true), (7, true)]⟩ (.seq (.txt []) (.block (.loop ⟨[false], 1, [.slot 12 (.sc (.int .i64)), .slot 13 (.sc (.int .i64))], [(0, true), (6, true), (7, true)]⟩ (.seq (.seq (.txt []) (.cond .leaf .leaf)) (.cut ⟨[false], 1, [.slot 12 (.sc (.int .i64))], [(0, true), (6, true), (7, true), (13, true)]⟩ (.block (.seq (.plan [] (.take 0 Af (.take 1 Af (.take 2 Af (.take 3 Af (.take 4 Af (.take 5 Af (.take 6 Af (.take 7 Af (.take 8 Af (.take 9 Af (.take 10 Af (.take 11 Af (.take 12 Af .done)))))))))))))) (.cond (.txt []) .leaf))) (.txt [])))))) (.seq (.seq (.txt []) (.seq (.txt []) (.cond (.seq (.txt []) .leaf) .leaf))) (.seq (.txt []) (.cut ⟨[false, false], 2, [.slot 4 (.hl 1 0), .modl 1 0 3 [.int .i64]], [(5, true)]⟩ (.seq (.txt []) (.block (.loop ⟨[false, false], 2, [.slot 4 (.hl 1 0), .slot 12 (.sc (.int .i64)), .slot 152 (.sc (.int .i64)), .modl 1 0 3 [.int .i64]], [(5, true), (7, true), (150, true), (151, true)]⟩ (.seq (.txt []) (.seq (.cond .leaf .leaf) (.cut ⟨[false, false], 2, [.slot 4 (.hl 1 0), .slot 12 (.sc (.int .i64)), .modl 1 0 3 [.int .i64]], [(5, true), (7, true), (150, true), (151, true), (152, true)]⟩ (.block (.seq (.txt []) (.seq (.txt []) (.block (.loop ⟨[false, false, true], 3, [.slot 4 (.hl 1 0), .slot 12 (.sc (.int .i64)), .slot 15 (.hb 2 0), .slot 16 (.sc (.int .i64)), .modl 1 0 3 [.int .i64]], [(5, true), (7, true), (14, true), (150, true), (151, true), (152, true)]⟩ (.cut ⟨[false, true, true], 3, [.slot 4 (.hl 1 0), .slot 15 (.hb 2 0)], [(5, true), (7, true), (12, true), (14, true), (150, true), (151, true), (152, true)]⟩ (.cut ⟨[false, true, true], 3, [.slot 4 (.hl 1 0), .slot 15 (.hb 2 0), .slot 197 (.sc (.bool))], [(5, true), (7, true), (12, true), (14, true), (150, true), (151, true), (152, true)]⟩ (.plan [] (.take 0 Af (.take 1 Af (.take 2 Af (.take 3 Af (.take 4 ⟨[], true, []⟩ (.take 5 Af (.take 6 Af (.take 7 Af (.take 8 Af (.take 9 Af (.take 10 Af (.take 11 Af (.take 12 Af (.take 13 Af (.take 14 Af (.take 15 Af (.take 16 Af (.take 17 ⟨[], true, []⟩ (.take 18 Af (.take 19 Af (.take 20 Af (.take 21 Af (.take 22 Af (.take 23 Af (.take 24 Af (.take 25 Af (.take 26 Af (.take 27 Af (.take 28 Af (.take 29 Af (.take 30 Af (.take 31 Af (.take 32 Af (.take 33 Af .done))))))))))))))))))))))))))))))))))) (.cond .leaf .leaf)) (.seq (.block (.seq (.txt []) (.txt []))) (.txt [])))))))) (.txt []))))))) (.seq (.txt []) .leaf))))))))))))
set_option maxRecDepth 100000 in
theorem Nc (σ : Hp) (a0_A : Option Addr) (a0_n : Nat) (a0_c : Nat) (a1 : Int) (R : Value → Hp → Prop) (h : Hq σ a0_A a0_n a0_c a1 R) : Al Tryz.prog 60 #[(.slice a0_A a0_n a0_c), (.int .i64 a1)] σ R :=
  Am FX M4 Tryz.func60 rfl (by kernel_rfl) (by kernel_rfl) (M := Hq σ a0_A a0_n a0_c a1 R) (by kernel_rfl) h
theorem FU : AA Tryz.prog 60 = true := by kernel_rfl
abbrev JQ : FuncId := 99
def CZ (σ : Hp) (x_A : Option Addr) (x_n : Nat) (x_c : Nat) (count : Int) (R : Value → Hp → Prop) : Prop :=
  cut (α := Hp → Prop) (fun  σ2 => ∀ _ : Nat → Value, wk .u64 (((x_n : Nat) : Int)) (fun n4 => wk .u64 (count) (fun n5 => 
    cl Tryz.prog (.func (.func 122) #[] #[]) #[(.int .u64 n4), (.int .u64 n5)] σ2 (fun v6 σ7 => ∃ n8 : Int, ∃ n9 : Int, (v6 = (.tuple #[(.int .u64 n8), (.int .u64 n9)]) ∧ 
    cut (α := Hp → Prop) (fun  σ11 => ∀ _ : Nat → Value, wk .i64 (n9) (fun n13 => (0 ≤ n13 ∧ n13 ≤ n13 ∧ 
    n13 ≤ (1000000000 : Int) ∧ exl 3 [.int .i64] (List.replicate (n13 : Int).toNat 0 : List Int) σ11 (fun A14 l14 c14 σ15 => 
    cpy Tryz.prog #[34, 34] 3 #[(.slice A14 l14 c14), (.slice x_A x_n x_c)] σ15 (fun n16 σ17 => cut (α := Hp → Prop) (fun  σ19 => 
    ∀ _ : Nat → Value, rt σ19 R (.slice A14 l14 c14)) (fun J20 => ∃ I23 : Nat → Int → Hp → Prop, (∃ n240, I23 n240 n16 σ17) ∧ 
    ∀ n24 : Nat, ∀ n25 : Int, ∀ σ22 : Hp, I23 n24 n25 σ22 → ∀ _ : Nat → Value, bc (decide (n25 < ((l14 : Nat) : Int))) ((0 ≤ n25 ∧ 
    n25 ≤ ((l14 : Nat) : Int) ∧ (0 ≤ n25 ∧ n25 ≤ ((c14 : Nat) : Int) ∧ cpy Tryz.prog #[34, 34] 3 #[(.slice (if c14 = (n25 : Int).toNat then (A14 : Option Addr) else (A14 : Option Addr).map (fun x => 
    x.add ((n25 : Int).toNat * 1))) (l14 - (n25 : Int).toNat) (c14 - (n25 : Int).toNat)), (.slice A14 ((n25 : Int).toNat) c14)] σ22 (fun n26 σ27 => 
    wk .i64 (n25 + n26) (fun n28 => bk σ27 n24 (fun m29 σ30 => I23 m29 n28 σ30)))))) (J20 σ22))))))) (fun J12 => 
    cut (α := Bool → Hp → Prop) (fun t34 σ32 => ∀ _ : Nat → Value, bc t34 (False) (J12 σ32)) (fun J33 => 
    bc (decide ((0 : Int) < n8)) (J33 true σ7) (J33 (decide ((9223372036854775807 : Int) < n9)) σ7)))))))) (fun J3 => 
    bc (decide (count < 0)) (False) (J3 σ))
def AG : OA := ⟨[], false, []⟩
def HH : MAn := (.seq (.txt []) (.cut ⟨[], 0, [], [(0, true), (1, true)]⟩ (.seq (.txt []) (.cond (.txt []) .leaf)) (.seq (.txt []) (.cut ⟨[], 0, [], [(0, true), (6, true)]⟩ (.cut ⟨[], 0, [.slot 26 (.sc (.bool))], [(0, true), (6, true)]⟩ (.txt [AG, AG, ⟨[], true, []⟩]) (.cond (.txt []) .leaf)) (.seq (.txt []) (.seq (.txt []) (.cut ⟨[false], 1, [], [(7, true)]⟩ (.block (.loop ⟨[false], 1, [.slot 8 (.sc (.int .i64))], [(7, true)]⟩ (.seq (.seq (.txt []) (.cond .leaf .leaf)) (.block (.plan [7] (.take 0 AG (.take 1 AG (.take 2 AG (.take 3 AG (.take 4 AG (.take 5 AG (.take 6 AG (.alt 7 false AG (.take 8 AG (.take 9 AG .done)) .done))))))))))))) (.seq (.txt []) .leaf))))))))
set_option maxRecDepth 100000 in
theorem Hx (σ : Hp) (x_A : Option Addr) (x_n : Nat) (x_c : Nat) (count : Int) (R : Value → Hp → Prop) (h : CZ σ x_A x_n x_c count R) : Al Tryz.prog 99 #[(.slice x_A x_n x_c), (.int .i64 count)] σ R :=
  Am FX HH Tryz.func99 rfl (by kernel_rfl) (by kernel_rfl) (M := CZ σ x_A x_n x_c count R) (by kernel_rfl) h
theorem CS : AA Tryz.prog 99 = true := by kernel_rfl
abbrev ND : FuncId := 7
def Ky (σ : Hp) (R : Value → Hp → Prop) : Prop :=
  exl 3 [.int .i64] ([5] : List Int) σ (fun A1 l1 c1 σ2 => exl 3 [.int .i64] ([0] : List Int) σ2 (fun A3 l3 c3 σ4 => 
    exl 40 [.int .i64, .int .i64] ([(1, 200), (6, 1000)] : List (Int × Int)) σ4 (fun A5 l5 c5 σ6 => cl Tryz.prog (.func (.func 18) #[] #[]) #[(.agg #[(.int .i64 0), (.int .i64 0), (.slice A1 l1 c1), (.slice A3 l3 c3), (.slice A5 l5 c5), (.int .i64 0), (.int .i64 0), (.int .i64 1)]), (.int .i64 7)] σ6 (fun v7 σ8 => 
    ∃ A9 : Option Addr, ∃ l9 : Nat, ∃ c9 : Nat, ∃ n10 : Int, ∃ n11 : Int, (v7 = (.tuple #[(.slice A9 l9 c9), (.int .i64 n10), (.int .i64 n11)]) ∧ 
    bc (decide (n11 = 0)) (bc (decide (n10 = 1200)) (exl 3 [.int .i64] ([1, 1] : List Int) σ8 (fun A12 l12 c12 σ13 => 
    cl Tryz.prog (.func (.func 15) #[] #[]) #[(.slice A9 l9 c9), (.slice A12 l12 c12)] σ13 (fun v14 σ15 => 
    ∃ t16 : Bool, (v14 = (.bool t16) ∧ rt σ15 R (.bool t16))))) (rt σ8 R (.bool false))) (rt σ8 R (.bool false)))))))
def OJ : MAn := (.seq (.txt []) (.seq (.txt []) (.seq (.txt []) (.seq (.txt [⟨[], false, []⟩, ⟨[], false, []⟩, ⟨[], true, []⟩, ⟨[], false, []⟩, ⟨[], false, []⟩, ⟨[], false, []⟩, ⟨[], true, []⟩]) .leaf))))
set_option maxRecDepth 100000 in
theorem Oy (σ : Hp) (R : Value → Hp → Prop) (h : Ky σ  R) : Al Tryz.prog 7 #[] σ R :=
  Am FX OJ Tryz.func7 rfl (by kernel_rfl) (by kernel_rfl) (M := Ky σ  R) (by kernel_rfl) h
theorem Mp : AA Tryz.prog 7 = true := by kernel_rfl
abbrev On : FuncId := 19
def Fk (σ : Hp) (a0_Purses : Int) (a0_Boxes : Int) (a0_Stock_A : Option Addr) (a0_Stock_n : Nat) (a0_Stock_c : Nat) (a0_Cash_A : Option Addr) (a0_Cash_n : Nat) (a0_Cash_c : Nat) (a0_Bundles_A : Option Addr) (a0_Bundles_n : Nat) (a0_Bundles_c : Nat) (a0_Refund : Int) (a0_Band : Int) (a0_Hours : Int) (a1_A : Option Addr) (a1_n : Nat) (a1_c : Nat) (R : Value → Hp → Prop) : Prop :=
  cl Tryz.prog (.func (.func 17) #[] #[]) #[(.agg #[(.int .i64 a0_Purses), (.int .i64 a0_Boxes), (.slice a0_Stock_A a0_Stock_n a0_Stock_c), (.slice a0_Cash_A a0_Cash_n a0_Cash_c), (.slice a0_Bundles_A a0_Bundles_n a0_Bundles_c), (.int .i64 a0_Refund), (.int .i64 a0_Band), (.int .i64 a0_Hours)])] σ (fun v1 σ2 => 
    ∃ n3 : Int, (v1 = (.int .i64 n3) ∧ bc (!decide (n3 = 0)) (rt σ2 R (.tuple #[(.int .i64 0), (.int .i64 0), (.int .i64 n3)])) (cl Tryz.prog (.func (.func 38) #[] #[]) #[(.slice a1_A a1_n a1_c)] σ2 (fun v4 σ5 => 
    ∃ n6 : Int, ∃ t7 : Bool, (v4 = (.tuple #[(.int .i64 n6), (.bool t7)]) ∧ cut (α := Hp → Prop) (fun  σ9 => 
    ∀ _ : Nat → Value, cl Tryz.prog (.func (.func 37) #[] #[]) #[(.agg #[(.int .i64 a0_Purses), (.int .i64 a0_Boxes), (.slice a0_Stock_A a0_Stock_n a0_Stock_c), (.slice a0_Cash_A a0_Cash_n a0_Cash_c), (.slice a0_Bundles_A a0_Bundles_n a0_Bundles_c), (.int .i64 a0_Refund), (.int .i64 a0_Band), (.int .i64 a0_Hours)]), (.int .i64 n6)] σ9 (fun v11 σ12 => 
    ∃ A13 : Option Addr, ∃ l13 : Nat, ∃ c13 : Nat, ∃ n14 : Int, ∃ n15 : Int, (v11 = (.tuple #[(.slice A13 l13 c13), (.int .i64 n14), (.int .i64 n15)]) ∧ 
    bc (!decide (n15 = 0)) (rt σ12 R (.tuple #[(.int .i64 0), (.int .i64 0), (.int .i64 n15)])) (wk .i64 (0 - n14) (fun n16 => 
    cut (α := Int → Int → Hp → Prop) (fun n20 n21 σ18 => ∀ _ : Nat → Value, rt σ18 R (.tuple #[(.int .i64 n20), (.int .i64 n21), (.int .i64 0)])) (fun J19 => 
    ∃ I24 : Nat → Int → Int → Int → Hp → Prop, (∃ n250, I24 n250 n14 n16 0 σ12) ∧ ∀ n25 : Nat, ∀ n26 : Int, ∀ n27 : Int, ∀ n28 : Int, ∀ σ23 : Hp, I24 n25 n26 n27 n28 σ23 → ∀ _ : Nat → Value, bc (decide (n28 < ((a1_n : Nat) : Int))) (ix a1_A a1_n n28 1 (fun b29 a30 => 
    ldI σ23 .i64 b29 a30 (fun n31 => cl Tryz.prog (.func (.func 37) #[] #[]) #[(.agg #[(.int .i64 a0_Purses), (.int .i64 a0_Boxes), (.slice a0_Stock_A a0_Stock_n a0_Stock_c), (.slice a0_Cash_A a0_Cash_n a0_Cash_c), (.slice a0_Bundles_A a0_Bundles_n a0_Bundles_c), (.int .i64 a0_Refund), (.int .i64 a0_Band), (.int .i64 a0_Hours)]), (.int .i64 n31)] σ23 (fun v32 σ33 => 
    ∃ A34 : Option Addr, ∃ l34 : Nat, ∃ c34 : Nat, ∃ n35 : Int, ∃ n36 : Int, (v32 = (.tuple #[(.slice A34 l34 c34), (.int .i64 n35), (.int .i64 n36)]) ∧ 
    bc (!decide (n36 = 0)) (rt σ33 R (.tuple #[(.int .i64 0), (.int .i64 0), (.int .i64 n36)])) (wk .i64 (n27 + n35) (fun n37 => 
    wk .i64 (n28 + 1) (fun n38 => bk σ33 n25 (fun m39 σ40 => I24 m39 n26 n37 n38 σ40))))))))) (J19 n26 n27 σ23))))))) (fun J10 => 
    cut (α := Bool → Hp → Prop) (fun t44 σ42 => ∀ _ : Nat → Value, bc t44 (rt σ42 R (.tuple #[(.int .i64 0), (.int .i64 0), (.int .i64 1)])) (J10 σ42)) (fun J43 => 
    bc (!t7) (J43 true σ5) (cl Tryz.prog (.func (.func 33) #[] #[]) #[(.int .i64 ((a1_n : Nat) : Int)), (.int .i64 1), (.int .i64 20)] σ5 (fun v45 σ46 => 
    ∃ t47 : Bool, (v45 = (.bool t47) ∧ J43 (!t47) σ46))))))))))
def Ln : MAn := (.seq (.txt []) (.seq (.seq (.txt []) (.seq (.txt []) (.cond (.seq (.txt []) .leaf) .leaf))) (.seq (.txt []) (.cut ⟨[true], 1, [.slot 2 (.hb 0 0)], [(1, true), (8, true)]⟩ (.cut ⟨[true], 1, [.slot 2 (.hb 0 0), .slot 32 (.sc (.bool))], [(1, true), (8, true)]⟩ (.txt [⟨[], false, []⟩, ⟨[], false, []⟩, ⟨[], true, []⟩]) (.cond (.seq (.txt []) .leaf) .leaf)) (.seq (.txt []) (.seq (.seq (.txt []) (.cond (.seq (.txt []) .leaf) .leaf)) (.seq (.txt []) (.cut ⟨[true], 1, [.slot 4 (.sc (.int .i64)), .slot 5 (.sc (.int .i64))], []⟩ (.seq (.txt []) (.block (.loop ⟨[true], 1, [.slot 2 (.hb 0 0), .slot 4 (.sc (.int .i64)), .slot 5 (.sc (.int .i64)), .slot 47 (.sc (.int .i64))], [(45, true), (46, true)]⟩ (.seq (.txt []) (.seq (.cond .leaf .leaf) (.seq (.block (.seq (.txt []) (.seq (.txt []) (.seq (.seq (.txt []) (.cond (.seq (.txt []) .leaf) .leaf)) (.txt []))))) (.txt []))))))) (.seq (.txt []) .leaf)))))))))
set_option maxRecDepth 100000 in
theorem Lo (σ : Hp) (a0_Purses : Int) (a0_Boxes : Int) (a0_Stock_A : Option Addr) (a0_Stock_n : Nat) (a0_Stock_c : Nat) (a0_Cash_A : Option Addr) (a0_Cash_n : Nat) (a0_Cash_c : Nat) (a0_Bundles_A : Option Addr) (a0_Bundles_n : Nat) (a0_Bundles_c : Nat) (a0_Refund : Int) (a0_Band : Int) (a0_Hours : Int) (a1_A : Option Addr) (a1_n : Nat) (a1_c : Nat) (R : Value → Hp → Prop) (h : Fk σ a0_Purses a0_Boxes a0_Stock_A a0_Stock_n a0_Stock_c a0_Cash_A a0_Cash_n a0_Cash_c a0_Bundles_A a0_Bundles_n a0_Bundles_c a0_Refund a0_Band a0_Hours a1_A a1_n a1_c R) : Al Tryz.prog 19 #[(.agg #[(.int .i64 a0_Purses), (.int .i64 a0_Boxes), (.slice a0_Stock_A a0_Stock_n a0_Stock_c), (.slice a0_Cash_A a0_Cash_n a0_Cash_c), (.slice a0_Bundles_A a0_Bundles_n a0_Bundles_c), (.int .i64 a0_Refund), (.int .i64 a0_Band), (.int .i64 a0_Hours)]), (.slice a1_A a1_n a1_c)] σ R :=
  Am FX Ln Tryz.func19 rfl (by kernel_rfl) (by kernel_rfl) (M := Fk σ a0_Purses a0_Boxes a0_Stock_A a0_Stock_n a0_Stock_c a0_Cash_A a0_Cash_n a0_Cash_c a0_Bundles_A a0_Bundles_n a0_Bundles_c a0_Refund a0_Band a0_Hours a1_A a1_n a1_c R) (by kernel_rfl) h
theorem I2 : AA Tryz.prog 19 = true := by kernel_rfl
abbrev NP : FuncId := 38
def FV (σ : Hp) (l_A : Option Addr) (l_n : Nat) (_ : Nat) (R : Value → Hp → Prop) : Prop :=
  cut (α := Int → Hp → Prop) (fun n4 σ2 => ∀ _ : Nat → Value, rt σ2 R (.tuple #[(.int .i64 n4), (.bool (decide (n4 ≤ 1000)))])) (fun J3 => 
    ∃ I7 : Nat → Int → Int → Hp → Prop, (∃ n80, I7 n80 0 0 σ) ∧ ∀ n8 : Nat, ∀ n9 : Int, ∀ n10 : Int, ∀ σ6 : Hp, I7 n8 n9 n10 σ6 → ∀ _ : Nat → Value, bc (decide (n10 < ((l_n : Nat) : Int))) (ix l_A l_n n10 1 (fun b11 a12 => 
    ldI σ6 .i64 b11 a12 (fun n13 => cl Tryz.prog (.func (.func 33) #[] #[]) #[(.int .i64 n13), (.int .i64 0), (.int .i64 1000)] σ6 (fun v14 σ15 => 
    ∃ t16 : Bool, (v14 = (.bool t16) ∧ bc (!t16) (rt σ15 R (.tuple #[(.int .i64 0), (.bool false)])) (wk .i64 (n9 + n13) (fun n17 => 
    wk .i64 (n10 + 1) (fun n18 => bk σ15 n8 (fun m19 σ20 => I7 m19 n17 n18 σ20))))))))) (J3 n9 σ6))
def KZ : MAn := (.seq (.txt []) (.seq (.txt []) (.cut ⟨[], 0, [.slot 4 (.sc (.int .i64))], []⟩ (.seq (.txt []) (.block (.loop ⟨[], 0, [.slot 4 (.sc (.int .i64)), .slot 9 (.sc (.int .i64))], [(7, true), (8, true)]⟩ (.seq (.txt []) (.seq (.cond .leaf .leaf) (.seq (.block (.seq (.txt []) (.seq (.seq (.txt []) (.cond (.seq (.txt []) .leaf) .leaf)) (.txt [])))) (.txt []))))))) (.seq (.txt []) .leaf))))
set_option maxRecDepth 100000 in
theorem KN (σ : Hp) (l_A : Option Addr) (l_n : Nat) (l_c : Nat) (R : Value → Hp → Prop) (h : FV σ l_A l_n l_c R) : Al Tryz.prog 38 #[(.slice l_A l_n l_c)] σ R :=
  Am FX KZ Tryz.func38 rfl (by kernel_rfl) (by kernel_rfl) (M := FV σ l_A l_n l_c R) (by kernel_rfl) h
theorem I3 : AA Tryz.prog 38 = true := by kernel_rfl
end Go.Proofs.YtecodlefcmjihaaGreat
