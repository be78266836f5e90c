/- M-forms, printed by wip/gen/genm.py out of the translation: each function as a proposition over its local objects, with the lemma that it is what the function does. -/
import Derived.Test.YtgcefaikdplbkaaB11
namespace Go.Proofs.Ytgcefaikdplbkaa
open Go.RowKit

theorem mixed_QL8 : Try.prog.follows .mixedOrders = true := by kernel_rfl

abbrev N_law07_QueueFair : FuncId := 8
/-- waltzer/waltzerlaw07.QueueFair -/
def M_law07_QueueFair (σ : Hp) (a0_Rides_A : Option Addr) (a0_Rides_n : Nat) (a0_Rides_c : Nat) (a0_Walk : Int) (a1_A : Option Addr) (a1_n : Nat) (a1_c : Nat) (R : Value → Hp → Prop) : Prop :=
  cl Try.prog (.func (.func 12) #[] #[]) #[(.agg #[(.slice a0_Rides_A a0_Rides_n a0_Rides_c), (.int .i64 a0_Walk)]), (.slice a1_A a1_n a1_c)] σ (fun v1 σ2 => 
    ∃ t3 : Bool, (v1 = (.bool t3) ∧ bc t3 (cl Try.prog (.func (.func 13) #[] #[]) #[] σ2 (fun v4 σ5 => ∃ t6 : Bool, (v4 = (.bool t6) ∧ 
    rt σ5 R (.bool t6)))) (cl Try.prog (.func (.func 29) #[] #[]) #[(.agg #[(.slice a0_Rides_A a0_Rides_n a0_Rides_c), (.int .i64 a0_Walk)]), (.slice a1_A a1_n a1_c)] σ2 (fun v7 σ8 => 
    ∃ A9 : Option Addr, ∃ l9 : Nat, ∃ c9 : Nat, ∃ n10 : Int, (v7 = (.tuple #[(.slice A9 l9 c9), (.int .i64 n10)]) ∧ 
    bc (!decide (n10 = 0)) (cl Try.prog (.func (.func 13) #[] #[]) #[] σ8 (fun v11 σ12 => ∃ t13 : Bool, (v11 = (.bool t13) ∧ 
    rt σ12 R (.bool t13)))) (cut (α := Hp → Prop) (fun  σ15 => ∀ _ : Nat → Value, cl Try.prog (.func (.func 13) #[] #[]) #[] σ15 (fun v17 σ18 => 
    ∃ t19 : Bool, (v17 = (.bool t19) ∧ rt σ18 R (.bool t19)))) (fun J16 => ∃ I22 : Nat → Int → Hp → Prop, (∃ n230, I22 n230 0 σ8) ∧ 
    ∀ n23 : Nat, ∀ n24 : Int, ∀ σ21 : Hp, I22 n23 n24 σ21 → ∀ _ : Nat → Value, bc (decide (n24 < ((l9 : Nat) : Int))) (cut (α := Hp → Prop) (fun  σ26 => 
    ∀ _ : Nat → Value, wk .i64 (n24 + 1) (fun n28 => bk σ26 n23 (fun m29 σ30 => I22 m29 n28 σ30))) (fun J27 => 
    ∃ I33 : Nat → Int → Hp → Prop, (∃ n340, I33 n340 0 σ21) ∧ ∀ n34 : Nat, ∀ n35 : Int, ∀ σ32 : Hp, I33 n34 n35 σ32 → ∀ _ : Nat → Value, bc (decide (n35 < ((l9 : Nat) : Int))) (cut (α := Hp → Prop) (fun  σ37 => 
    ∀ _ : Nat → Value, wk .i64 (n35 + 1) (fun n39 => bk σ37 n34 (fun m40 σ41 => I33 m40 n39 σ41))) (fun J38 => 
    cut (α := Option Addr → Option Addr → Hp → Prop) (fun p45 p46 σ43 => ∀ _ : Nat → Value, cut (α := Hp → Prop) (fun  σ48 => 
    ∀ _ : Nat → Value, cut (α := Bool → Hp → Prop) (fun t53 σ51 => ∀ _ : Nat → Value, bc t53 (rt σ51 R (.bool false)) (J38 σ51)) (fun J52 => 
    dr p45 (fun b54 o55 => ldI σ48 .i64 b54 (o55 + 2) (fun n56 => dr p46 (fun b57 o58 => ldI σ48 .i64 b57 (o58 + 2) (fun n59 => 
    bc (decide (n56 = n59)) (dr p45 (fun b60 o61 => ldI σ48 .i64 b60 (o61 + 2) (fun n62 => ix a0_Rides_A a0_Rides_n n62 5 (fun b63 a64 => 
    ldB σ48 b63 (a64 + 4) (fun t65 => bc (!t65) (dr p45 (fun b66 o67 => ldB σ48 b66 (o67 + 3) (fun t68 => 
    bc t68 (dr p46 (fun b69 o70 => ldI σ48 .i64 b69 (o70 + 4) (fun n71 => dr p45 (fun b72 o73 => ldI σ48 .i64 b72 (o73 + 4) (fun n74 => 
    bc (decide (n71 < n74)) (dr p46 (fun b75 o76 => ldI σ48 .i64 b75 (o76 + 5) (fun n77 => dr p45 (fun b78 o79 => 
    ldI σ48 .i64 b78 (o79 + 5) (fun n80 => J52 (decide (n80 < n77)) σ48))))) (J52 false σ48)))))) (J52 false σ48)))) (J52 false σ48)))))) (J52 false σ48))))))) (fun J49 => 
    cut (α := Bool → Hp → Prop) (fun t84 σ82 => ∀ _ : Nat → Value, bc t84 (rt σ82 R (.bool false)) (J49 σ82)) (fun J83 => 
    dr p45 (fun b85 o86 => ldI σ43 .i64 b85 (o86 + 2) (fun n87 => bc (decide (n87 < 0)) (J83 true σ43) (dr p45 (fun b88 o89 => 
    ldI σ43 .i64 b88 (o89 + 2) (fun n90 => J83 (decide (((a0_Rides_n : Nat) : Int) ≤ n90)) σ43)))))))) (fun J44 => 
    ix A9 l9 n24 6 (fun b91 a92 => ldI σ32 .i64 b91 a92 (fun n93 => ldI σ32 .i64 b91 (a92 + 1) (fun n94 => 
    ldI σ32 .i64 b91 (a92 + 2) (fun n95 => ldB σ32 b91 (a92 + 3) (fun t96 => ldI σ32 .i64 b91 (a92 + 4) (fun n97 => 
    ldI σ32 .i64 b91 (a92 + 5) (fun n98 => ix A9 l9 n35 6 (fun b99 a100 => ((ldI σ32 .i64 b99 a100 (fun n101 => 
    ldI σ32 .i64 b99 (a100 + 1) (fun n102 => ldI σ32 .i64 b99 (a100 + 2) (fun n103 => ldB σ32 b99 (a100 + 3) (fun t104 => 
    ldI σ32 .i64 b99 (a100 + 4) (fun n105 => ldI σ32 .i64 b99 (a100 + 5) (fun n106 => ((bx σ32 (.cells #[(.int .i64 n93), (.int .i64 n94), (.int .i64 n95), (.bool t96), (.int .i64 n97), (.int .i64 n98)] 42) (fun b107 σ108 => 
    bx σ108 (.cells #[(.int .i64 n101), (.int .i64 n102), (.int .i64 n103), (.bool t104), (.int .i64 n105), (.int .i64 n106)] 42) (fun b109 σ110 => 
    J44 (some ⟨b107, 0, none⟩) (some ⟨b109, 0, none⟩) σ110))) ∧ (bx σ32 (.cells #[(.int .i64 n93), (.int .i64 n94), (.int .i64 n95), (.bool t96), (.int .i64 n97), (.int .i64 n98)] 42) (fun b111 σ112 => 
    bx σ112 (.cells #[(.int .i64 n101), (.int .i64 n102), (.int .i64 n103), (.bool t104), (.int .i64 n105), (.int .i64 n106)] 42) (fun b113 σ114 => 
    J44 (some ⟨b111, 0, none⟩) (some ⟨b113, 0, none⟩) σ114))))))))))) ∧ ((ldI σ32 .i64 b99 a100 (fun n115 => 
    ldI σ32 .i64 b99 (a100 + 1) (fun n116 => ldI σ32 .i64 b99 (a100 + 2) (fun n117 => ldB σ32 b99 (a100 + 3) (fun t118 => 
    ldI σ32 .i64 b99 (a100 + 4) (fun n119 => ldI σ32 .i64 b99 (a100 + 5) (fun n120 => bx σ32 (.cells #[(.int .i64 n93), (.int .i64 n94), (.int .i64 n95), (.bool t96), (.int .i64 n97), (.int .i64 n98)] 42) (fun b121 σ122 => 
    bx σ122 (.cells #[(.int .i64 n115), (.int .i64 n116), (.int .i64 n117), (.bool t118), (.int .i64 n119), (.int .i64 n120)] 42) (fun b123 σ124 => 
    J44 (some ⟨b121, 0, none⟩) (some ⟨b123, 0, none⟩) σ124))))))))) ∧ ((ldI σ32 .i64 b99 a100 (fun n125 => 
    ldI σ32 .i64 b99 (a100 + 1) (fun n126 => ldI σ32 .i64 b99 (a100 + 2) (fun n127 => ldB σ32 b99 (a100 + 3) (fun t128 => 
    ldI σ32 .i64 b99 (a100 + 4) (fun n129 => ldI σ32 .i64 b99 (a100 + 5) (fun n130 => bx σ32 (.cells #[(.int .i64 n93), (.int .i64 n94), (.int .i64 n95), (.bool t96), (.int .i64 n97), (.int .i64 n98)] 42) (fun b131 σ132 => 
    bx σ132 (.cells #[(.int .i64 n125), (.int .i64 n126), (.int .i64 n127), (.bool t128), (.int .i64 n129), (.int .i64 n130)] 42) (fun b133 σ134 => 
    J44 (some ⟨b131, 0, none⟩) (some ⟨b133, 0, none⟩) σ134))))))))) ∧ (ldI σ32 .i64 b99 a100 (fun n135 => 
    ldI σ32 .i64 b99 (a100 + 1) (fun n136 => ldI σ32 .i64 b99 (a100 + 2) (fun n137 => ldB σ32 b99 (a100 + 3) (fun t138 => 
    ldI σ32 .i64 b99 (a100 + 4) (fun n139 => ldI σ32 .i64 b99 (a100 + 5) (fun n140 => bx σ32 (.cells #[(.int .i64 n93), (.int .i64 n94), (.int .i64 n95), (.bool t96), (.int .i64 n97), (.int .i64 n98)] 42) (fun b141 σ142 => 
    bx σ142 (.cells #[(.int .i64 n135), (.int .i64 n136), (.int .i64 n137), (.bool t138), (.int .i64 n139), (.int .i64 n140)] 42) (fun b143 σ144 => 
    J44 (some ⟨b141, 0, none⟩) (some ⟨b143, 0, none⟩) σ144))))))))))) ∧ ((ldI σ32 .i64 b99 a100 (fun n145 => 
    ldI σ32 .i64 b99 (a100 + 1) (fun n146 => ldI σ32 .i64 b99 (a100 + 2) (fun n147 => ldB σ32 b99 (a100 + 3) (fun t148 => 
    ldI σ32 .i64 b99 (a100 + 4) (fun n149 => ldI σ32 .i64 b99 (a100 + 5) (fun n150 => bx σ32 (.cells #[(.int .i64 n93), (.int .i64 n94), (.int .i64 n95), (.bool t96), (.int .i64 n97), (.int .i64 n98)] 42) (fun b151 σ152 => 
    bx σ152 (.cells #[(.int .i64 n145), (.int .i64 n146), (.int .i64 n147), (.bool t148), (.int .i64 n149), (.int .i64 n150)] 42) (fun b153 σ154 => 
    J44 (some ⟨b151, 0, none⟩) (some ⟨b153, 0, none⟩) σ154))))))))) ∧ ((ldI σ32 .i64 b99 a100 (fun n155 => 
    ldI σ32 .i64 b99 (a100 + 1) (fun n156 => ldI σ32 .i64 b99 (a100 + 2) (fun n157 => ldB σ32 b99 (a100 + 3) (fun t158 => 
    ldI σ32 .i64 b99 (a100 + 4) (fun n159 => ldI σ32 .i64 b99 (a100 + 5) (fun n160 => bx σ32 (.cells #[(.int .i64 n93), (.int .i64 n94), (.int .i64 n95), (.bool t96), (.int .i64 n97), (.int .i64 n98)] 42) (fun b161 σ162 => 
    bx σ162 (.cells #[(.int .i64 n155), (.int .i64 n156), (.int .i64 n157), (.bool t158), (.int .i64 n159), (.int .i64 n160)] 42) (fun b163 σ164 => 
    J44 (some ⟨b161, 0, none⟩) (some ⟨b163, 0, none⟩) σ164))))))))) ∧ (ldI σ32 .i64 b99 a100 (fun n165 => 
    ldI σ32 .i64 b99 (a100 + 1) (fun n166 => ldI σ32 .i64 b99 (a100 + 2) (fun n167 => ldB σ32 b99 (a100 + 3) (fun t168 => 
    ldI σ32 .i64 b99 (a100 + 4) (fun n169 => ldI σ32 .i64 b99 (a100 + 5) (fun n170 => bx σ32 (.cells #[(.int .i64 n93), (.int .i64 n94), (.int .i64 n95), (.bool t96), (.int .i64 n97), (.int .i64 n98)] 42) (fun b171 σ172 => 
    bx σ172 (.cells #[(.int .i64 n165), (.int .i64 n166), (.int .i64 n167), (.bool t168), (.int .i64 n169), (.int .i64 n170)] 42) (fun b173 σ174 => 
    J44 (some ⟨b171, 0, none⟩) (some ⟨b173, 0, none⟩) σ174))))))))))))))))))))))) (J27 σ32))) (J16 σ21))))))))
def M_law07_QueueFair_an : MAn := (.seq (.txt []) (.seq (.seq (.txt []) (.cond (.seq (.txt []) .leaf) .leaf)) (.seq (.txt []) (.seq (.seq (.txt []) (.cond (.seq (.txt []) .leaf) .leaf)) (.cut ⟨[true], 1, [], []⟩ (.seq (.txt []) (.block (.loop ⟨[true], 1, [.slot 2 (.hb 0 0), .slot 7 (.sc (.int .i64))], [(5, true)]⟩ (.seq (.seq (.txt []) (.cond .leaf .leaf)) (.cut ⟨[true], 1, [.slot 2 (.hb 0 0)], [(5, true), (7, true)]⟩ (.block (.seq (.txt []) (.block (.loop ⟨[true], 1, [.slot 2 (.hb 0 0), .slot 8 (.sc (.int .i64))], [(5, true), (7, true)]⟩ (.seq (.seq (.txt []) (.cond .leaf .leaf)) (.cut ⟨[true], 1, [.slot 2 (.hb 0 0)], [(5, true), (7, true), (8, true)]⟩ (.block (.cut ⟨[true], 1, [.slot 2 (.hb 0 0), .slot 9 (.sc (.ptr)), .slot 10 (.sc (.ptr))], [(5, true), (7, true), (8, true)]⟩ (.plan [10, 11] (.take 0 ⟨[], false, []⟩ (.take 1 ⟨[], false, []⟩ (.take 2 ⟨[], false, []⟩ (.take 3 ⟨[], false, []⟩ (.take 4 ⟨[], false, []⟩ (.take 5 ⟨[], false, []⟩ (.take 6 ⟨[], false, []⟩ (.alt 7 true ⟨[], false, []⟩ (.alt 8 true ⟨[], false, []⟩ (.alt 9 true ⟨[], false, []⟩ (.alt 10 false ⟨[], false, []⟩ (.alt 11 false ⟨[], false, []⟩ .done .done) .done) .done) (.alt 9 true ⟨[], false, []⟩ (.alt 8 true ⟨[], false, []⟩ (.alt 10 false ⟨[], false, []⟩ (.alt 11 false ⟨[], false, []⟩ .done .done) .done) .done) .done)) (.alt 8 true ⟨[], false, []⟩ (.alt 7 true ⟨[], false, []⟩ (.alt 9 true ⟨[], false, []⟩ (.alt 10 false ⟨[], false, []⟩ (.alt 11 false ⟨[], false, []⟩ .done .done) .done) .done) (.alt 9 true ⟨[], false, []⟩ (.alt 7 true ⟨[], false, []⟩ (.alt 10 false ⟨[], false, []⟩ (.alt 11 false ⟨[], false, []⟩ .done .done) .done) (.alt 10 false ⟨[], false, []⟩ (.take 7 ⟨[], false, []⟩ (.alt 11 false ⟨[], false, []⟩ .done .done)) .done)) .done)) (.alt 9 true ⟨[], false, []⟩ (.alt 7 true ⟨[], false, []⟩ (.alt 8 true ⟨[], false, []⟩ (.alt 10 false ⟨[], false, []⟩ (.alt 11 false ⟨[], false, []⟩ .done .done) .done) .done) (.alt 8 true ⟨[], false, []⟩ (.alt 7 true ⟨[], false, []⟩ (.alt 10 false ⟨[], false, []⟩ (.alt 11 false ⟨[], false, []⟩ .done .done) .done) (.alt 10 false ⟨[], false, []⟩ (.take 7 ⟨[], false, []⟩ (.alt 11 false ⟨[], false, []⟩ .done .done)) .done)) .done)) .done))))))))))) (.cut ⟨[true], 1, [.slot 2 (.hb 0 0)], [(5, true), (7, true), (8, true), (9, true), (10, true)]⟩ (.cut ⟨[true], 1, [.slot 2 (.hb 0 0), .slot 54 (.sc (.bool))], [(5, true), (7, true), (8, true), (9, true), (10, true)]⟩ (.txt [⟨[], false, []⟩, ⟨[], false, []⟩, ⟨[], false, []⟩, ⟨[], true, []⟩]) (.cond (.seq (.txt []) .leaf) .leaf)) (.cut ⟨[true], 1, [.slot 2 (.hb 0 0), .slot 87 (.sc (.bool))], [(5, true), (7, true), (8, true)]⟩ (.txt [⟨[], false, []⟩, ⟨[], false, []⟩, ⟨[], false, []⟩, ⟨[], false, []⟩, ⟨[], false, []⟩, ⟨[], true, []⟩, ⟨[], false, []⟩, ⟨[], false, []⟩, ⟨[], false, []⟩, ⟨[], false, []⟩, ⟨[], false, []⟩, ⟨[], false, []⟩, ⟨[], false, []⟩, ⟨[], false, []⟩, ⟨[], false, []⟩, ⟨[], true, []⟩, ⟨[], false, []⟩, ⟨[], false, []⟩, ⟨[], false, []⟩, ⟨[], true, []⟩, ⟨[], false, []⟩, ⟨[], false, []⟩, ⟨[], false, []⟩, ⟨[], false, []⟩, ⟨[], false, []⟩, ⟨[], false, []⟩, ⟨[], true, []⟩]) (.cond (.seq (.txt []) .leaf) .leaf))))) (.txt []))))))) (.txt [])))))) (.seq (.txt []) .leaf))))))
set_option maxRecDepth 100000 in
theorem M_law07_QueueFair_ok (σ : Hp) (a0_Rides_A : Option Addr) (a0_Rides_n : Nat) (a0_Rides_c : Nat) (a0_Walk : Int) (a1_A : Option Addr) (a1_n : Nat) (a1_c : Nat) (R : Value → Hp → Prop) (h : M_law07_QueueFair σ a0_Rides_A a0_Rides_n a0_Rides_c a0_Walk a1_A a1_n a1_c R) : FCalls Try.prog 8 #[(.agg #[(.slice a0_Rides_A a0_Rides_n a0_Rides_c), (.int .i64 a0_Walk)]), (.slice a1_A a1_n a1_c)] σ R :=
  fcalls_of_M mixed_QL8 M_law07_QueueFair_an Try.func8 rfl (by kernel_rfl) (by kernel_rfl) (M := M_law07_QueueFair σ a0_Rides_A a0_Rides_n a0_Rides_c a0_Walk a1_A a1_n a1_c R) (by kernel_rfl) h
theorem M_law07_QueueFair_enter : enterB Try.prog 8 = true := by kernel_rfl

end Go.Proofs.Ytgcefaikdplbkaa
