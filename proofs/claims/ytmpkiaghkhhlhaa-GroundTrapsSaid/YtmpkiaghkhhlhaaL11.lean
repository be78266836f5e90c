/- M-forms, printed by wip/gen/genm.py out of the translation: each function as a proposition over its local objects, with the lemma that it is what the function does. -/
import Derived.Test.YtmpkiaghkhhlhaaB11
namespace Go.Proofs.Ytmpkiaghkhhlhaa
open Go.RowKit

theorem mixed_L11 : Try.prog.follows .mixedOrders = true := by kernel_rfl

abbrev N_law04_GroundTraps : FuncId := 11
/-- waltzer/waltzerlaw04.GroundTraps -/
def M_law04_GroundTraps (σ : Hp) (a0_Wide : Int) (a0_High : Int) (a0_Cells_A : Option Addr) (a0_Cells_n : Nat) (a0_Cells_c : Nat) (a0_Heights_A : Option Addr) (a0_Heights_n : Nat) (a0_Heights_c : Nat) (a1_A : Option Addr) (a1_n : Nat) (a1_c : Nat) (a2_Sites_A : Option Addr) (a2_Sites_n : Nat) (a2_Sites_c : Nat) (a2_A : Int) (a2_B : Int) (R : Value → Hp → Prop) : Prop :=
  cl Try.prog (.func (.func 13) #[] #[]) #[(.agg #[(.int .i64 a0_Wide), (.int .i64 a0_High), (.slice a0_Cells_A a0_Cells_n a0_Cells_c), (.slice a0_Heights_A a0_Heights_n a0_Heights_c)]), (.slice a1_A a1_n a1_c)] σ (fun v1 σ2 => 
    ∃ t3 : Bool, (v1 = (.bool t3) ∧ bc t3 (cl Try.prog (.func (.func 14) #[] #[]) #[] σ2 (fun v4 σ5 => ∃ t6 : Bool, (v4 = (.bool t6) ∧ 
    rt σ5 R (.bool t6)))) (cl Try.prog (.func (.func 35) #[] #[]) #[(.agg #[(.int .i64 a0_Wide), (.int .i64 a0_High), (.slice a0_Cells_A a0_Cells_n a0_Cells_c), (.slice a0_Heights_A a0_Heights_n a0_Heights_c)]), (.slice a1_A a1_n a1_c), (.slice a2_Sites_A a2_Sites_n a2_Sites_c), (.int .i64 a2_A)] σ2 (fun v7 σ8 => 
    ∃ A9 : Option Addr, ∃ l9 : Nat, ∃ c9 : Nat, ∃ n10 : Int, (v7 = (.tuple #[(.slice A9 l9 c9), (.int .i64 n10)]) ∧ 
    cl Try.prog (.func (.func 37) #[] #[]) #[(.agg #[(.int .i64 a0_Wide), (.int .i64 a0_High), (.slice a0_Cells_A a0_Cells_n a0_Cells_c), (.slice a0_Heights_A a0_Heights_n a0_Heights_c)]), (.slice a1_A a1_n a1_c), (.slice a2_Sites_A a2_Sites_n a2_Sites_c), (.int .i64 a2_A)] σ8 (fun v11 σ12 => 
    ∃ A13 : Option Addr, ∃ l13 : Nat, ∃ c13 : Nat, ∃ n14 : Int, (v11 = (.tuple #[(.slice A13 l13 c13), (.int .i64 n14)]) ∧ 
    cut (α := Hp → Prop) (fun  σ16 => ∀ _ : Nat → Value, cl Try.prog (.func (.func 38) #[] #[]) #[(.agg #[(.int .i64 a0_Wide), (.int .i64 a0_High), (.slice a0_Cells_A a0_Cells_n a0_Cells_c), (.slice a0_Heights_A a0_Heights_n a0_Heights_c)]), (.slice a1_A a1_n a1_c), (.slice a2_Sites_A a2_Sites_n a2_Sites_c)] σ16 (fun v18 σ19 => 
    ∃ n20 : Int, ∃ n21 : Int, ∃ t22 : Bool, ∃ n23 : Int, (v18 = (.tuple #[(.int .i64 n20), (.int .i64 n21), (.bool t22), (.int .i64 n23)]) ∧ 
    cl Try.prog (.func (.func 39) #[] #[]) #[(.agg #[(.int .i64 a0_Wide), (.int .i64 a0_High), (.slice a0_Cells_A a0_Cells_n a0_Cells_c), (.slice a0_Heights_A a0_Heights_n a0_Heights_c)]), (.slice a1_A a1_n a1_c), (.slice a2_Sites_A a2_Sites_n a2_Sites_c)] σ19 (fun v24 σ25 => 
    ∃ n26 : Int, ∃ n27 : Int, ∃ t28 : Bool, ∃ n29 : Int, (v24 = (.tuple #[(.int .i64 n26), (.int .i64 n27), (.bool t28), (.int .i64 n29)]) ∧ 
    cut (α := Hp → Prop) (fun  σ31 => ∀ _ : Nat → Value, cl Try.prog (.func (.func 40) #[] #[]) #[(.agg #[(.int .i64 a0_Wide), (.int .i64 a0_High), (.slice a0_Cells_A a0_Cells_n a0_Cells_c), (.slice a0_Heights_A a0_Heights_n a0_Heights_c)]), (.slice a1_A a1_n a1_c), (.slice a2_Sites_A a2_Sites_n a2_Sites_c), (.int .i64 a2_B)] σ31 (fun v33 σ34 => 
    ∃ A35 : Option Addr, ∃ l35 : Nat, ∃ c35 : Nat, ∃ n36 : Int, (v33 = (.tuple #[(.slice A35 l35 c35), (.int .i64 n36)]) ∧ 
    cl Try.prog (.func (.func 41) #[] #[]) #[(.agg #[(.int .i64 a0_Wide), (.int .i64 a0_High), (.slice a0_Cells_A a0_Cells_n a0_Cells_c), (.slice a0_Heights_A a0_Heights_n a0_Heights_c)]), (.slice a1_A a1_n a1_c), (.slice a2_Sites_A a2_Sites_n a2_Sites_c), (.int .i64 a2_B)] σ34 (fun v37 σ38 => 
    ∃ A39 : Option Addr, ∃ l39 : Nat, ∃ c39 : Nat, ∃ n40 : Int, (v37 = (.tuple #[(.slice A39 l39 c39), (.int .i64 n40)]) ∧ 
    bc (decide (n36 = n40)) (cl Try.prog (.func (.func 17) #[] #[]) #[(.slice A35 l35 c35), (.slice A39 l39 c39)] σ38 (fun v41 σ42 => 
    ∃ t43 : Bool, (v41 = (.bool t43) ∧ bc t43 (cl Try.prog (.func (.func 14) #[] #[]) #[] σ42 (fun v44 σ45 => 
    ∃ t46 : Bool, (v44 = (.bool t46) ∧ rt σ45 R (.bool t46)))) (rt σ42 R (.bool false))))) (bc false (cl Try.prog (.func (.func 14) #[] #[]) #[] σ38 (fun v47 σ48 => 
    ∃ t49 : Bool, (v47 = (.bool t49) ∧ rt σ48 R (.bool t49)))) (rt σ38 R (.bool false)))))))) (fun J32 => 
    cut (α := Bool → Hp → Prop) (fun t53 σ51 => ∀ _ : Nat → Value, bc t53 (rt σ51 R (.bool false)) (J32 σ51)) (fun J52 => 
    bc (!decide (n20 = n26)) (bc true (bc true (J52 true σ25) (J52 (!decide (n23 = n29)) σ25)) (bc (!(t22 == t28)) (J52 true σ25) (J52 (!decide (n23 = n29)) σ25))) (bc (!decide (n21 = n27)) (bc true (J52 true σ25) (J52 (!decide (n23 = n29)) σ25)) (bc (!(t22 == t28)) (J52 true σ25) (J52 (!decide (n23 = n29)) σ25)))))))))) (fun J17 => 
    cut (α := Bool → Hp → Prop) (fun t57 σ55 => ∀ _ : Nat → Value, bc t57 (rt σ55 R (.bool false)) (J17 σ55)) (fun J56 => 
    bc (!decide (n10 = n14)) (J56 true σ12) (cl Try.prog (.func (.func 17) #[] #[]) #[(.slice A9 l9 c9), (.slice A13 l13 c13)] σ12 (fun v58 σ59 => 
    ∃ t60 : Bool, (v58 = (.bool t60) ∧ J56 (!t60) σ59))))))))))))
def M_law04_GroundTraps_an : MAn := (.seq (.txt []) (.seq (.seq (.txt []) (.cond (.seq (.txt []) .leaf) .leaf)) (.seq (.txt []) (.seq (.txt []) (.cut ⟨[true, true], 2, [.slot 3 (.hb 0 0), .slot 5 (.hb 1 0)], [(1, true)]⟩ (.cut ⟨[true, true], 2, [.slot 3 (.hb 0 0), .slot 5 (.hb 1 0), .slot 49 (.sc (.bool))], [(1, true)]⟩ (.txt [⟨[], false, []⟩, ⟨[], false, []⟩, ⟨[], false, []⟩, ⟨[], true, []⟩]) (.cond (.seq (.txt []) .leaf) .leaf)) (.seq (.txt []) (.seq (.txt []) (.cut ⟨[true, true], 2, [.slot 3 (.hb 0 0), .slot 5 (.hb 1 0)], [(1, true)]⟩ (.cut ⟨[true, true], 2, [.slot 3 (.hb 0 0), .slot 5 (.hb 1 0), .slot 87 (.sc (.bool))], [(1, true)]⟩ (.txt [⟨[], false, []⟩, ⟨[], false, []⟩, ⟨[], false, []⟩, ⟨[], true, []⟩, ⟨[], false, []⟩, ⟨[], false, []⟩, ⟨[], false, []⟩, ⟨[], false, []⟩, ⟨[], true, []⟩, ⟨[], false, []⟩, ⟨[], false, []⟩, ⟨[], false, []⟩, ⟨[], false, []⟩, ⟨[], true, []⟩]) (.cond (.seq (.txt []) .leaf) .leaf)) (.seq (.txt []) (.seq (.txt []) (.seq (.txt [⟨[], false, []⟩, ⟨[], false, []⟩, ⟨[], false, []⟩, ⟨[], true, []⟩, ⟨[], false, []⟩, ⟨[], false, []⟩, ⟨[], false, []⟩, ⟨[], false, []⟩, ⟨[], true, []⟩]) .leaf)))))))))))
set_option maxRecDepth 100000 in
theorem M_law04_GroundTraps_ok (σ : Hp) (a0_Wide : Int) (a0_High : Int) (a0_Cells_A : Option Addr) (a0_Cells_n : Nat) (a0_Cells_c : Nat) (a0_Heights_A : Option Addr) (a0_Heights_n : Nat) (a0_Heights_c : Nat) (a1_A : Option Addr) (a1_n : Nat) (a1_c : Nat) (a2_Sites_A : Option Addr) (a2_Sites_n : Nat) (a2_Sites_c : Nat) (a2_A : Int) (a2_B : Int) (R : Value → Hp → Prop) (h : M_law04_GroundTraps σ a0_Wide a0_High a0_Cells_A a0_Cells_n a0_Cells_c a0_Heights_A a0_Heights_n a0_Heights_c a1_A a1_n a1_c a2_Sites_A a2_Sites_n a2_Sites_c a2_A a2_B R) : FCalls Try.prog 11 #[(.agg #[(.int .i64 a0_Wide), (.int .i64 a0_High), (.slice a0_Cells_A a0_Cells_n a0_Cells_c), (.slice a0_Heights_A a0_Heights_n a0_Heights_c)]), (.slice a1_A a1_n a1_c), (.agg #[(.slice a2_Sites_A a2_Sites_n a2_Sites_c), (.int .i64 a2_A), (.int .i64 a2_B)])] σ R :=
  fcalls_of_M mixed_L11 M_law04_GroundTraps_an Try.func11 rfl (by kernel_rfl) (by kernel_rfl) (M := M_law04_GroundTraps σ a0_Wide a0_High a0_Cells_A a0_Cells_n a0_Cells_c a0_Heights_A a0_Heights_n a0_Heights_c a1_A a1_n a1_c a2_Sites_A a2_Sites_n a2_Sites_c a2_A a2_B R) (by kernel_rfl) h
theorem M_law04_GroundTraps_enter : enterB Try.prog 11 = true := by kernel_rfl

end Go.Proofs.Ytmpkiaghkhhlhaa
