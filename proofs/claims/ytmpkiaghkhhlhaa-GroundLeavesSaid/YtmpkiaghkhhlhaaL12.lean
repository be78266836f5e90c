/- M-forms, printed by wip/gen/genm.py out of the translation: each function as a proposition over its local objects, with the lemma that it is what the function does. -/
import Derived.Test.YtmpkiaghkhhlhaaB11
namespace Go.Proofs.Ytmpkiaghkhhlhaa
open Go.RowKit

theorem mixed_L12 : Try.prog.follows .mixedOrders = true := by kernel_rfl

abbrev N_law04_GroundLeaves : FuncId := 12
/-- waltzer/waltzerlaw04.GroundLeaves -/
def M_law04_GroundLeaves (σ : Hp) (g_Wide : Int) (g_High : Int) (g_Cells_A : Option Addr) (g_Cells_n : Nat) (g_Cells_c : Nat) (g_Heights_A : Option Addr) (g_Heights_n : Nat) (g_Heights_c : Nat) (l_A : Option Addr) (l_n : Nat) (l_c : Nat) (c_Sites_A : Option Addr) (c_Sites_n : Nat) (c_Sites_c : Nat) (c_People_A : Option Addr) (c_People_n : Nat) (c_People_c : Nat) (c_Most : Int) (R : Value → Hp → Prop) : Prop :=
  cl Try.prog (.func (.func 13) #[] #[]) #[(.agg #[(.int .i64 g_Wide), (.int .i64 g_High), (.slice g_Cells_A g_Cells_n g_Cells_c), (.slice g_Heights_A g_Heights_n g_Heights_c)]), (.slice l_A l_n l_c)] σ (fun v1 σ2 => 
    ∃ t3 : Bool, (v1 = (.bool t3) ∧ bc t3 (cl Try.prog (.func (.func 14) #[] #[]) #[] σ2 (fun v4 σ5 => ∃ t6 : Bool, (v4 = (.bool t6) ∧ 
    rt σ5 R (.bool t6)))) (cl Try.prog (.func (.func 42) #[] #[]) #[(.agg #[(.int .i64 g_Wide), (.int .i64 g_High), (.slice g_Cells_A g_Cells_n g_Cells_c), (.slice g_Heights_A g_Heights_n g_Heights_c)]), (.slice l_A l_n l_c), (.slice c_Sites_A c_Sites_n c_Sites_c), (.slice c_People_A c_People_n c_People_c), (.int .i64 c_Most)] σ2 (fun v7 σ8 => 
    ∃ A9 : Option Addr, ∃ l9 : Nat, ∃ c9 : Nat, ∃ n10 : Int, (v7 = (.tuple #[(.slice A9 l9 c9), (.int .i64 n10)]) ∧ 
    cl Try.prog (.func (.func 43) #[] #[]) #[(.agg #[(.int .i64 g_Wide), (.int .i64 g_High), (.slice g_Cells_A g_Cells_n g_Cells_c), (.slice g_Heights_A g_Heights_n g_Heights_c)]), (.slice l_A l_n l_c), (.slice c_Sites_A c_Sites_n c_Sites_c), (.slice c_People_A c_People_n c_People_c), (.int .i64 c_Most)] σ8 (fun v11 σ12 => 
    ∃ A13 : Option Addr, ∃ l13 : Nat, ∃ c13 : Nat, ∃ n14 : Int, (v11 = (.tuple #[(.slice A13 l13 c13), (.int .i64 n14)]) ∧ 
    bc (decide (n10 = n14)) (cl Try.prog (.func (.func 17) #[] #[]) #[(.slice A9 l9 c9), (.slice A13 l13 c13)] σ12 (fun v15 σ16 => 
    ∃ t17 : Bool, (v15 = (.bool t17) ∧ bc t17 (cl Try.prog (.func (.func 14) #[] #[]) #[] σ16 (fun v18 σ19 => 
    ∃ t20 : Bool, (v18 = (.bool t20) ∧ rt σ19 R (.bool t20)))) (rt σ16 R (.bool false))))) (bc false (cl Try.prog (.func (.func 14) #[] #[]) #[] σ12 (fun v21 σ22 => 
    ∃ t23 : Bool, (v21 = (.bool t23) ∧ rt σ22 R (.bool t23)))) (rt σ12 R (.bool false))))))))))
def M_law04_GroundLeaves_an : MAn := (.seq (.txt []) (.seq (.seq (.txt []) (.cond (.seq (.txt []) .leaf) .leaf)) (.seq (.txt []) (.seq (.txt []) (.seq (.txt [⟨[], false, []⟩, ⟨[], false, []⟩, ⟨[], false, []⟩, ⟨[], true, []⟩, ⟨[], false, []⟩, ⟨[], false, []⟩, ⟨[], false, []⟩, ⟨[], false, []⟩, ⟨[], true, []⟩]) .leaf)))))
set_option maxRecDepth 100000 in
theorem M_law04_GroundLeaves_ok (σ : Hp) (g_Wide : Int) (g_High : Int) (g_Cells_A : Option Addr) (g_Cells_n : Nat) (g_Cells_c : Nat) (g_Heights_A : Option Addr) (g_Heights_n : Nat) (g_Heights_c : Nat) (l_A : Option Addr) (l_n : Nat) (l_c : Nat) (c_Sites_A : Option Addr) (c_Sites_n : Nat) (c_Sites_c : Nat) (c_People_A : Option Addr) (c_People_n : Nat) (c_People_c : Nat) (c_Most : Int) (R : Value → Hp → Prop) (h : M_law04_GroundLeaves σ g_Wide g_High g_Cells_A g_Cells_n g_Cells_c g_Heights_A g_Heights_n g_Heights_c l_A l_n l_c c_Sites_A c_Sites_n c_Sites_c c_People_A c_People_n c_People_c c_Most R) : FCalls Try.prog 12 #[(.agg #[(.int .i64 g_Wide), (.int .i64 g_High), (.slice g_Cells_A g_Cells_n g_Cells_c), (.slice g_Heights_A g_Heights_n g_Heights_c)]), (.slice l_A l_n l_c), (.agg #[(.slice c_Sites_A c_Sites_n c_Sites_c), (.slice c_People_A c_People_n c_People_c), (.int .i64 c_Most)])] σ R :=
  fcalls_of_M mixed_L12 M_law04_GroundLeaves_an Try.func12 rfl (by kernel_rfl) (by kernel_rfl) (M := M_law04_GroundLeaves σ g_Wide g_High g_Cells_A g_Cells_n g_Cells_c g_Heights_A g_Heights_n g_Heights_c l_A l_n l_c c_Sites_A c_Sites_n c_Sites_c c_People_A c_People_n c_People_c c_Most R) (by kernel_rfl) h
theorem M_law04_GroundLeaves_enter : enterB Try.prog 12 = true := by kernel_rfl

end Go.Proofs.Ytmpkiaghkhhlhaa
