/- M-forms, printed by wip/gen/genm.py out of the translation: each function as a proposition over its local objects, with the lemma that it is what the function does. -/
import Derived.Test.YtmpkiaghkhhlhaaB11
namespace Go.Proofs.Ytmpkiaghkhhlhaa
open Go.RowKit

theorem mixed_L7 : Try.prog.follows .mixedOrders = true := by kernel_rfl

abbrev N_law04_GroundLays : FuncId := 7
/-- waltzer/waltzerlaw04.GroundLays -/
def M_law04_GroundLays (σ : Hp) (g_Wide : Int) (g_High : Int) (g_Cells_A : Option Addr) (g_Cells_n : Nat) (g_Cells_c : Nat) (g_Heights_A : Option Addr) (g_Heights_n : Nat) (g_Heights_c : Nat) (l_A : Option Addr) (l_n : Nat) (l_c : Nat) (R : Value → Hp → Prop) : Prop :=
  cut (α := Hp → Prop) (fun  σ2 => ∀ _ : Nat → Value, cl Try.prog (.func (.func 26) #[] #[]) #[(.agg #[(.int .i64 g_Wide), (.int .i64 g_High), (.slice g_Cells_A g_Cells_n g_Cells_c), (.slice g_Heights_A g_Heights_n g_Heights_c)]), (.slice l_A l_n l_c)] σ2 (fun v4 σ5 => 
    ∃ A6 : Option Addr, ∃ l6 : Nat, ∃ c6 : Nat, ∃ n7 : Int, (v4 = (.tuple #[(.slice A6 l6 c6), (.int .i64 n7)]) ∧ 
    cl Try.prog (.func (.func 27) #[] #[]) #[(.agg #[(.int .i64 g_Wide), (.int .i64 g_High), (.slice g_Cells_A g_Cells_n g_Cells_c), (.slice g_Heights_A g_Heights_n g_Heights_c)]), (.slice l_A l_n l_c)] σ5 (fun v8 σ9 => 
    ∃ A10 : Option Addr, ∃ l10 : Nat, ∃ c10 : Nat, ∃ n11 : Int, (v8 = (.tuple #[(.slice A10 l10 c10), (.int .i64 n11)]) ∧ 
    cut (α := Hp → Prop) (fun  σ13 => ∀ _ : Nat → Value, cl Try.prog (.func (.func 25) #[] #[]) #[(.agg #[(.int .i64 g_Wide), (.int .i64 g_High), (.slice g_Cells_A g_Cells_n g_Cells_c), (.slice g_Heights_A g_Heights_n g_Heights_c)]), (.slice l_A l_n l_c)] σ13 (fun v15 σ16 => 
    ∃ A17 : Option Addr, ∃ l17 : Nat, ∃ c17 : Nat, ∃ n18 : Int, (v15 = (.tuple #[(.slice A17 l17 c17), (.int .i64 n18)]) ∧ 
    cl Try.prog (.func (.func 28) #[] #[]) #[(.agg #[(.int .i64 g_Wide), (.int .i64 g_High), (.slice g_Cells_A g_Cells_n g_Cells_c), (.slice g_Heights_A g_Heights_n g_Heights_c)]), (.slice l_A l_n l_c)] σ16 (fun v19 σ20 => 
    ∃ A21 : Option Addr, ∃ l21 : Nat, ∃ c21 : Nat, ∃ n22 : Int, (v19 = (.tuple #[(.slice A21 l21 c21), (.int .i64 n22)]) ∧ 
    bc (decide (n18 = n22)) (cl Try.prog (.func (.func 24) #[] #[]) #[(.slice A17 l17 c17), (.slice A21 l21 c21)] σ20 (fun v23 σ24 => 
    ∃ t25 : Bool, (v23 = (.bool t25) ∧ bc t25 (cl Try.prog (.func (.func 14) #[] #[]) #[] σ24 (fun v26 σ27 => 
    ∃ t28 : Bool, (v26 = (.bool t28) ∧ rt σ27 R (.bool t28)))) (rt σ24 R (.bool false))))) (bc false (cl Try.prog (.func (.func 14) #[] #[]) #[] σ20 (fun v29 σ30 => 
    ∃ t31 : Bool, (v29 = (.bool t31) ∧ rt σ30 R (.bool t31)))) (rt σ20 R (.bool false)))))))) (fun J14 => 
    cut (α := Bool → Hp → Prop) (fun t35 σ33 => ∀ _ : Nat → Value, bc t35 (rt σ33 R (.bool false)) (J14 σ33)) (fun J34 => 
    bc (!decide (n7 = n11)) (J34 true σ9) (cl Try.prog (.func (.func 24) #[] #[]) #[(.slice A6 l6 c6), (.slice A10 l10 c10)] σ9 (fun v36 σ37 => 
    ∃ t38 : Bool, (v36 = (.bool t38) ∧ J34 (!t38) σ37)))))))))) (fun J3 => cut (α := Bool → Hp → Prop) (fun t42 σ40 => 
    ∀ _ : Nat → Value, bc t42 (cl Try.prog (.func (.func 14) #[] #[]) #[] σ40 (fun v43 σ44 => ∃ t45 : Bool, (v43 = (.bool t45) ∧ 
    rt σ44 R (.bool t45)))) (J3 σ40)) (fun J41 => cl Try.prog (.func (.func 13) #[] #[]) #[(.agg #[(.int .i64 g_Wide), (.int .i64 g_High), (.slice g_Cells_A g_Cells_n g_Cells_c), (.slice g_Heights_A g_Heights_n g_Heights_c)]), (.slice l_A l_n l_c)] σ (fun v46 σ47 => 
    ∃ t48 : Bool, (v46 = (.bool t48) ∧ bc t48 (J41 true σ47) (J41 (decide (((l_n : Nat) : Int) = 4)) σ47)))))
def M_law04_GroundLays_an : MAn := (.seq (.txt []) (.cut ⟨[true], 1, [.slot 2 (.hb 0 0)], [(1, true)]⟩ (.cut ⟨[true], 1, [.slot 2 (.hb 0 0), .slot 16 (.sc (.bool))], [(1, true)]⟩ (.txt [⟨[], false, []⟩, ⟨[], false, []⟩, ⟨[], false, []⟩, ⟨[], true, []⟩]) (.cond (.seq (.txt []) .leaf) .leaf)) (.seq (.txt []) (.seq (.txt []) (.cut ⟨[true], 1, [.slot 2 (.hb 0 0)], [(1, true)]⟩ (.cut ⟨[true], 1, [.slot 2 (.hb 0 0), .slot 38 (.sc (.bool))], [(1, true)]⟩ (.txt [⟨[], false, []⟩, ⟨[], false, []⟩, ⟨[], false, []⟩, ⟨[], true, []⟩]) (.cond (.seq (.txt []) .leaf) .leaf)) (.seq (.txt []) (.seq (.txt []) (.seq (.txt [⟨[], false, []⟩, ⟨[], false, []⟩, ⟨[], false, []⟩, ⟨[], true, []⟩, ⟨[], false, []⟩, ⟨[], false, []⟩, ⟨[], false, []⟩, ⟨[], false, []⟩, ⟨[], true, []⟩]) .leaf))))))))
set_option maxRecDepth 100000 in
theorem M_law04_GroundLays_ok (σ : Hp) (g_Wide : Int) (g_High : Int) (g_Cells_A : Option Addr) (g_Cells_n : Nat) (g_Cells_c : Nat) (g_Heights_A : Option Addr) (g_Heights_n : Nat) (g_Heights_c : Nat) (l_A : Option Addr) (l_n : Nat) (l_c : Nat) (R : Value → Hp → Prop) (h : M_law04_GroundLays σ g_Wide g_High g_Cells_A g_Cells_n g_Cells_c g_Heights_A g_Heights_n g_Heights_c l_A l_n l_c R) : FCalls Try.prog 7 #[(.agg #[(.int .i64 g_Wide), (.int .i64 g_High), (.slice g_Cells_A g_Cells_n g_Cells_c), (.slice g_Heights_A g_Heights_n g_Heights_c)]), (.slice l_A l_n l_c)] σ R :=
  fcalls_of_M mixed_L7 M_law04_GroundLays_an Try.func7 rfl (by kernel_rfl) (by kernel_rfl) (M := M_law04_GroundLays σ g_Wide g_High g_Cells_A g_Cells_n g_Cells_c g_Heights_A g_Heights_n g_Heights_c l_A l_n l_c R) (by kernel_rfl) h
theorem M_law04_GroundLays_enter : enterB Try.prog 7 = true := by kernel_rfl

end Go.Proofs.Ytmpkiaghkhhlhaa
