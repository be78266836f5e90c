/- M-forms, printed by wip/gen/genm.py out of the translation: each function as a proposition over its local objects, with the lemma that it is what the function does. -/
import Derived.Test.YtgcefaikdplbkaaB11
namespace Go.Proofs.Ytgcefaikdplbkaa
open Go.RowKit

theorem mixed_QL3 : Try.prog.follows .mixedOrders = true := by kernel_rfl

abbrev N_law07_QueueChecks : FuncId := 3
/-- waltzer/waltzerlaw07.QueueChecks -/
def M_law07_QueueChecks (σ : Hp) (f_Rides_A : Option Addr) (f_Rides_n : Nat) (f_Rides_c : Nat) (f_Walk : Int) (l_A : Option Addr) (l_n : Nat) (l_c : Nat) (R : Value → Hp → Prop) : Prop :=
  cl Try.prog (.func (.func 12) #[] #[]) #[(.agg #[(.slice f_Rides_A f_Rides_n f_Rides_c), (.int .i64 f_Walk)]), (.slice l_A l_n l_c)] σ (fun v1 σ2 => 
    ∃ t3 : Bool, (v1 = (.bool t3) ∧ bc t3 (cl Try.prog (.func (.func 13) #[] #[]) #[] σ2 (fun v4 σ5 => ∃ t6 : Bool, (v4 = (.bool t6) ∧ 
    rt σ5 R (.bool t6)))) (cl Try.prog (.func (.func 15) #[] #[]) #[(.agg #[(.slice f_Rides_A f_Rides_n f_Rides_c), (.int .i64 f_Walk)])] σ2 (fun v7 σ8 => 
    ∃ A9 : Option Addr, ∃ l9 : Nat, ∃ c9 : Nat, ∃ n10 : Int, (v7 = (.agg #[(.slice A9 l9 c9), (.int .i64 n10)]) ∧ 
    (Hp.Sub σ2 σ8 ∧ cl Try.prog (.func (.func 16) #[] #[]) #[(.slice l_A l_n l_c)] σ8 (fun v11 σ12 => ∃ A13 : Option Addr, ∃ l13 : Nat, ∃ c13 : Nat, (v11 = (.slice A13 l13 c13) ∧ 
    (Hp.Sub σ8 σ12 ∧ cl Try.prog (.func (.func 14) #[] #[]) #[(.agg #[(.slice A9 l9 c9), (.int .i64 n10)]), (.slice A13 l13 c13)] σ12 (fun v14 σ15 => 
    ∃ n16 : Int, (v14 = (.int .i64 n16) ∧ (Hp.Sub σ12 σ15 ∧ cl Try.prog (.func (.func 17) #[] #[]) #[(.agg #[(.slice f_Rides_A f_Rides_n f_Rides_c), (.int .i64 f_Walk)]), (.slice l_A l_n l_c)] σ15 (fun v17 σ18 => 
    ∃ n19 : Int, (v17 = (.int .i64 n19) ∧ bc (decide (n16 = n19)) (cl Try.prog (.func (.func 13) #[] #[]) #[] σ18 (fun v20 σ21 => 
    ∃ t22 : Bool, (v20 = (.bool t22) ∧ rt σ21 R (.bool t22)))) (rt σ18 R (.bool false))))))))))))))))
def M_law07_QueueChecks_an : MAn := (.seq (.txt []) (.seq (.seq (.txt []) (.cond (.seq (.txt []) .leaf) .leaf)) (.seq (.plan [7, 10] (.take 0 ⟨[], false, []⟩ (.take 2 ⟨[], false, []⟩ (.take 5 ⟨[], false, []⟩ (.take 6 ⟨[], false, []⟩ (.alt 1 true ⟨[], false, []⟩ (.alt 3 true ⟨[], false, []⟩ (.alt 4 true ⟨[], false, []⟩ (.alt 7 false ⟨[], false, []⟩ (.take 8 ⟨[], false, []⟩ (.take 9 ⟨[], true, []⟩ (.alt 10 false ⟨[], false, []⟩ (.take 11 ⟨[], false, []⟩ (.take 12 ⟨[], false, []⟩ .done)) .done))) .done) .done) .done) .done)))))) .leaf)))
set_option maxRecDepth 100000 in
theorem M_law07_QueueChecks_ok (σ : Hp) (f_Rides_A : Option Addr) (f_Rides_n : Nat) (f_Rides_c : Nat) (f_Walk : Int) (l_A : Option Addr) (l_n : Nat) (l_c : Nat) (R : Value → Hp → Prop) (h : M_law07_QueueChecks σ f_Rides_A f_Rides_n f_Rides_c f_Walk l_A l_n l_c R) : FCalls Try.prog 3 #[(.agg #[(.slice f_Rides_A f_Rides_n f_Rides_c), (.int .i64 f_Walk)]), (.slice l_A l_n l_c)] σ R :=
  fcalls_of_M mixed_QL3 M_law07_QueueChecks_an Try.func3 rfl (by kernel_rfl) (by kernel_rfl) (M := M_law07_QueueChecks σ f_Rides_A f_Rides_n f_Rides_c f_Walk l_A l_n l_c R) (by kernel_rfl) h
theorem M_law07_QueueChecks_enter : enterB Try.prog 3 = true := by kernel_rfl

end Go.Proofs.Ytgcefaikdplbkaa
