/- M-forms, printed by wip/gen/genm.py out of the translation: each function as a proposition over its local objects, with the lemma that it is what the function does. -/
import Derived.Test.YtgcefaikdplbkaaB11
namespace Go.Proofs.Ytgcefaikdplbkaa
open Go.RowKit

theorem mixed_QL4 : Try.prog.follows .mixedOrders = true := by kernel_rfl

abbrev N_law07_QueueHome : FuncId := 4
/-- waltzer/waltzerlaw07.QueueHome -/
def M_law07_QueueHome (σ : Hp) (f_Rides_A : Option Addr) (f_Rides_n : Nat) (f_Rides_c : Nat) (f_Walk : Int) (l_A : Option Addr) (l_n : Nat) (l_c : Nat) (R : Value → Hp → Prop) : Prop :=
  cl Try.prog (.func (.func 12) #[] #[]) #[(.agg #[(.slice f_Rides_A f_Rides_n f_Rides_c), (.int .i64 f_Walk)]), (.slice l_A l_n l_c)] σ (fun v1 σ2 => 
    ∃ t3 : Bool, (v1 = (.bool t3) ∧ bc t3 (cl Try.prog (.func (.func 13) #[] #[]) #[] σ2 (fun v4 σ5 => ∃ t6 : Bool, (v4 = (.bool t6) ∧ 
    rt σ5 R (.bool t6)))) (cl Try.prog (.func (.func 15) #[] #[]) #[(.agg #[(.slice f_Rides_A f_Rides_n f_Rides_c), (.int .i64 f_Walk)])] σ2 (fun v7 σ8 => 
    ∃ A9 : Option Addr, ∃ l9 : Nat, ∃ c9 : Nat, ∃ n10 : Int, (v7 = (.agg #[(.slice A9 l9 c9), (.int .i64 n10)]) ∧ 
    cl Try.prog (.func (.func 16) #[] #[]) #[(.slice l_A l_n l_c)] σ8 (fun v11 σ12 => ∃ A13 : Option Addr, ∃ l13 : Nat, ∃ c13 : Nat, (v11 = (.slice A13 l13 c13) ∧ 
    cl Try.prog (.func (.func 18) #[] #[]) #[(.agg #[(.slice A9 l9 c9), (.int .i64 n10)]), (.slice A13 l13 c13)] σ12 (fun v14 σ15 => 
    ∃ A16 : Option Addr, ∃ l16 : Nat, ∃ c16 : Nat, ∃ n17 : Int, (v14 = (.tuple #[(.slice A16 l16 c16), (.int .i64 n17)]) ∧ 
    cl Try.prog (.func (.func 19) #[] #[]) #[(.agg #[(.slice f_Rides_A f_Rides_n f_Rides_c), (.int .i64 f_Walk)]), (.slice l_A l_n l_c)] σ15 (fun v18 σ19 => 
    ∃ A20 : Option Addr, ∃ l20 : Nat, ∃ c20 : Nat, ∃ n21 : Int, (v18 = (.tuple #[(.slice A20 l20 c20), (.int .i64 n21)]) ∧ 
    cl Try.prog (.func (.func 20) #[] #[]) #[(.slice A16 l16 c16), (.slice A20 l20 c20)] σ19 (fun v22 σ23 => 
    ∃ t24 : Bool, (v22 = (.bool t24) ∧ bc t24 (bc (decide (n17 = n21)) (cl Try.prog (.func (.func 13) #[] #[]) #[] σ23 (fun v25 σ26 => 
    ∃ t27 : Bool, (v25 = (.bool t27) ∧ rt σ26 R (.bool t27)))) (rt σ23 R (.bool false))) (rt σ23 R (.bool false)))))))))))))))
def M_law07_QueueHome_an : MAn := (.seq (.txt []) (.seq (.seq (.txt []) (.cond (.seq (.txt []) .leaf) .leaf)) (.seq (.txt []) (.seq (.txt []) (.seq (.txt [⟨[], false, []⟩, ⟨[], false, []⟩, ⟨[], false, []⟩, ⟨[], true, []⟩, ⟨[], false, []⟩, ⟨[], false, []⟩, ⟨[], false, []⟩, ⟨[], false, []⟩, ⟨[], true, []⟩]) .leaf)))))
set_option maxRecDepth 100000 in
theorem M_law07_QueueHome_ok (σ : Hp) (f_Rides_A : Option Addr) (f_Rides_n : Nat) (f_Rides_c : Nat) (f_Walk : Int) (l_A : Option Addr) (l_n : Nat) (l_c : Nat) (R : Value → Hp → Prop) (h : M_law07_QueueHome σ f_Rides_A f_Rides_n f_Rides_c f_Walk l_A l_n l_c R) : FCalls Try.prog 4 #[(.agg #[(.slice f_Rides_A f_Rides_n f_Rides_c), (.int .i64 f_Walk)]), (.slice l_A l_n l_c)] σ R :=
  fcalls_of_M mixed_QL4 M_law07_QueueHome_an Try.func4 rfl (by kernel_rfl) (by kernel_rfl) (M := M_law07_QueueHome σ f_Rides_A f_Rides_n f_Rides_c f_Walk l_A l_n l_c R) (by kernel_rfl) h
theorem M_law07_QueueHome_enter : enterB Try.prog 4 = true := by kernel_rfl

end Go.Proofs.Ytgcefaikdplbkaa
