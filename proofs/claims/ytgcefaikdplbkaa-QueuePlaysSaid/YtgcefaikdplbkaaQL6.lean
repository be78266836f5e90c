/- M-forms, printed by wip/gen/genm.py out of the translation: each function as a proposition over its local objects, with the lemma that it is what the function does. -/
import Derived.Test.YtgcefaikdplbkaaB11
namespace Go.Proofs.Ytgcefaikdplbkaa
open Go.RowKit

theorem mixed_QL6 : Try.prog.follows .mixedOrders = true := by kernel_rfl

abbrev N_law07_QueuePlays : FuncId := 6
/-- waltzer/waltzerlaw07.QueuePlays -/
def M_law07_QueuePlays (σ : Hp) (f_Rides_A : Option Addr) (f_Rides_n : Nat) (f_Rides_c : Nat) (f_Walk : Int) (l_A : Option Addr) (l_n : Nat) (l_c : Nat) (R : Value → Hp → Prop) : Prop :=
  cl Try.prog (.func (.func 12) #[] #[]) #[(.agg #[(.slice f_Rides_A f_Rides_n f_Rides_c), (.int .i64 f_Walk)]), (.slice l_A l_n l_c)] σ (fun v1 σ2 => 
    ∃ t3 : Bool, (v1 = (.bool t3) ∧ bc t3 (cl Try.prog (.func (.func 13) #[] #[]) #[] σ2 (fun v4 σ5 => ∃ t6 : Bool, (v4 = (.bool t6) ∧ 
    rt σ5 R (.bool t6)))) (cl Try.prog (.func (.func 16) #[] #[]) #[(.slice l_A l_n l_c)] σ2 (fun v7 σ8 => 
    ∃ A9 : Option Addr, ∃ l9 : Nat, ∃ c9 : Nat, (v7 = (.slice A9 l9 c9) ∧ cl Try.prog (.func (.func 15) #[] #[]) #[(.agg #[(.slice f_Rides_A f_Rides_n f_Rides_c), (.int .i64 f_Walk)])] σ8 (fun v10 σ11 => 
    ∃ A12 : Option Addr, ∃ l12 : Nat, ∃ c12 : Nat, ∃ n13 : Int, (v10 = (.agg #[(.slice A12 l12 c12), (.int .i64 n13)]) ∧ 
    cl Try.prog (.func (.func 25) #[] #[]) #[(.agg #[(.slice A12 l12 c12), (.int .i64 n13)]), (.slice A9 l9 c9)] σ11 (fun v14 σ15 => 
    ∃ A16 : Option Addr, ∃ l16 : Nat, ∃ c16 : Nat, ∃ n17 : Int, (v14 = (.tuple #[(.slice A16 l16 c16), (.int .i64 n17)]) ∧ 
    cl Try.prog (.func (.func 26) #[] #[]) #[(.agg #[(.slice f_Rides_A f_Rides_n f_Rides_c), (.int .i64 f_Walk)]), (.slice l_A l_n l_c)] σ15 (fun v18 σ19 => 
    ∃ A20 : Option Addr, ∃ l20 : Nat, ∃ c20 : Nat, ∃ n21 : Int, (v18 = (.tuple #[(.slice A20 l20 c20), (.int .i64 n21)]) ∧ 
    cl Try.prog (.func (.func 27) #[] #[]) #[(.slice A16 l16 c16), (.slice A20 l20 c20)] σ19 (fun v22 σ23 => 
    ∃ t24 : Bool, (v22 = (.bool t24) ∧ bc t24 (bc (decide (n17 = n21)) (cl Try.prog (.func (.func 28) #[] #[]) #[(.slice A9 l9 c9), (.slice l_A l_n l_c)] σ23 (fun v25 σ26 => 
    ∃ t27 : Bool, (v25 = (.bool t27) ∧ bc t27 (cl Try.prog (.func (.func 13) #[] #[]) #[] σ26 (fun v28 σ29 => 
    ∃ t30 : Bool, (v28 = (.bool t30) ∧ rt σ29 R (.bool t30)))) (rt σ26 R (.bool false))))) (rt σ23 R (.bool false))) (rt σ23 R (.bool false)))))))))))))))
def M_law07_QueuePlays_an : MAn := (.seq (.txt []) (.seq (.seq (.txt []) (.cond (.seq (.txt []) .leaf) .leaf)) (.seq (.txt []) (.seq (.txt []) (.seq (.txt []) (.seq (.txt [⟨[], false, []⟩, ⟨[], false, []⟩, ⟨[], false, []⟩, ⟨[], true, []⟩, ⟨[], false, []⟩, ⟨[], false, []⟩, ⟨[], false, []⟩, ⟨[], false, []⟩, ⟨[], true, []⟩, ⟨[], false, []⟩, ⟨[], false, []⟩, ⟨[], false, []⟩, ⟨[], false, []⟩, ⟨[], true, []⟩]) .leaf))))))
set_option maxRecDepth 100000 in
theorem M_law07_QueuePlays_ok (σ : Hp) (f_Rides_A : Option Addr) (f_Rides_n : Nat) (f_Rides_c : Nat) (f_Walk : Int) (l_A : Option Addr) (l_n : Nat) (l_c : Nat) (R : Value → Hp → Prop) (h : M_law07_QueuePlays σ f_Rides_A f_Rides_n f_Rides_c f_Walk l_A l_n l_c R) : FCalls Try.prog 6 #[(.agg #[(.slice f_Rides_A f_Rides_n f_Rides_c), (.int .i64 f_Walk)]), (.slice l_A l_n l_c)] σ R :=
  fcalls_of_M mixed_QL6 M_law07_QueuePlays_an Try.func6 rfl (by kernel_rfl) (by kernel_rfl) (M := M_law07_QueuePlays σ f_Rides_A f_Rides_n f_Rides_c f_Walk l_A l_n l_c R) (by kernel_rfl) h
theorem M_law07_QueuePlays_enter : enterB Try.prog 6 = true := by kernel_rfl

end Go.Proofs.Ytgcefaikdplbkaa
