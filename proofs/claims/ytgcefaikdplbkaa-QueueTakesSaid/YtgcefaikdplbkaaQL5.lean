/- M-forms, printed by wip/gen/genm.py out of the translation: each function as a proposition over its local objects, with the lemma that it is what the function does. -/
import Derived.Test.YtgcefaikdplbkaaB11
namespace Go.Proofs.Ytgcefaikdplbkaa
open Go.RowKit

theorem mixed_QL5 : Try.prog.follows .mixedOrders = true := by kernel_rfl

abbrev N_law07_QueueTakes : FuncId := 5
/-- waltzer/waltzerlaw07.QueueTakes -/
def M_law07_QueueTakes (σ : Hp) (a0_Rides_A : Option Addr) (a0_Rides_n : Nat) (a0_Rides_c : Nat) (a0_Walk : Int) (a1_A : Option Addr) (a1_n : Nat) (a1_c : Nat) (R : Value → Hp → Prop) : Prop :=
  cl Try.prog (.func (.func 12) #[] #[]) #[(.agg #[(.slice a0_Rides_A a0_Rides_n a0_Rides_c), (.int .i64 a0_Walk)]), (.slice a1_A a1_n a1_c)] σ (fun v1 σ2 => 
    ∃ t3 : Bool, (v1 = (.bool t3) ∧ bc t3 (cl Try.prog (.func (.func 13) #[] #[]) #[] σ2 (fun v4 σ5 => ∃ t6 : Bool, (v4 = (.bool t6) ∧ 
    rt σ5 R (.bool t6)))) (cl Try.prog (.func (.func 15) #[] #[]) #[(.agg #[(.slice a0_Rides_A a0_Rides_n a0_Rides_c), (.int .i64 a0_Walk)])] σ2 (fun v7 σ8 => 
    ∃ A9 : Option Addr, ∃ l9 : Nat, ∃ c9 : Nat, ∃ n10 : Int, (v7 = (.agg #[(.slice A9 l9 c9), (.int .i64 n10)]) ∧ 
    cl Try.prog (.func (.func 16) #[] #[]) #[(.slice a1_A a1_n a1_c)] σ8 (fun v11 σ12 => ∃ A13 : Option Addr, ∃ l13 : Nat, ∃ c13 : Nat, (v11 = (.slice A13 l13 c13) ∧ 
    cl Try.prog (.func (.func 21) #[] #[]) #[(.agg #[(.slice A9 l9 c9), (.int .i64 n10)]), (.slice A13 l13 c13)] σ12 (fun v14 σ15 => 
    ∃ A16 : Option Addr, ∃ l16 : Nat, ∃ c16 : Nat, ∃ n17 : Int, (v14 = (.tuple #[(.slice A16 l16 c16), (.int .i64 n17)]) ∧ 
    cl Try.prog (.func (.func 22) #[] #[]) #[(.agg #[(.slice a0_Rides_A a0_Rides_n a0_Rides_c), (.int .i64 a0_Walk)]), (.slice a1_A a1_n a1_c)] σ15 (fun v18 σ19 => 
    ∃ A20 : Option Addr, ∃ l20 : Nat, ∃ c20 : Nat, ∃ n21 : Int, (v18 = (.tuple #[(.slice A20 l20 c20), (.int .i64 n21)]) ∧ 
    cl Try.prog (.func (.func 15) #[] #[]) #[(.agg #[(.slice a0_Rides_A a0_Rides_n a0_Rides_c), (.int .i64 a0_Walk)])] σ19 (fun v22 σ23 => 
    ∃ A24 : Option Addr, ∃ l24 : Nat, ∃ c24 : Nat, ∃ n25 : Int, (v22 = (.agg #[(.slice A24 l24 c24), (.int .i64 n25)]) ∧ 
    cl Try.prog (.func (.func 16) #[] #[]) #[(.slice a1_A a1_n a1_c)] σ23 (fun v26 σ27 => ∃ A28 : Option Addr, ∃ l28 : Nat, ∃ c28 : Nat, (v26 = (.slice A28 l28 c28) ∧ 
    cl Try.prog (.func (.func 23) #[] #[]) #[(.agg #[(.slice A24 l24 c24), (.int .i64 n25)]), (.slice A28 l28 c28)] σ27 (fun v29 σ30 => 
    ∃ A31 : Option Addr, ∃ l31 : Nat, ∃ c31 : Nat, ∃ n32 : Int, (v29 = (.tuple #[(.slice A31 l31 c31), (.int .i64 n32)]) ∧ 
    cl Try.prog (.func (.func 24) #[] #[]) #[(.agg #[(.slice a0_Rides_A a0_Rides_n a0_Rides_c), (.int .i64 a0_Walk)]), (.slice a1_A a1_n a1_c)] σ30 (fun v33 σ34 => 
    ∃ A35 : Option Addr, ∃ l35 : Nat, ∃ c35 : Nat, ∃ n36 : Int, (v33 = (.tuple #[(.slice A35 l35 c35), (.int .i64 n36)]) ∧ 
    cl Try.prog (.func (.func 20) #[] #[]) #[(.slice A16 l16 c16), (.slice A20 l20 c20)] σ34 (fun v37 σ38 => 
    ∃ t39 : Bool, (v37 = (.bool t39) ∧ bc t39 (bc (decide (n17 = n21)) (cl Try.prog (.func (.func 20) #[] #[]) #[(.slice A31 l31 c31), (.slice A35 l35 c35)] σ38 (fun v40 σ41 => 
    ∃ t42 : Bool, (v40 = (.bool t42) ∧ bc t42 (bc (decide (n32 = n36)) (cl Try.prog (.func (.func 13) #[] #[]) #[] σ41 (fun v43 σ44 => 
    ∃ t45 : Bool, (v43 = (.bool t45) ∧ rt σ44 R (.bool t45)))) (rt σ41 R (.bool false))) (rt σ41 R (.bool false))))) (rt σ38 R (.bool false))) (rt σ38 R (.bool false)))))))))))))))))))))))
def M_law07_QueueTakes_an : MAn := (.seq (.txt []) (.seq (.seq (.txt []) (.cond (.seq (.txt []) .leaf) .leaf)) (.seq (.txt []) (.seq (.txt []) (.seq (.txt []) (.seq (.txt []) (.seq (.txt [⟨[], false, []⟩, ⟨[], false, []⟩, ⟨[], false, []⟩, ⟨[], true, []⟩, ⟨[], false, []⟩, ⟨[], false, []⟩, ⟨[], false, []⟩, ⟨[], false, []⟩, ⟨[], true, []⟩, ⟨[], false, []⟩, ⟨[], false, []⟩, ⟨[], false, []⟩, ⟨[], false, []⟩, ⟨[], true, []⟩, ⟨[], false, []⟩, ⟨[], false, []⟩, ⟨[], false, []⟩, ⟨[], false, []⟩, ⟨[], true, []⟩]) .leaf)))))))
set_option maxRecDepth 100000 in
theorem M_law07_QueueTakes_ok (σ : Hp) (a0_Rides_A : Option Addr) (a0_Rides_n : Nat) (a0_Rides_c : Nat) (a0_Walk : Int) (a1_A : Option Addr) (a1_n : Nat) (a1_c : Nat) (R : Value → Hp → Prop) (h : M_law07_QueueTakes σ a0_Rides_A a0_Rides_n a0_Rides_c a0_Walk a1_A a1_n a1_c R) : FCalls Try.prog 5 #[(.agg #[(.slice a0_Rides_A a0_Rides_n a0_Rides_c), (.int .i64 a0_Walk)]), (.slice a1_A a1_n a1_c)] σ R :=
  fcalls_of_M mixed_QL5 M_law07_QueueTakes_an Try.func5 rfl (by kernel_rfl) (by kernel_rfl) (M := M_law07_QueueTakes σ a0_Rides_A a0_Rides_n a0_Rides_c a0_Walk a1_A a1_n a1_c R) (by kernel_rfl) h
theorem M_law07_QueueTakes_enter : enterB Try.prog 5 = true := by kernel_rfl

end Go.Proofs.Ytgcefaikdplbkaa
