/- M-forms, printed by wip/gen/genm.py out of the translation: each function as a proposition over its local objects, with the lemma that it is what the function does. -/
import Derived.Test.YtgcefaikdplbkaaGreatB11
namespace Go.Proofs.YtgcefaikdplbkaaGreat
open Go.RowKit

theorem mixed_QLWaits : Tryz.prog.follows .mixedOrders = true := by kernel_rfl

abbrev N_law07_QueueWaits : FuncId := 3
/-- waltzer/waltzerlaw07.QueueWaits -/
def M_law07_QueueWaits (σ : Hp) (a0_Rides_A : Option Addr) (a0_Rides_n : Nat) (a0_Rides_c : Nat) (a0_Walk : Int) (a1_A : Option Addr) (a1_n : Nat) (a1_c : Nat) (R : Value → Hp → Prop) : Prop :=
  cl Tryz.prog (.func (.func 6) #[] #[]) #[(.agg #[(.slice a0_Rides_A a0_Rides_n a0_Rides_c), (.int .i64 a0_Walk)]), (.slice a1_A a1_n a1_c)] σ (fun v1 σ2 => 
    ∃ t3 : Bool, (v1 = (.bool t3) ∧ bc t3 (cl Tryz.prog (.func (.func 7) #[] #[]) #[] σ2 (fun v4 σ5 => ∃ t6 : Bool, (v4 = (.bool t6) ∧ 
    rt σ5 R (.bool t6)))) (cl Tryz.prog (.func (.func 9) #[] #[]) #[(.agg #[(.slice a0_Rides_A a0_Rides_n a0_Rides_c), (.int .i64 a0_Walk)])] σ2 (fun v7 σ8 => 
    ∃ A9 : Option Addr, ∃ l9 : Nat, ∃ c9 : Nat, ∃ n10 : Int, (v7 = (.agg #[(.slice A9 l9 c9), (.int .i64 n10)]) ∧ 
    cl Tryz.prog (.func (.func 10) #[] #[]) #[(.slice a1_A a1_n a1_c)] σ8 (fun v11 σ12 => ∃ A13 : Option Addr, ∃ l13 : Nat, ∃ c13 : Nat, (v11 = (.slice A13 l13 c13) ∧ 
    cl Tryz.prog (.func (.func 8) #[] #[]) #[(.agg #[(.slice A9 l9 c9), (.int .i64 n10)]), (.slice A13 l13 c13)] σ12 (fun v14 σ15 => 
    ∃ A16 : Option Addr, ∃ l16 : Nat, ∃ c16 : Nat, ∃ n17 : Int, (v14 = (.tuple #[(.slice A16 l16 c16), (.int .i64 n17)]) ∧ 
    cl Tryz.prog (.func (.func 11) #[] #[]) #[(.agg #[(.slice a0_Rides_A a0_Rides_n a0_Rides_c), (.int .i64 a0_Walk)]), (.slice a1_A a1_n a1_c)] σ15 (fun v18 σ19 => 
    ∃ A20 : Option Addr, ∃ l20 : Nat, ∃ c20 : Nat, ∃ n21 : Int, (v18 = (.tuple #[(.slice A20 l20 c20), (.int .i64 n21)]) ∧ 
    cl Tryz.prog (.func (.func 9) #[] #[]) #[(.agg #[(.slice a0_Rides_A a0_Rides_n a0_Rides_c), (.int .i64 a0_Walk)])] σ19 (fun v22 σ23 => 
    ∃ A24 : Option Addr, ∃ l24 : Nat, ∃ c24 : Nat, ∃ n25 : Int, (v22 = (.agg #[(.slice A24 l24 c24), (.int .i64 n25)]) ∧ 
    cl Tryz.prog (.func (.func 10) #[] #[]) #[(.slice a1_A a1_n a1_c)] σ23 (fun v26 σ27 => ∃ A28 : Option Addr, ∃ l28 : Nat, ∃ c28 : Nat, (v26 = (.slice A28 l28 c28) ∧ 
    cl Tryz.prog (.func (.func 12) #[] #[]) #[(.agg #[(.slice A24 l24 c24), (.int .i64 n25)]), (.slice A28 l28 c28)] σ27 (fun v29 σ30 => 
    ∃ n31 : Int, ∃ n32 : Int, ∃ n33 : Int, (v29 = (.tuple #[(.int .i64 n31), (.int .i64 n32), (.int .i64 n33)]) ∧ 
    cl Tryz.prog (.func (.func 13) #[] #[]) #[(.agg #[(.slice a0_Rides_A a0_Rides_n a0_Rides_c), (.int .i64 a0_Walk)]), (.slice a1_A a1_n a1_c)] σ30 (fun v34 σ35 => 
    ∃ n36 : Int, ∃ n37 : Int, ∃ n38 : Int, (v34 = (.tuple #[(.int .i64 n36), (.int .i64 n37), (.int .i64 n38)]) ∧ 
    cl Tryz.prog (.func (.func 14) #[] #[]) #[(.slice A16 l16 c16), (.slice A20 l20 c20)] σ35 (fun v39 σ40 => 
    ∃ t41 : Bool, (v39 = (.bool t41) ∧ bc t41 (bc (decide (n17 = n21)) (bc (decide (n31 = n36)) (bc (decide (n32 = n37)) (bc (decide (n33 = n38)) (cl Tryz.prog (.func (.func 7) #[] #[]) #[] σ40 (fun v42 σ43 => 
    ∃ t44 : Bool, (v42 = (.bool t44) ∧ rt σ43 R (.bool t44)))) (rt σ40 R (.bool false))) (rt σ40 R (.bool false))) (rt σ40 R (.bool false))) (rt σ40 R (.bool false))) (rt σ40 R (.bool false)))))))))))))))))))))))
def M_law07_QueueWaits_an : MAn := (.seq (.txt []) (.seq (.seq (.txt []) (.cond (.seq (.txt []) .leaf) .leaf)) (.seq (.txt []) (.seq (.txt []) (.seq (.txt []) (.seq (.txt []) (.seq (.txt [⟨[], false, []⟩, ⟨[], false, []⟩, ⟨[], false, []⟩, ⟨[], true, []⟩, ⟨[], false, []⟩, ⟨[], false, []⟩, ⟨[], false, []⟩, ⟨[], false, []⟩, ⟨[], true, []⟩, ⟨[], false, []⟩, ⟨[], false, []⟩, ⟨[], false, []⟩, ⟨[], false, []⟩, ⟨[], true, []⟩, ⟨[], false, []⟩, ⟨[], false, []⟩, ⟨[], false, []⟩, ⟨[], false, []⟩, ⟨[], true, []⟩, ⟨[], false, []⟩, ⟨[], false, []⟩, ⟨[], false, []⟩, ⟨[], false, []⟩, ⟨[], true, []⟩]) .leaf)))))))
set_option maxRecDepth 100000 in
theorem M_law07_QueueWaits_ok (σ : Hp) (a0_Rides_A : Option Addr) (a0_Rides_n : Nat) (a0_Rides_c : Nat) (a0_Walk : Int) (a1_A : Option Addr) (a1_n : Nat) (a1_c : Nat) (R : Value → Hp → Prop) (h : M_law07_QueueWaits σ a0_Rides_A a0_Rides_n a0_Rides_c a0_Walk a1_A a1_n a1_c R) : FCalls Tryz.prog 3 #[(.agg #[(.slice a0_Rides_A a0_Rides_n a0_Rides_c), (.int .i64 a0_Walk)]), (.slice a1_A a1_n a1_c)] σ R :=
  fcalls_of_M mixed_QLWaits M_law07_QueueWaits_an Tryz.func3 rfl (by kernel_rfl) (by kernel_rfl) (M := M_law07_QueueWaits σ a0_Rides_A a0_Rides_n a0_Rides_c a0_Walk a1_A a1_n a1_c R) (by kernel_rfl) h
theorem M_law07_QueueWaits_enter : enterB Tryz.prog 3 = true := by kernel_rfl

end Go.Proofs.YtgcefaikdplbkaaGreat
