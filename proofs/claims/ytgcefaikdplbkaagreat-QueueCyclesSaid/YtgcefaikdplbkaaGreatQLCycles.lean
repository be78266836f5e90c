/- M-forms, printed by wip/gen/genm.py out of the translation: each function as a proposition over its local objects, with the lemma that it is what the function does. -/
import Derived.Test.YtgcefaikdplbkaaGreatB11
namespace Go.Proofs.YtgcefaikdplbkaaGreat
open Go.RowKit

theorem mixed_QLCycles : Tryz.prog.follows .mixedOrders = true := by kernel_rfl

abbrev N_law07_QueueCycles : FuncId := 5
/-- waltzer/waltzerlaw07.QueueCycles -/
def M_law07_QueueCycles (σ : Hp) (a0_Rides_A : Option Addr) (a0_Rides_n : Nat) (a0_Rides_c : Nat) (a0_Walk : Int) (a1_A : Option Addr) (a1_n : Nat) (a1_c : Nat) (a2_Ride : Int) (a2_Low : Int) (a2_High : Int) (R : Value → Hp → Prop) : Prop :=
  cut (α := Hp → Prop) (fun  σ2 => ∀ _ : Nat → Value, cl Tryz.prog (.func (.func 9) #[] #[]) #[(.agg #[(.slice a0_Rides_A a0_Rides_n a0_Rides_c), (.int .i64 a0_Walk)])] σ2 (fun v4 σ5 => 
    ∃ A6 : Option Addr, ∃ l6 : Nat, ∃ c6 : Nat, ∃ n7 : Int, (v4 = (.agg #[(.slice A6 l6 c6), (.int .i64 n7)]) ∧ 
    (Hp.Sub σ2 σ5 ∧ cl Tryz.prog (.func (.func 10) #[] #[]) #[(.slice a1_A a1_n a1_c)] σ5 (fun v8 σ9 => ∃ A10 : Option Addr, ∃ l10 : Nat, ∃ c10 : Nat, (v8 = (.slice A10 l10 c10) ∧ 
    (Hp.Sub σ5 σ9 ∧ cl Tryz.prog (.func (.func 18) #[] #[]) #[(.agg #[(.slice A6 l6 c6), (.int .i64 n7)]), (.slice A10 l10 c10), (.int .i64 a2_Ride), (.int .i64 a2_Low), (.int .i64 a2_High)] σ9 (fun v11 σ12 => 
    ∃ n13 : Int, ∃ n14 : Int, (v11 = (.tuple #[(.int .i64 n13), (.int .i64 n14)]) ∧ cl Tryz.prog (.func (.func 19) #[] #[]) #[(.agg #[(.slice a0_Rides_A a0_Rides_n a0_Rides_c), (.int .i64 a0_Walk)]), (.slice a1_A a1_n a1_c), (.int .i64 a2_Ride), (.int .i64 a2_Low), (.int .i64 a2_High)] σ12 (fun v15 σ16 => 
    ∃ n17 : Int, ∃ n18 : Int, (v15 = (.tuple #[(.int .i64 n17), (.int .i64 n18)]) ∧ bc (decide (n13 = n17)) (bc (decide (n14 = n18)) (cl Tryz.prog (.func (.func 7) #[] #[]) #[] σ16 (fun v19 σ20 => 
    ∃ t21 : Bool, (v19 = (.bool t21) ∧ rt σ20 R (.bool t21)))) (rt σ16 R (.bool false))) (rt σ16 R (.bool false))))))))))))) (fun J3 => 
    cut (α := Bool → Hp → Prop) (fun t25 σ23 => ∀ _ : Nat → Value, bc t25 (cl Tryz.prog (.func (.func 7) #[] #[]) #[] σ23 (fun v26 σ27 => 
    ∃ t28 : Bool, (v26 = (.bool t28) ∧ rt σ27 R (.bool t28)))) (J3 σ23)) (fun J24 => cl Tryz.prog (.func (.func 6) #[] #[]) #[(.agg #[(.slice a0_Rides_A a0_Rides_n a0_Rides_c), (.int .i64 a0_Walk)]), (.slice a1_A a1_n a1_c)] σ (fun v29 σ30 => 
    ∃ t31 : Bool, (v29 = (.bool t31) ∧ bc t31 (J24 true σ30) (bc (decide ((1 : Int) ≤ a2_Low)) (bc (decide (a2_High ≤ 100)) (wk .i64 (a2_High - a2_Low) (fun n32 => 
    bc (decide ((5 : Int) < n32)) (wk .i64 (a2_High - a2_Low) (fun n33 => J24 (decide (n33 ≤ 20)) σ30)) (J24 false σ30))) (J24 false σ30)) (J24 false σ30))))))
def M_law07_QueueCycles_an : MAn := (.seq (.txt []) (.cut ⟨[true, true], 2, [.slot 3 (.hb 0 0), .slot 5 (.hb 1 0)], [(1, true)]⟩ (.cut ⟨[true, true], 2, [.slot 3 (.hb 0 0), .slot 5 (.hb 1 0), .slot 39 (.sc (.bool))], [(1, true)]⟩ (.txt [⟨[], false, []⟩, ⟨[], false, []⟩, ⟨[], false, []⟩, ⟨[], true, []⟩, ⟨[], false, []⟩, ⟨[], false, []⟩, ⟨[], false, []⟩, ⟨[], true, []⟩, ⟨[], false, []⟩, ⟨[], false, []⟩, ⟨[], false, []⟩, ⟨[], false, []⟩, ⟨[], true, []⟩, ⟨[], false, []⟩, ⟨[], false, []⟩, ⟨[], false, []⟩, ⟨[], false, []⟩, ⟨[], false, []⟩, ⟨[], false, []⟩, ⟨[], false, []⟩, ⟨[], true, []⟩]) (.cond (.seq (.txt []) .leaf) .leaf)) (.seq (.plan [10] (.take 0 ⟨[], false, []⟩ (.take 2 ⟨[], false, []⟩ (.take 4 ⟨[], false, []⟩ (.take 5 ⟨[], false, []⟩ (.take 6 ⟨[], false, []⟩ (.take 7 ⟨[], false, []⟩ (.take 8 ⟨[], false, []⟩ (.take 9 ⟨[], false, []⟩ (.alt 1 true ⟨[], false, []⟩ (.alt 3 true ⟨[], false, []⟩ (.alt 10 false ⟨[], false, []⟩ (.take 11 ⟨[], false, []⟩ (.take 12 ⟨[], false, []⟩ (.take 13 ⟨[], false, []⟩ (.take 14 ⟨[], false, []⟩ (.take 15 ⟨[], false, []⟩ .done))))) .done) .done) .done)))))))))) (.seq (.txt []) (.seq (.txt [⟨[], false, []⟩, ⟨[], false, []⟩, ⟨[], false, []⟩, ⟨[], true, []⟩, ⟨[], false, []⟩, ⟨[], false, []⟩, ⟨[], false, []⟩, ⟨[], false, []⟩, ⟨[], true, []⟩]) .leaf)))))
set_option maxRecDepth 100000 in
theorem M_law07_QueueCycles_ok (σ : Hp) (a0_Rides_A : Option Addr) (a0_Rides_n : Nat) (a0_Rides_c : Nat) (a0_Walk : Int) (a1_A : Option Addr) (a1_n : Nat) (a1_c : Nat) (a2_Ride : Int) (a2_Low : Int) (a2_High : Int) (R : Value → Hp → Prop) (h : M_law07_QueueCycles σ a0_Rides_A a0_Rides_n a0_Rides_c a0_Walk a1_A a1_n a1_c a2_Ride a2_Low a2_High R) : FCalls Tryz.prog 5 #[(.agg #[(.slice a0_Rides_A a0_Rides_n a0_Rides_c), (.int .i64 a0_Walk)]), (.slice a1_A a1_n a1_c), (.agg #[(.int .i64 a2_Ride), (.int .i64 a2_Low), (.int .i64 a2_High)])] σ R :=
  fcalls_of_M mixed_QLCycles M_law07_QueueCycles_an Tryz.func5 rfl (by kernel_rfl) (by kernel_rfl) (M := M_law07_QueueCycles σ a0_Rides_A a0_Rides_n a0_Rides_c a0_Walk a1_A a1_n a1_c a2_Ride a2_Low a2_High R) (by kernel_rfl) h
theorem M_law07_QueueCycles_enter : enterB Tryz.prog 5 = true := by kernel_rfl

end Go.Proofs.YtgcefaikdplbkaaGreat
