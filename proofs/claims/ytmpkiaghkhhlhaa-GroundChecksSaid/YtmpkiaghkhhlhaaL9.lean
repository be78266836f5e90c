/- M-forms, printed by wip/gen/genm.py out of the translation: each function as a proposition over its local objects, with the lemma that it is what the function does. -/
import Derived.Test.YtmpkiaghkhhlhaaB11
namespace Go.Proofs.Ytmpkiaghkhhlhaa
open Go.RowKit

theorem mixed_L9 : Try.prog.follows .mixedOrders = true := by kernel_rfl

abbrev N_law04_GroundChecks : FuncId := 9
/-- waltzer/waltzerlaw04.GroundChecks -/
def M_law04_GroundChecks (σ : Hp) (a0_Wide : Int) (a0_High : Int) (a0_Cells_A : Option Addr) (a0_Cells_n : Nat) (a0_Cells_c : Nat) (a0_Heights_A : Option Addr) (a0_Heights_n : Nat) (a0_Heights_c : Nat) (a1_A : Option Addr) (a1_n : Nat) (a1_c : Nat) (a2_A : Option Addr) (a2_n : Nat) (a2_c : Nat) (R : Value → Hp → Prop) : Prop :=
  cl Try.prog (.func (.func 13) #[] #[]) #[(.agg #[(.int .i64 a0_Wide), (.int .i64 a0_High), (.slice a0_Cells_A a0_Cells_n a0_Cells_c), (.slice a0_Heights_A a0_Heights_n a0_Heights_c)]), (.slice a1_A a1_n a1_c)] σ (fun v1 σ2 => 
    ∃ t3 : Bool, (v1 = (.bool t3) ∧ bc t3 (cl Try.prog (.func (.func 14) #[] #[]) #[] σ2 (fun v4 σ5 => ∃ t6 : Bool, (v4 = (.bool t6) ∧ 
    rt σ5 R (.bool t6)))) (cl Try.prog (.func (.func 29) #[] #[]) #[(.agg #[(.int .i64 a0_Wide), (.int .i64 a0_High), (.slice a0_Cells_A a0_Cells_n a0_Cells_c), (.slice a0_Heights_A a0_Heights_n a0_Heights_c)]), (.slice a1_A a1_n a1_c), (.slice a2_A a2_n a2_c)] σ2 (fun v7 σ8 => 
    ∃ n9 : Int, ∃ n10 : Int, (v7 = (.tuple #[(.int .i64 n9), (.int .i64 n10)]) ∧ cl Try.prog (.func (.func 18) #[] #[]) #[(.agg #[(.int .i64 a0_Wide), (.int .i64 a0_High), (.slice a0_Cells_A a0_Cells_n a0_Cells_c), (.slice a0_Heights_A a0_Heights_n a0_Heights_c)]), (.slice a1_A a1_n a1_c), (.slice a2_A a2_n a2_c)] σ8 (fun v11 σ12 => 
    ∃ n13 : Int, ∃ n14 : Int, (v11 = (.tuple #[(.int .i64 n13), (.int .i64 n14)]) ∧ cut (α := Hp → Prop) (fun  σ16 => 
    ∀ _ : Nat → Value, cl Try.prog (.func (.func 30) #[] #[]) #[(.agg #[(.int .i64 a0_Wide), (.int .i64 a0_High), (.slice a0_Cells_A a0_Cells_n a0_Cells_c), (.slice a0_Heights_A a0_Heights_n a0_Heights_c)]), (.slice a1_A a1_n a1_c), (.slice a2_A a2_n a2_c)] σ16 (fun v18 σ19 => 
    ∃ A20 : Option Addr, ∃ l20 : Nat, ∃ c20 : Nat, ∃ n21 : Int, (v18 = (.tuple #[(.slice A20 l20 c20), (.int .i64 n21)]) ∧ 
    cl Try.prog (.func (.func 31) #[] #[]) #[(.agg #[(.int .i64 a0_Wide), (.int .i64 a0_High), (.slice a0_Cells_A a0_Cells_n a0_Cells_c), (.slice a0_Heights_A a0_Heights_n a0_Heights_c)]), (.slice a1_A a1_n a1_c), (.slice a2_A a2_n a2_c)] σ19 (fun v22 σ23 => 
    ∃ A24 : Option Addr, ∃ l24 : Nat, ∃ c24 : Nat, ∃ n25 : Int, (v22 = (.tuple #[(.slice A24 l24 c24), (.int .i64 n25)]) ∧ 
    cut (α := Hp → Prop) (fun  σ27 => ∀ _ : Nat → Value, cl Try.prog (.func (.func 32) #[] #[]) #[(.agg #[(.int .i64 a0_Wide), (.int .i64 a0_High), (.slice a0_Cells_A a0_Cells_n a0_Cells_c), (.slice a0_Heights_A a0_Heights_n a0_Heights_c)]), (.slice a1_A a1_n a1_c), (.slice a2_A a2_n a2_c)] σ27 (fun v29 σ30 => 
    ∃ A31 : Option Addr, ∃ l31 : Nat, ∃ c31 : Nat, ∃ n32 : Int, (v29 = (.tuple #[(.slice A31 l31 c31), (.int .i64 n32)]) ∧ 
    cl Try.prog (.func (.func 33) #[] #[]) #[(.agg #[(.int .i64 a0_Wide), (.int .i64 a0_High), (.slice a0_Cells_A a0_Cells_n a0_Cells_c), (.slice a0_Heights_A a0_Heights_n a0_Heights_c)]), (.slice a1_A a1_n a1_c), (.slice a2_A a2_n a2_c)] σ30 (fun v33 σ34 => 
    ∃ A35 : Option Addr, ∃ l35 : Nat, ∃ c35 : Nat, ∃ n36 : Int, (v33 = (.tuple #[(.slice A35 l35 c35), (.int .i64 n36)]) ∧ 
    bc (decide (n32 = n36)) (cl Try.prog (.func (.func 17) #[] #[]) #[(.slice A31 l31 c31), (.slice A35 l35 c35)] σ34 (fun v37 σ38 => 
    ∃ t39 : Bool, (v37 = (.bool t39) ∧ bc t39 (cl Try.prog (.func (.func 14) #[] #[]) #[] σ38 (fun v40 σ41 => 
    ∃ t42 : Bool, (v40 = (.bool t42) ∧ rt σ41 R (.bool t42)))) (rt σ38 R (.bool false))))) (bc false (cl Try.prog (.func (.func 14) #[] #[]) #[] σ34 (fun v43 σ44 => 
    ∃ t45 : Bool, (v43 = (.bool t45) ∧ rt σ44 R (.bool t45)))) (rt σ34 R (.bool false)))))))) (fun J28 => 
    cut (α := Bool → Hp → Prop) (fun t49 σ47 => ∀ _ : Nat → Value, bc t49 (rt σ47 R (.bool false)) (J28 σ47)) (fun J48 => 
    bc (!decide (n21 = n25)) (J48 true σ23) (cl Try.prog (.func (.func 17) #[] #[]) #[(.slice A20 l20 c20), (.slice A24 l24 c24)] σ23 (fun v50 σ51 => 
    ∃ t52 : Bool, (v50 = (.bool t52) ∧ J48 (!t52) σ51)))))))))) (fun J17 => cut (α := Bool → Hp → Prop) (fun t56 σ54 => 
    ∀ _ : Nat → Value, bc t56 (rt σ54 R (.bool false)) (J17 σ54)) (fun J55 => bc (!decide (n9 = n13)) (J55 true σ12) (J55 (!decide (n10 = n14)) σ12))))))))))
def M_law04_GroundChecks_an : MAn := (.seq (.txt []) (.seq (.seq (.txt []) (.cond (.seq (.txt []) .leaf) .leaf)) (.seq (.txt []) (.seq (.txt []) (.cut ⟨[true], 1, [.slot 3 (.hb 0 0)], [(1, true), (2, true)]⟩ (.cut ⟨[true], 1, [.slot 3 (.hb 0 0), .slot 38 (.sc (.bool))], [(1, true), (2, true)]⟩ (.txt [⟨[], false, []⟩, ⟨[], false, []⟩, ⟨[], false, []⟩, ⟨[], true, []⟩]) (.cond (.seq (.txt []) .leaf) .leaf)) (.seq (.txt []) (.seq (.txt []) (.cut ⟨[true], 1, [.slot 3 (.hb 0 0)], [(1, true), (2, true)]⟩ (.cut ⟨[true], 1, [.slot 3 (.hb 0 0), .slot 61 (.sc (.bool))], [(1, true), (2, true)]⟩ (.txt [⟨[], false, []⟩, ⟨[], false, []⟩, ⟨[], false, []⟩, ⟨[], true, []⟩]) (.cond (.seq (.txt []) .leaf) .leaf)) (.seq (.txt []) (.seq (.txt []) (.seq (.txt [⟨[], false, []⟩, ⟨[], false, []⟩, ⟨[], false, []⟩, ⟨[], true, []⟩, ⟨[], false, []⟩, ⟨[], false, []⟩, ⟨[], false, []⟩, ⟨[], false, []⟩, ⟨[], true, []⟩]) .leaf)))))))))))
set_option maxRecDepth 100000 in
theorem M_law04_GroundChecks_ok (σ : Hp) (a0_Wide : Int) (a0_High : Int) (a0_Cells_A : Option Addr) (a0_Cells_n : Nat) (a0_Cells_c : Nat) (a0_Heights_A : Option Addr) (a0_Heights_n : Nat) (a0_Heights_c : Nat) (a1_A : Option Addr) (a1_n : Nat) (a1_c : Nat) (a2_A : Option Addr) (a2_n : Nat) (a2_c : Nat) (R : Value → Hp → Prop) (h : M_law04_GroundChecks σ a0_Wide a0_High a0_Cells_A a0_Cells_n a0_Cells_c a0_Heights_A a0_Heights_n a0_Heights_c a1_A a1_n a1_c a2_A a2_n a2_c R) : FCalls Try.prog 9 #[(.agg #[(.int .i64 a0_Wide), (.int .i64 a0_High), (.slice a0_Cells_A a0_Cells_n a0_Cells_c), (.slice a0_Heights_A a0_Heights_n a0_Heights_c)]), (.slice a1_A a1_n a1_c), (.slice a2_A a2_n a2_c)] σ R :=
  fcalls_of_M mixed_L9 M_law04_GroundChecks_an Try.func9 rfl (by kernel_rfl) (by kernel_rfl) (M := M_law04_GroundChecks σ a0_Wide a0_High a0_Cells_A a0_Cells_n a0_Cells_c a0_Heights_A a0_Heights_n a0_Heights_c a1_A a1_n a1_c a2_A a2_n a2_c R) (by kernel_rfl) h
theorem M_law04_GroundChecks_enter : enterB Try.prog 9 = true := by kernel_rfl

end Go.Proofs.Ytmpkiaghkhhlhaa
