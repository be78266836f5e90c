/- M-forms, printed by wip/gen/genm.py out of the translation: each function as a proposition over its local objects, with the lemma that it is what the function does. -/
import Derived.Test.YtgcefaikdplbkaaB11
namespace Go.Proofs.Ytgcefaikdplbkaa
open Go.RowKit

theorem mixed_QL10 : Try.prog.follows .mixedOrders = true := by kernel_rfl

abbrev N_law07_QueueEnds : FuncId := 10
/-- waltzer/waltzerlaw07.QueueEnds -/
def M_law07_QueueEnds (σ : Hp) (a0_Rides_A : Option Addr) (a0_Rides_n : Nat) (a0_Rides_c : Nat) (a0_Walk : Int) (a1_A : Option Addr) (a1_n : Nat) (a1_c : Nat) (R : Value → Hp → Prop) : Prop :=
  cl Try.prog (.func (.func 12) #[] #[]) #[(.agg #[(.slice a0_Rides_A a0_Rides_n a0_Rides_c), (.int .i64 a0_Walk)]), (.slice a1_A a1_n a1_c)] σ (fun v1 σ2 => 
    ∃ t3 : Bool, (v1 = (.bool t3) ∧ bc t3 (cl Try.prog (.func (.func 13) #[] #[]) #[] σ2 (fun v4 σ5 => ∃ t6 : Bool, (v4 = (.bool t6) ∧ 
    rt σ5 R (.bool t6)))) (cl Try.prog (.func (.func 29) #[] #[]) #[(.agg #[(.slice a0_Rides_A a0_Rides_n a0_Rides_c), (.int .i64 a0_Walk)]), (.slice a1_A a1_n a1_c)] σ2 (fun v7 σ8 => 
    ∃ A9 : Option Addr, ∃ l9 : Nat, ∃ c9 : Nat, ∃ n10 : Int, (v7 = (.tuple #[(.slice A9 l9 c9), (.int .i64 n10)]) ∧ 
    cl Try.prog (.func (.func 15) #[] #[]) #[(.agg #[(.slice a0_Rides_A a0_Rides_n a0_Rides_c), (.int .i64 a0_Walk)])] σ8 (fun v11 σ12 => 
    ∃ A13 : Option Addr, ∃ l13 : Nat, ∃ c13 : Nat, ∃ n14 : Int, (v11 = (.agg #[(.slice A13 l13 c13), (.int .i64 n14)]) ∧ 
    cl Try.prog (.func (.func 16) #[] #[]) #[(.slice a1_A a1_n a1_c)] σ12 (fun v15 σ16 => ∃ A17 : Option Addr, ∃ l17 : Nat, ∃ c17 : Nat, (v15 = (.slice A17 l17 c17) ∧ 
    cl Try.prog (.func (.func 18) #[] #[]) #[(.agg #[(.slice A13 l13 c13), (.int .i64 n14)]), (.slice A17 l17 c17)] σ16 (fun v18 σ19 => 
    ∃ A20 : Option Addr, ∃ l20 : Nat, ∃ c20 : Nat, ∃ n21 : Int, (v18 = (.tuple #[(.slice A20 l20 c20), (.int .i64 n21)]) ∧ 
    bc (!decide (n10 = 0)) (bc (decide (n10 = n21)) (cl Try.prog (.func (.func 13) #[] #[]) #[] σ19 (fun v22 σ23 => 
    ∃ t24 : Bool, (v22 = (.bool t24) ∧ rt σ23 R (.bool t24)))) (rt σ19 R (.bool false))) (cut (α := Hp → Prop) (fun  σ26 => 
    ∀ _ : Nat → Value, cut (α := Hp → Prop) (fun  σ29 => ∀ _ : Nat → Value, cl Try.prog (.func (.func 13) #[] #[]) #[] σ29 (fun v31 σ32 => 
    ∃ t33 : Bool, (v31 = (.bool t33) ∧ rt σ32 R (.bool t33)))) (fun J30 => ∃ I36 : Nat → Int → Hp → Prop, (∃ n370, I36 n370 0 σ26) ∧ 
    ∀ n37 : Nat, ∀ n38 : Int, ∀ σ35 : Hp, I36 n37 n38 σ35 → ∀ _ : Nat → Value, bc (decide (n38 < ((a1_n : Nat) : Int))) (cut (α := Hp → Prop) (fun  σ40 => 
    ∀ _ : Nat → Value, wk .i64 (n38 + 1) (fun n42 => bk σ40 n37 (fun m43 σ44 => I36 m43 n42 σ44))) (fun J41 => 
    ix a1_A a1_n n38 5 (fun b45 a46 => ldI σ35 .i64 b45 a46 (fun n47 => cut (α := Int → Int → Hp → Prop) (fun n51 n52 σ49 => 
    ∀ _ : Nat → Value, cut (α := Bool → Hp → Prop) (fun t56 σ54 => ∀ _ : Nat → Value, bc t56 (rt σ54 R (.bool false)) (J41 σ54)) (fun J55 => 
    ix A20 l20 n38 1 (fun b57 a58 => ldI σ49 .i64 b57 a58 (fun n59 => bc (decide ((0 : Int) ≤ n59)) (ix a1_A a1_n n38 5 (fun b60 a61 => 
    ldS σ49 b60 (a61 + 3) (fun _ l62 _ => bc (!decide (n51 = ((l62 : Nat) : Int))) (J55 true σ49) (ix A20 l20 n38 1 (fun b63 a64 => 
    ldI σ49 .i64 b63 a64 (fun n65 => J55 (!decide (n65 = n52)) σ49)))))) (J55 false σ49))))) (fun J50 => 
    ∃ I68 : Nat → Int → Int → Int → Hp → Prop, (∃ n690, I68 n690 0 n47 0 σ35) ∧ ∀ n69 : Nat, ∀ n70 : Int, ∀ n71 : Int, ∀ n72 : Int, ∀ σ67 : Hp, I68 n69 n70 n71 n72 σ67 → ∀ _ : Nat → Value, bc (decide (n72 < ((l9 : Nat) : Int))) (cut (α := Int → Int → Hp → Prop) (fun n76 n77 σ74 => 
    ∀ _ : Nat → Value, wk .i64 (n72 + 1) (fun n78 => bk σ74 n69 (fun m79 σ80 => I68 m79 n76 n77 n78 σ80))) (fun J75 => 
    ix A9 l9 n72 6 (fun b81 a82 => ldI σ67 .i64 b81 a82 (fun n83 => ldI σ67 .i64 b81 (a82 + 1) (fun n84 => 
    ldI σ67 .i64 b81 (a82 + 2) (fun n85 => ldB σ67 b81 (a82 + 3) (fun t86 => ldI σ67 .i64 b81 (a82 + 4) (fun n87 => 
    ldI σ67 .i64 b81 (a82 + 5) (fun n88 => bc (!decide (n83 = n38)) (J75 n70 n71 σ67) (cut (α := Hp → Prop) (fun  σ90 => 
    ∀ _ : Nat → Value, wk .i64 (n70 + 1) (fun n92 => bc t86 (ix a0_Rides_A a0_Rides_n n85 5 (fun b93 a94 => 
    ldI σ90 .i64 b93 (a94 + 2) (fun n95 => wk .i64 (n88 + n95) (fun n96 => J75 n92 n96 σ90)))) (J75 n92 n88 σ90))) (fun J91 => 
    cut (α := Bool → Hp → Prop) (fun t100 σ98 => ∀ _ : Nat → Value, bc t100 (rt σ98 R (.bool false)) (J91 σ98)) (fun J99 => 
    bc (!decide (n84 = n70)) (J99 true σ67) (bc (decide (n85 < 0)) (J99 true σ67) (bc (decide (((a0_Rides_n : Nat) : Int) ≤ n85)) (J99 true σ67) (J99 (decide (n87 < n71)) σ67))))))))))))))) (J50 n70 n71 σ67)))))) (J30 σ35))) (fun J27 => 
    cut (α := Bool → Hp → Prop) (fun t104 σ102 => ∀ _ : Nat → Value, bc t104 (rt σ102 R (.bool false)) (J27 σ102)) (fun J103 => 
    bc (!decide (n21 = 0)) (J103 true σ19) (J103 (!decide (((l20 : Nat) : Int) = ((a1_n : Nat) : Int))) σ19)))))))))))))))
def M_law07_QueueEnds_an : MAn := (.seq (.txt []) (.seq (.seq (.txt []) (.cond (.seq (.txt []) .leaf) .leaf)) (.seq (.txt []) (.seq (.txt []) (.seq (.seq (.txt []) (.cond (.seq (.txt [⟨[], false, []⟩, ⟨[], false, []⟩, ⟨[], false, []⟩, ⟨[], true, []⟩]) .leaf) .leaf)) (.cut ⟨[true], 1, [.slot 2 (.hb 0 0)], [(1, true), (5, true), (7, true)]⟩ (.cut ⟨[true], 1, [.slot 2 (.hb 0 0), .slot 48 (.sc (.bool))], [(1, true), (5, true), (7, true)]⟩ (.txt [⟨[], false, []⟩, ⟨[], false, []⟩, ⟨[], true, []⟩]) (.cond (.seq (.txt []) .leaf) .leaf)) (.cut ⟨[true], 1, [], []⟩ (.seq (.txt []) (.block (.loop ⟨[true], 1, [.slot 2 (.hb 0 0), .slot 9 (.sc (.int .i64))], [(1, true), (5, true), (7, true)]⟩ (.seq (.seq (.txt []) (.cond .leaf .leaf)) (.cut ⟨[true], 1, [.slot 2 (.hb 0 0)], [(1, true), (5, true), (7, true), (9, true)]⟩ (.block (.seq (.plan [] (.take 0 ⟨[], false, []⟩ (.take 1 ⟨[], false, []⟩ (.take 2 ⟨[], false, []⟩ (.take 3 ⟨[], false, []⟩ (.take 4 ⟨[], false, []⟩ (.take 5 ⟨[], false, []⟩ (.take 6 ⟨[], false, []⟩ .done)))))))) (.cut ⟨[true], 1, [.slot 2 (.hb 0 0), .slot 10 (.sc (.int .i64)), .slot 11 (.sc (.int .i64))], [(1, true), (5, true), (7, true), (9, true)]⟩ (.seq (.txt []) (.block (.loop ⟨[true], 1, [.slot 2 (.hb 0 0), .slot 10 (.sc (.int .i64)), .slot 11 (.sc (.int .i64)), .slot 12 (.sc (.int .i64))], [(1, true), (5, true), (7, true), (9, true)]⟩ (.seq (.seq (.txt []) (.cond .leaf .leaf)) (.cut ⟨[true], 1, [.slot 2 (.hb 0 0), .slot 10 (.sc (.int .i64)), .slot 11 (.sc (.int .i64))], [(1, true), (5, true), (7, true), (9, true), (12, true)]⟩ (.block (.seq (.txt []) (.seq (.seq (.txt []) (.cond .leaf .leaf)) (.cut ⟨[true, true], 2, [.slot 2 (.hb 0 0), .slot 13 (.hb 1 0)], [(1, true), (5, true), (7, true), (9, true), (10, true), (12, true)]⟩ (.cut ⟨[true, true], 2, [.slot 2 (.hb 0 0), .slot 13 (.hb 1 0), .slot 96 (.sc (.bool))], [(1, true), (5, true), (7, true), (9, true), (10, true), (12, true)]⟩ (.txt [⟨[], false, []⟩, ⟨[], false, []⟩, ⟨[], false, []⟩, ⟨[], false, []⟩, ⟨[], true, []⟩, ⟨[], false, []⟩, ⟨[], false, []⟩, ⟨[], false, []⟩, ⟨[], false, []⟩, ⟨[], true, []⟩, ⟨[], false, []⟩, ⟨[], false, []⟩, ⟨[], false, []⟩, ⟨[], false, []⟩, ⟨[], false, []⟩, ⟨[], false, []⟩, ⟨[], false, []⟩, ⟨[], true, []⟩]) (.cond (.seq (.txt []) .leaf) .leaf)) (.seq (.txt []) (.seq (.txt []) (.seq (.txt []) (.cond (.txt []) .leaf)))))))) (.txt [])))))) (.cut ⟨[true], 1, [.slot 2 (.hb 0 0), .slot 134 (.sc (.bool))], [(1, true), (5, true), (7, true), (9, true)]⟩ (.txt [⟨[], false, []⟩, ⟨[], false, []⟩, ⟨[], false, []⟩, ⟨[], false, []⟩, ⟨[], false, []⟩, ⟨[], true, []⟩, ⟨[], false, []⟩, ⟨[], false, []⟩, ⟨[], false, []⟩, ⟨[], false, []⟩, ⟨[], false, []⟩, ⟨[], false, []⟩, ⟨[], false, []⟩, ⟨[], false, []⟩, ⟨[], true, []⟩]) (.cond (.seq (.txt []) .leaf) .leaf))))) (.txt [])))))) (.seq (.txt []) .leaf))))))))
set_option maxRecDepth 100000 in
theorem M_law07_QueueEnds_ok (σ : Hp) (a0_Rides_A : Option Addr) (a0_Rides_n : Nat) (a0_Rides_c : Nat) (a0_Walk : Int) (a1_A : Option Addr) (a1_n : Nat) (a1_c : Nat) (R : Value → Hp → Prop) (h : M_law07_QueueEnds σ a0_Rides_A a0_Rides_n a0_Rides_c a0_Walk a1_A a1_n a1_c R) : FCalls Try.prog 10 #[(.agg #[(.slice a0_Rides_A a0_Rides_n a0_Rides_c), (.int .i64 a0_Walk)]), (.slice a1_A a1_n a1_c)] σ R :=
  fcalls_of_M mixed_QL10 M_law07_QueueEnds_an Try.func10 rfl (by kernel_rfl) (by kernel_rfl) (M := M_law07_QueueEnds σ a0_Rides_A a0_Rides_n a0_Rides_c a0_Walk a1_A a1_n a1_c R) (by kernel_rfl) h
theorem M_law07_QueueEnds_enter : enterB Try.prog 10 = true := by kernel_rfl

end Go.Proofs.Ytgcefaikdplbkaa
