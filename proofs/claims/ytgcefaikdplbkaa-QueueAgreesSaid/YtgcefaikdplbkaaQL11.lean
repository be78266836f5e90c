/- M-forms, printed by wip/gen/genm.py out of the translation: each function as a proposition over its local objects, with the lemma that it is what the function does. -/
import Derived.Test.YtgcefaikdplbkaaB11
namespace Go.Proofs.Ytgcefaikdplbkaa
open Go.RowKit

theorem mixed_QL11 : Try.prog.follows .mixedOrders = true := by kernel_rfl

abbrev N_law07_QueueAgrees : FuncId := 11
/-- waltzer/waltzerlaw07.QueueAgrees -/
def M_law07_QueueAgrees (σ : Hp) (a0_Rides_A : Option Addr) (a0_Rides_n : Nat) (a0_Rides_c : Nat) (a0_Walk : Int) (a1_A : Option Addr) (a1_n : Nat) (a1_c : Nat) (R : Value → Hp → Prop) : Prop :=
  cl Try.prog (.func (.func 12) #[] #[]) #[(.agg #[(.slice a0_Rides_A a0_Rides_n a0_Rides_c), (.int .i64 a0_Walk)]), (.slice a1_A a1_n a1_c)] σ (fun v1 σ2 => 
    ∃ t3 : Bool, (v1 = (.bool t3) ∧ bc t3 (cl Try.prog (.func (.func 13) #[] #[]) #[] σ2 (fun v4 σ5 => ∃ t6 : Bool, (v4 = (.bool t6) ∧ 
    rt σ5 R (.bool t6)))) (cl Try.prog (.func (.func 29) #[] #[]) #[(.agg #[(.slice a0_Rides_A a0_Rides_n a0_Rides_c), (.int .i64 a0_Walk)]), (.slice a1_A a1_n a1_c)] σ2 (fun v7 σ8 => 
    ∃ A9 : Option Addr, ∃ l9 : Nat, ∃ c9 : Nat, ∃ n10 : Int, (v7 = (.tuple #[(.slice A9 l9 c9), (.int .i64 n10)]) ∧ 
    cl Try.prog (.func (.func 15) #[] #[]) #[(.agg #[(.slice a0_Rides_A a0_Rides_n a0_Rides_c), (.int .i64 a0_Walk)])] σ8 (fun v11 σ12 => 
    ∃ A13 : Option Addr, ∃ l13 : Nat, ∃ c13 : Nat, ∃ n14 : Int, (v11 = (.agg #[(.slice A13 l13 c13), (.int .i64 n14)]) ∧ 
    cl Try.prog (.func (.func 16) #[] #[]) #[(.slice a1_A a1_n a1_c)] σ12 (fun v15 σ16 => ∃ A17 : Option Addr, ∃ l17 : Nat, ∃ c17 : Nat, (v15 = (.slice A17 l17 c17) ∧ 
    cl Try.prog (.func (.func 21) #[] #[]) #[(.agg #[(.slice A13 l13 c13), (.int .i64 n14)]), (.slice A17 l17 c17)] σ16 (fun v18 σ19 => 
    ∃ A20 : Option Addr, ∃ l20 : Nat, ∃ c20 : Nat, ∃ n21 : Int, (v18 = (.tuple #[(.slice A20 l20 c20), (.int .i64 n21)]) ∧ 
    cl Try.prog (.func (.func 15) #[] #[]) #[(.agg #[(.slice a0_Rides_A a0_Rides_n a0_Rides_c), (.int .i64 a0_Walk)])] σ19 (fun v22 σ23 => 
    ∃ A24 : Option Addr, ∃ l24 : Nat, ∃ c24 : Nat, ∃ n25 : Int, (v22 = (.agg #[(.slice A24 l24 c24), (.int .i64 n25)]) ∧ 
    cl Try.prog (.func (.func 16) #[] #[]) #[(.slice a1_A a1_n a1_c)] σ23 (fun v26 σ27 => ∃ A28 : Option Addr, ∃ l28 : Nat, ∃ c28 : Nat, (v26 = (.slice A28 l28 c28) ∧ 
    cl Try.prog (.func (.func 23) #[] #[]) #[(.agg #[(.slice A24 l24 c24), (.int .i64 n25)]), (.slice A28 l28 c28)] σ27 (fun v29 σ30 => 
    ∃ A31 : Option Addr, ∃ l31 : Nat, ∃ c31 : Nat, ∃ n32 : Int, (v29 = (.tuple #[(.slice A31 l31 c31), (.int .i64 n32)]) ∧ 
    bc (!decide (n10 = 0)) (bc (decide (n10 = n21)) (bc (decide (n10 = n32)) (cl Try.prog (.func (.func 13) #[] #[]) #[] σ30 (fun v33 σ34 => 
    ∃ t35 : Bool, (v33 = (.bool t35) ∧ rt σ34 R (.bool t35)))) (rt σ30 R (.bool false))) (rt σ30 R (.bool false))) (cut (α := Hp → Prop) (fun  σ37 => 
    ∀ _ : Nat → Value, cut (α := Int → Hp → Prop) (fun n42 σ40 => ∀ _ : Nat → Value, (0 ≤ ((a0_Rides_n : Nat) : Int) ∧ 
    ((a0_Rides_n : Nat) : Int) ≤ ((a0_Rides_n : Nat) : Int) ∧ ((a0_Rides_n : Nat) : Int) ≤ (1000000000 : Int) ∧ 
    cut (α := List Int → Hp → Prop) (fun xs46 σ44 => ∀ _ : Nat → Value, cut (α := Int → Hp → Prop) (fun n50 σ48 => 
    ∀ _ : Nat → Value, bc (decide (n50 = 0)) (exl 3 [.int .i64] xs46 σ48 (fun A51 l51 c51 σ52 => cl Try.prog (.func (.func 20) #[] #[]) #[(.slice A51 l51 c51), (.slice A20 l20 c20)] σ52 (fun v53 σ54 => 
    ∃ t55 : Bool, (v53 = (.bool t55) ∧ bc t55 (cl Try.prog (.func (.func 13) #[] #[]) #[] σ54 (fun v56 σ57 => 
    ∃ t58 : Bool, (v56 = (.bool t58) ∧ rt σ57 R (.bool t58)))) (rt σ54 R (.bool false)))))) (rt σ48 R (.bool false))) (fun J49 => 
    ∃ I61 : Nat → Int → Int → Hp → Prop, (∃ n620, I61 n620 n42 0 σ44) ∧ ∀ n62 : Nat, ∀ n63 : Int, ∀ n64 : Int, ∀ σ60 : Hp, I61 n62 n63 n64 σ60 → ∀ _ : Nat → Value, bc (decide (n64 < ((l20 : Nat) : Int))) (ix A20 l20 n64 1 (fun b65 a66 => 
    ldI σ60 .i64 b65 a66 (fun n67 => wk .i64 (n63 - n67) (fun n68 => wk .i64 (n64 + 1) (fun n69 => bk σ60 n62 (fun m70 σ71 => 
    I61 m70 n68 n69 σ71)))))) (J49 n63 σ60))) (fun J45 => ∃ I74 : Nat → Int → List Int → Hp → Prop, (∃ n750, I74 n750 0 (List.replicate (((a0_Rides_n : Nat) : Int) : Int).toNat 0 : List Int) σ40) ∧ 
    ∀ n75 : Nat, ∀ n76 : Int, ∀ xs77 : List Int, ∀ σ73 : Hp, I74 n75 n76 xs77 σ73 → ∀ _ : Nat → Value, bc (decide (n76 < ((l9 : Nat) : Int))) (cut (α := List Int → Hp → Prop) (fun xs81 σ79 => 
    ∀ _ : Nat → Value, wk .i64 (n76 + 1) (fun n82 => bk σ79 n75 (fun m83 σ84 => I74 m83 n82 xs81 σ84))) (fun J80 => 
    ix A9 l9 n76 6 (fun b85 a86 => ldI σ73 .i64 b85 a86 (fun n87 => ldI σ73 .i64 b85 (a86 + 1) (fun _ => 
    ldI σ73 .i64 b85 (a86 + 2) (fun n89 => ldB σ73 b85 (a86 + 3) (fun t90 => ldI σ73 .i64 b85 (a86 + 4) (fun _ => 
    ldI σ73 .i64 b85 (a86 + 5) (fun _ => cut (α := Hp → Prop) (fun  σ94 => ∀ _ : Nat → Value, bc t90 ((0 ≤ n89 ∧ 
    n89 < ((List.length xs77 : Nat) : Int) ∧ lat xs77 ((n89 : Int).toNat) (fun r96 => ix a0_Rides_A a0_Rides_n n89 5 (fun b97 a98 => 
    ldI σ94 .i64 b97 (a98 + 1) (fun n99 => ix a1_A a1_n n87 5 (fun b100 a101 => ldI σ94 .i64 b100 (a101 + 1) (fun n102 => 
    wk .i64 (n99 * n102) (fun n103 => wk .i64 (r96 + n103) (fun n104 => (0 ≤ n89 ∧ n89 < ((List.length xs77 : Nat) : Int) ∧ 
    lat xs77 ((n89 : Int).toNat) (fun _ => J80 (List.set xs77 ((n89 : Int).toNat) n104) σ94))))))))))) (J80 xs77 σ94)) (fun J95 => 
    cut (α := Bool → Hp → Prop) (fun t109 σ107 => ∀ _ : Nat → Value, bc t109 (rt σ107 R (.bool false)) (J95 σ107)) (fun J108 => 
    bc (decide (n89 < 0)) (J108 true σ73) (bc (decide (((List.length xs77 : Nat) : Int) ≤ n89)) (J108 true σ73) (bc (decide (n87 < 0)) (J108 true σ73) (J108 (decide (((a1_n : Nat) : Int) ≤ n87)) σ73)))))))))))))) (J45 xs77 σ73)))) (fun J41 => 
    ∃ I112 : Nat → Int → Int → Hp → Prop, (∃ n1130, I112 n1130 0 0 σ37) ∧ ∀ n113 : Nat, ∀ n114 : Int, ∀ n115 : Int, ∀ σ111 : Hp, I112 n113 n114 n115 σ111 → ∀ _ : Nat → Value, bc (decide (n115 < ((a1_n : Nat) : Int))) (ix a1_A a1_n n115 5 (fun b116 a117 => 
    ldI σ111 .i64 b116 (a117 + 2) (fun n118 => ix A31 l31 n115 1 (fun b119 a120 => ldI σ111 .i64 b119 a120 (fun n121 => 
    wk .i64 (n118 - n121) (fun n122 => wk .i64 (n114 + n122) (fun n123 => ix A31 l31 n115 1 (fun b124 a125 => 
    ldI σ111 .i64 b124 a125 (fun n126 => bc (decide (n126 < 0)) (rt σ111 R (.bool false)) (wk .i64 (n115 + 1) (fun n127 => 
    bk σ111 n113 (fun m128 σ129 => I112 m128 n123 n127 σ129)))))))))))) (J41 n114 σ111))) (fun J38 => cut (α := Bool → Hp → Prop) (fun t133 σ131 => 
    ∀ _ : Nat → Value, bc t133 (rt σ131 R (.bool false)) (J38 σ131)) (fun J132 => bc (!decide (n21 = 0)) (J132 true σ30) (bc (!decide (n32 = 0)) (J132 true σ30) (bc (!decide (((l20 : Nat) : Int) = ((a0_Rides_n : Nat) : Int))) (J132 true σ30) (J132 (!decide (((l31 : Nat) : Int) = ((a1_n : Nat) : Int))) σ30)))))))))))))))))))))))
def M_law07_QueueAgrees_an : MAn := (.seq (.txt []) (.seq (.seq (.txt []) (.cond (.seq (.txt []) .leaf) .leaf)) (.seq (.txt []) (.seq (.txt []) (.seq (.txt []) (.seq (.seq (.txt []) (.cond (.seq (.txt [⟨[], false, []⟩, ⟨[], false, []⟩, ⟨[], false, []⟩, ⟨[], true, []⟩, ⟨[], false, []⟩, ⟨[], false, []⟩, ⟨[], false, []⟩, ⟨[], false, []⟩, ⟨[], true, []⟩]) .leaf) .leaf)) (.cut ⟨[true], 1, [.slot 2 (.hb 0 0)], [(1, true), (5, true), (7, true), (9, true)]⟩ (.cut ⟨[true], 1, [.slot 2 (.hb 0 0), .slot 76 (.sc (.bool))], [(1, true), (5, true), (7, true), (9, true)]⟩ (.txt [⟨[], false, []⟩, ⟨[], false, []⟩, ⟨[], true, []⟩, ⟨[], false, []⟩, ⟨[], false, []⟩, ⟨[], false, []⟩, ⟨[], true, []⟩, ⟨[], false, []⟩, ⟨[], false, []⟩, ⟨[], false, []⟩, ⟨[], false, []⟩, ⟨[], false, []⟩, ⟨[], false, []⟩, ⟨[], false, []⟩, ⟨[], true, []⟩]) (.cond (.seq (.txt []) .leaf) .leaf)) (.seq (.txt []) (.cut ⟨[true], 1, [.slot 2 (.hb 0 0), .slot 11 (.sc (.int .i64))], [(1, true), (5, true), (7, true)]⟩ (.seq (.txt []) (.block (.loop ⟨[true], 1, [.slot 2 (.hb 0 0), .slot 11 (.sc (.int .i64)), .slot 12 (.sc (.int .i64))], [(1, true), (5, true), (7, true), (9, true)]⟩ (.seq (.seq (.txt []) (.cond .leaf .leaf)) (.seq (.block (.seq (.plan [] (.take 0 ⟨[], false, []⟩ (.take 1 ⟨[], false, []⟩ (.take 2 ⟨[], false, []⟩ (.take 3 ⟨[], false, []⟩ (.take 4 ⟨[], false, []⟩ (.take 5 ⟨[], false, []⟩ (.take 6 ⟨[], false, []⟩ (.take 7 ⟨[], false, []⟩ (.take 8 ⟨[], false, []⟩ (.take 9 ⟨[], false, []⟩ (.take 10 ⟨[], false, []⟩ (.take 11 ⟨[], false, []⟩ (.take 12 ⟨[], false, []⟩ .done)))))))))))))) (.seq (.txt []) (.cond (.seq (.txt []) .leaf) .leaf)))) (.txt [])))))) (.seq (.txt []) (.cut ⟨[true, false], 2, [.slot 13 (.hl 1 0), .modl 1 0 3 [.int .i64]], [(7, true), (11, true)]⟩ (.seq (.txt []) (.block (.loop ⟨[true, false], 2, [.slot 2 (.hb 0 0), .slot 13 (.hl 1 0), .slot 14 (.sc (.int .i64)), .modl 1 0 3 [.int .i64]], [(1, true), (5, true), (7, true), (11, true)]⟩ (.seq (.seq (.txt []) (.cond .leaf .leaf)) (.cut ⟨[true, false], 2, [.slot 2 (.hb 0 0), .slot 13 (.hl 1 0), .modl 1 0 3 [.int .i64]], [(1, true), (5, true), (7, true), (11, true), (14, true)]⟩ (.block (.seq (.txt []) (.cut ⟨[true, true, true], 3, [.slot 2 (.hb 0 0), .slot 13 (.hl 1 0), .slot 15 (.hb 2 0)], [(1, true), (5, true), (7, true), (11, true), (14, true)]⟩ (.cut ⟨[true, true, true], 3, [.slot 2 (.hb 0 0), .slot 13 (.hl 1 0), .slot 15 (.hb 2 0), .slot 135 (.sc (.bool))], [(1, true), (5, true), (7, true), (11, true), (14, true)]⟩ (.txt [⟨[], false, []⟩, ⟨[], false, []⟩, ⟨[], false, []⟩, ⟨[], true, []⟩, ⟨[], false, []⟩, ⟨[], false, []⟩, ⟨[], false, []⟩, ⟨[], false, []⟩, ⟨[], false, []⟩, ⟨[], false, []⟩, ⟨[], true, []⟩, ⟨[], false, []⟩, ⟨[], false, []⟩, ⟨[], false, []⟩, ⟨[], false, []⟩, ⟨[], true, []⟩]) (.cond (.seq (.txt []) .leaf) .leaf)) (.seq (.txt []) (.cond (.plan [21] (.take 0 ⟨[], false, []⟩ (.take 1 ⟨[], false, []⟩ (.take 2 ⟨[], false, []⟩ (.take 3 ⟨[], false, []⟩ (.take 4 ⟨[], false, []⟩ (.take 5 ⟨[], false, []⟩ (.take 6 ⟨[], false, []⟩ (.take 7 ⟨[], false, []⟩ (.take 8 ⟨[], false, []⟩ (.take 9 ⟨[], false, []⟩ (.take 10 ⟨[], false, []⟩ (.take 11 ⟨[], false, []⟩ (.take 12 ⟨[], false, []⟩ (.take 13 ⟨[], false, []⟩ (.take 14 ⟨[], false, []⟩ (.take 15 ⟨[], false, []⟩ (.take 16 ⟨[], false, []⟩ (.take 17 ⟨[], false, []⟩ (.take 18 ⟨[], false, []⟩ (.take 19 ⟨[], false, []⟩ (.take 20 ⟨[], false, []⟩ (.alt 21 false ⟨[], false, []⟩ .done .done))))))))))))))))))))))) .leaf))))) (.txt [])))))) (.cut ⟨[true, true], 2, [.slot 11 (.sc (.int .i64)), .slot 13 (.hl 1 0)], [(7, true)]⟩ (.seq (.txt []) (.block (.loop ⟨[true, true], 2, [.slot 11 (.sc (.int .i64)), .slot 13 (.hl 1 0), .slot 16 (.sc (.int .i64))], [(7, true)]⟩ (.seq (.seq (.txt []) (.cond .leaf .leaf)) (.seq (.block (.txt [])) (.txt [])))))) (.seq (.txt [⟨[], false, []⟩, ⟨[], false, []⟩, ⟨[], true, []⟩, ⟨[], false, []⟩, ⟨[], false, []⟩, ⟨[], false, []⟩, ⟨[], false, []⟩, ⟨[], true, []⟩]) .leaf)))))))))))))
set_option maxRecDepth 100000 in
theorem M_law07_QueueAgrees_ok (σ : Hp) (a0_Rides_A : Option Addr) (a0_Rides_n : Nat) (a0_Rides_c : Nat) (a0_Walk : Int) (a1_A : Option Addr) (a1_n : Nat) (a1_c : Nat) (R : Value → Hp → Prop) (h : M_law07_QueueAgrees σ a0_Rides_A a0_Rides_n a0_Rides_c a0_Walk a1_A a1_n a1_c R) : FCalls Try.prog 11 #[(.agg #[(.slice a0_Rides_A a0_Rides_n a0_Rides_c), (.int .i64 a0_Walk)]), (.slice a1_A a1_n a1_c)] σ R :=
  fcalls_of_M mixed_QL11 M_law07_QueueAgrees_an Try.func11 rfl (by kernel_rfl) (by kernel_rfl) (M := M_law07_QueueAgrees σ a0_Rides_A a0_Rides_n a0_Rides_c a0_Walk a1_A a1_n a1_c R) (by kernel_rfl) h
theorem M_law07_QueueAgrees_enter : enterB Try.prog 11 = true := by kernel_rfl

end Go.Proofs.Ytgcefaikdplbkaa
