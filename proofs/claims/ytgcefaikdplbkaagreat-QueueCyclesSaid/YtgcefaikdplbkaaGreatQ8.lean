/- M-forms, printed by wip/gen/genm.py out of the translation: each function as a proposition over its local objects, with the lemma that it is what the function does. -/
import Derived.Test.YtgcefaikdplbkaaGreatB11
namespace Go.Proofs.YtgcefaikdplbkaaGreat
open Go.RowKit

theorem mixed_Q8 : Tryz.prog.follows .mixedOrders = true := by kernel_rfl

abbrev N_queue_Price : FuncId := 15
/-- waltzer/queue.Price -/
def M_queue_Price (σ : Hp) (a0_Rides_A : Option Addr) (a0_Rides_n : Nat) (a0_Rides_c : Nat) (a0_Walk : Int) (a1_A : Option Addr) (a1_n : Nat) (a1_c : Nat) (a2 : Int) (a3_A : Option Addr) (a3_n : Nat) (a3_c : Nat) (R : Value → Hp → Prop) : Prop :=
  cl Tryz.prog (.func (.func 31) #[] #[]) #[(.agg #[(.slice a0_Rides_A a0_Rides_n a0_Rides_c), (.int .i64 a0_Walk)]), (.slice a1_A a1_n a1_c), (.int .i64 a2)] σ (fun v1 σ2 => 
    ∃ n3 : Int, (v1 = (.int .i64 n3) ∧ bc (!decide (n3 = 0)) (rt σ2 R (.tuple #[(.int .i64 0), (.int .i64 0), (.int .i64 n3)])) (cut (α := Int → Hp → Prop) (fun n7 σ5 => 
    ∀ _ : Nat → Value, cl Tryz.prog (.func (.func 35) #[] #[]) #[(.slice a3_A a3_n a3_c)] σ5 (fun v8 σ9 => 
    ∃ A10 : Option Addr, ∃ l10 : Nat, ∃ c10 : Nat, (v8 = (.slice A10 l10 c10) ∧ cl Tryz.prog (.func (.func 36) #[] #[]) #[(.slice A10 l10 c10)] σ9 (fun _ σ12 => 
    cut (α := Int → Int → Hp → Prop) (fun n16 n17 σ14 => ∀ _ : Nat → Value, rt σ14 R (.tuple #[(.int .i64 n16), (.int .i64 n17), (.int .i64 0)])) (fun J15 => 
    ∃ I20 : Nat → Int → Int → Int → Hp → Prop, (∃ n210, I20 n210 n7 (-1) 0 σ12) ∧ ∀ n21 : Nat, ∀ n22 : Int, ∀ n23 : Int, ∀ n24 : Int, ∀ σ19 : Hp, I20 n21 n22 n23 n24 σ19 → ∀ _ : Nat → Value, bc (decide (n24 < ((l10 : Nat) : Int))) (cut (α := Int → Int → Hp → Prop) (fun n28 n29 σ26 => 
    ∀ _ : Nat → Value, wk .i64 (n24 + 1) (fun n30 => bk σ26 n21 (fun m31 σ32 => I20 m31 n28 n29 n30 σ32))) (fun J27 => 
    ix A10 l10 n24 1 (fun b33 a34 => ldI σ19 .i64 b33 a34 (fun n35 => cut (α := Option Addr → Int → Hp → Prop) (fun p39 n40 σ37 => 
    ∀ _ : Nat → Value, bc (decide (n23 < n40)) (dr p39 (fun b41 o42 => ldI σ37 .i64 b41 o42 (fun n43 => 
    J27 n43 n40 σ37))) (J27 n22 n23 σ37)) (fun J38 => bx σ19 (.cells #[(.int .i64 n35)] 3) (fun b44 σ45 => 
    cl Tryz.prog (.func (.func 37) #[] #[]) #[(.agg #[(.slice a0_Rides_A a0_Rides_n a0_Rides_c), (.int .i64 a0_Walk)]), (.int .i64 a2), (.func (.func 38) #[] #[(.pointer (some ⟨b44, 0, none⟩))])] σ45 (fun v46 σ47 => 
    ∃ A48 : Option Addr, ∃ l48 : Nat, ∃ c48 : Nat, ∃ n49 : Int, (v46 = (.agg #[(.slice A48 l48 c48), (.int .i64 n49)]) ∧ 
    cl Tryz.prog (.func (.func 28) #[] #[]) #[(.agg #[(.slice A48 l48 c48), (.int .i64 n49)]), (.slice a1_A a1_n a1_c)] σ47 (fun v50 σ51 => 
    ∃ p52 : Option Addr, (v50 = (.pointer p52) ∧ dr p52 (fun b53 o54 => ldS σ51 b53 (o54 + 1) (fun A55 l55 _ => 
    ∃ I58 : Nat → Int → Int → Hp → Prop, (∃ n590, I58 n590 0 0 σ51) ∧ ∀ n59 : Nat, ∀ n60 : Int, ∀ n61 : Int, ∀ σ57 : Hp, I58 n59 n60 n61 σ57 → ∀ _ : Nat → Value, bc (decide (n61 < ((l55 : Nat) : Int))) (ix A55 l55 n61 1 (fun b62 a63 => 
    ldP σ57 b62 a63 (fun p64 => dr p64 (fun b65 o66 => ldI σ57 .i64 b65 (o66 + 9) (fun n67 => wk .i64 (n60 + n67) (fun n68 => 
    wk .i64 (n61 + 1) (fun n69 => bk σ57 n59 (fun m70 σ71 => I58 m70 n68 n69 σ71)))))))) (J38 (some ⟨b44, 0, none⟩) n60 σ57))))))))))))) (J15 n22 n23 σ19)))))) (fun J6 => 
    cut (α := Bool → Hp → Prop) (fun t75 σ73 => ∀ _ : Nat → Value, bc t75 (rt σ73 R (.tuple #[(.int .i64 0), (.int .i64 0), (.int .i64 1)])) (J6 0 σ73)) (fun J74 => 
    cl Tryz.prog (.func (.func 32) #[] #[]) #[(.int .i64 ((a3_n : Nat) : Int)), (.int .i64 1), (.int .i64 20)] σ2 (fun v76 σ77 => 
    ∃ t78 : Bool, (v76 = (.bool t78) ∧ bc (!t78) (J74 true σ77) (cl Tryz.prog (.func (.func 33) #[] #[]) #[(.slice a3_A a3_n a3_c), (.func (.func 34) #[] #[])] σ77 (fun v79 σ80 => 
    ∃ t81 : Bool, (v79 = (.bool t81) ∧ J74 t81 σ80))))))))))
def M_queue_Price_an : MAn := (.seq (.txt []) (.seq (.seq (.txt []) (.seq (.txt []) (.cond (.seq (.txt []) .leaf) .leaf))) (.cut ⟨[true], 1, [.slot 4 (.hb 0 0), .slot 8 (.sc (.int .i64))], [(1, true), (2, true), (3, true)]⟩ (.cut ⟨[true], 1, [.slot 4 (.hb 0 0), .slot 31 (.sc (.bool))], [(1, true), (2, true), (3, true), (8, true)]⟩ (.txt [⟨[], false, []⟩, ⟨[], false, []⟩, ⟨[], false, []⟩, ⟨[], false, []⟩, ⟨[], true, []⟩]) (.cond (.seq (.txt []) .leaf) .leaf)) (.seq (.txt []) (.seq (.txt []) (.seq (.txt []) (.cut ⟨[true], 1, [.slot 8 (.sc (.int .i64)), .slot 9 (.sc (.int .i64))], []⟩ (.seq (.txt []) (.block (.loop ⟨[true], 1, [.slot 4 (.hb 0 0), .slot 8 (.sc (.int .i64)), .slot 9 (.sc (.int .i64)), .slot 38 (.sc (.int .i64))], [(1, true), (2, true), (36, true), (37, true)]⟩ (.seq (.txt []) (.seq (.cond .leaf .leaf) (.cut ⟨[true], 1, [.slot 4 (.hb 0 0), .slot 8 (.sc (.int .i64)), .slot 9 (.sc (.int .i64))], [(1, true), (2, true), (36, true), (37, true), (38, true)]⟩ (.block (.seq (.txt []) (.seq (.txt []) (.cut ⟨[true, false], 2, [.slot 4 (.hb 0 0), .slot 13 (.sc (.ptr)), .slot 14 (.sc (.int .i64))], [(1, true), (2, true), (8, true), (9, true), (36, true), (37, true), (38, true)]⟩ (.seq (.txt []) (.block (.loop ⟨[true, false], 2, [.slot 4 (.hb 0 0), .slot 14 (.sc (.int .i64)), .slot 52 (.sc (.int .i64))], [(1, true), (2, true), (8, true), (9, true), (13, true), (36, true), (37, true), (38, true), (50, true), (51, true)]⟩ (.seq (.txt []) (.seq (.cond .leaf .leaf) (.seq (.block (.seq (.txt []) (.txt []))) (.txt []))))))) (.seq (.txt []) (.cond (.txt []) .leaf)))))) (.txt []))))))) (.seq (.txt []) .leaf))))))))
set_option maxRecDepth 100000 in
theorem M_queue_Price_ok (σ : Hp) (a0_Rides_A : Option Addr) (a0_Rides_n : Nat) (a0_Rides_c : Nat) (a0_Walk : Int) (a1_A : Option Addr) (a1_n : Nat) (a1_c : Nat) (a2 : Int) (a3_A : Option Addr) (a3_n : Nat) (a3_c : Nat) (R : Value → Hp → Prop) (h : M_queue_Price σ a0_Rides_A a0_Rides_n a0_Rides_c a0_Walk a1_A a1_n a1_c a2 a3_A a3_n a3_c R) : FCalls Tryz.prog 15 #[(.agg #[(.slice a0_Rides_A a0_Rides_n a0_Rides_c), (.int .i64 a0_Walk)]), (.slice a1_A a1_n a1_c), (.int .i64 a2), (.slice a3_A a3_n a3_c)] σ R :=
  fcalls_of_M mixed_Q8 M_queue_Price_an Tryz.func15 rfl (by kernel_rfl) (by kernel_rfl) (M := M_queue_Price σ a0_Rides_A a0_Rides_n a0_Rides_c a0_Walk a1_A a1_n a1_c a2 a3_A a3_n a3_c R) (by kernel_rfl) h
theorem M_queue_Price_enter : enterB Tryz.prog 15 = true := by kernel_rfl

abbrev N_ref07_Price : FuncId := 16
/-- waltzer/waltzerref07.Price -/
def M_ref07_Price (σ : Hp) (a0_Rides_A : Option Addr) (a0_Rides_n : Nat) (a0_Rides_c : Nat) (a0_Walk : Int) (a1_A : Option Addr) (a1_n : Nat) (a1_c : Nat) (a2 : Int) (a3_A : Option Addr) (a3_n : Nat) (_ : Nat) (R : Value → Hp → Prop) : Prop :=
  cl Tryz.prog (.func (.func 25) #[] #[]) #[(.agg #[(.slice a0_Rides_A a0_Rides_n a0_Rides_c), (.int .i64 a0_Walk)]), (.slice a1_A a1_n a1_c)] σ (fun v1 σ2 => 
    ∃ n3 : Int, (v1 = (.int .i64 n3) ∧ bc (!decide (n3 = 0)) (rt σ2 R (.tuple #[(.int .i64 0), (.int .i64 0), (.int .i64 n3)])) (cut (α := Hp → Prop) (fun  σ5 => 
    ∀ _ : Nat → Value, cut (α := Hp → Prop) (fun  σ8 => ∀ _ : Nat → Value, cut (α := Int → Int → Hp → Prop) (fun n13 n14 σ11 => 
    ∀ _ : Nat → Value, rt σ11 R (.tuple #[(.int .i64 n13), (.int .i64 n14), (.int .i64 0)])) (fun J12 => 
    ∃ I17 : Nat → Int → Int → Int → Hp → Prop, (∃ n180, I17 n180 (-1) 0 0 σ8) ∧ ∀ n18 : Nat, ∀ n19 : Int, ∀ n20 : Int, ∀ n21 : Int, ∀ σ16 : Hp, I17 n18 n19 n20 n21 σ16 → ∀ _ : Nat → Value, bc (decide (n21 < ((a3_n : Nat) : Int))) (cut (α := Int → Int → Hp → Prop) (fun n25 n26 σ23 => 
    ∀ _ : Nat → Value, wk .i64 (n21 + 1) (fun n27 => bk σ23 n18 (fun m28 σ29 => I17 m28 n25 n26 n27 σ29))) (fun J24 => 
    cl Tryz.prog (.func (.func 9) #[] #[]) #[(.agg #[(.slice a0_Rides_A a0_Rides_n a0_Rides_c), (.int .i64 a0_Walk)])] σ16 (fun v30 σ31 => 
    ∃ A32 : Option Addr, ∃ l32 : Nat, ∃ c32 : Nat, ∃ n33 : Int, (v30 = (.agg #[(.slice A32 l32 c32), (.int .i64 n33)]) ∧ 
    ix a3_A a3_n n21 1 (fun b34 a35 => ldI σ31 .i64 b34 a35 (fun n36 => ix A32 l32 a2 5 (fun b37 a38 => st σ31 b37 (a38 + 1) (.int .i64 n36) (fun σ39 => 
    cl Tryz.prog (.func (.func 26) #[] #[]) #[(.agg #[(.slice A32 l32 c32), (.int .i64 n33)]), (.slice a1_A a1_n a1_c)] σ39 (fun v40 σ41 => 
    ∃ p42 : Option Addr, (v40 = (.pointer p42) ∧ dr p42 (fun b43 o44 => ldS σ41 b43 (o44 + 9) (fun A45 l45 _ => 
    cut (α := Int → Hp → Prop) (fun n49 σ47 => ∀ _ : Nat → Value, cut (α := Bool → Hp → Prop) (fun t53 σ51 => 
    ∀ _ : Nat → Value, bc t53 (ix a3_A a3_n n21 1 (fun b54 a55 => ldI σ51 .i64 b54 a55 (fun n56 => J24 n56 n49 σ51))) (J24 n19 n20 σ51)) (fun J52 => 
    bc (decide (n19 < 0)) (J52 true σ47) (bc (decide (n20 < n49)) (J52 true σ47) (bc (decide (n49 = n20)) (ix a3_A a3_n n21 1 (fun b57 a58 => 
    ldI σ47 .i64 b57 a58 (fun n59 => J52 (decide (n59 < n19)) σ47))) (J52 false σ47))))) (fun J48 => ∃ I62 : Nat → Int → Int → Hp → Prop, (∃ n630, I62 n630 0 0 σ41) ∧ 
    ∀ n63 : Nat, ∀ n64 : Int, ∀ n65 : Int, ∀ σ61 : Hp, I62 n63 n64 n65 σ61 → ∀ _ : Nat → Value, bc (decide (n65 < ((l45 : Nat) : Int))) (ix A45 l45 n65 1 (fun b66 a67 => 
    ldI σ61 .i64 b66 a67 (fun n68 => wk .i64 (n64 + n68) (fun n69 => wk .i64 (n65 + 1) (fun n70 => bk σ61 n63 (fun m71 σ72 => 
    I62 m71 n69 n70 σ72)))))) (J48 n64 σ61)))))))))))))) (J12 n19 n20 σ16))) (fun J9 => ∃ I75 : Nat → Int → Hp → Prop, (∃ n760, I75 n760 0 σ5) ∧ 
    ∀ n76 : Nat, ∀ n77 : Int, ∀ σ74 : Hp, I75 n76 n77 σ74 → ∀ _ : Nat → Value, bc (decide (n77 < ((a3_n : Nat) : Int))) (ix a3_A a3_n n77 1 (fun b78 a79 => 
    ldI σ74 .i64 b78 a79 (fun n80 => cl Tryz.prog (.func (.func 39) #[] #[]) #[(.int .i64 n80), (.int .i64 0), (.int .i64 100)] σ74 (fun v81 σ82 => 
    ∃ t83 : Bool, (v81 = (.bool t83) ∧ bc (!t83) (rt σ82 R (.tuple #[(.int .i64 0), (.int .i64 0), (.int .i64 1)])) (wk .i64 (n77 + 1) (fun n84 => 
    bk σ82 n76 (fun m85 σ86 => I75 m85 n84 σ86)))))))) (J9 σ74))) (fun J6 => cut (α := Bool → Hp → Prop) (fun t90 σ88 => 
    ∀ _ : Nat → Value, bc t90 (rt σ88 R (.tuple #[(.int .i64 0), (.int .i64 0), (.int .i64 1)])) (J6 σ88)) (fun J89 => 
    wk .i64 (((a0_Rides_n : Nat) : Int) - 1) (fun n91 => cl Tryz.prog (.func (.func 39) #[] #[]) #[(.int .i64 a2), (.int .i64 0), (.int .i64 n91)] σ2 (fun v92 σ93 => 
    ∃ t94 : Bool, (v92 = (.bool t94) ∧ bc (!t94) (J89 true σ93) (cl Tryz.prog (.func (.func 39) #[] #[]) #[(.int .i64 ((a3_n : Nat) : Int)), (.int .i64 1), (.int .i64 20)] σ93 (fun v95 σ96 => 
    ∃ t97 : Bool, (v95 = (.bool t97) ∧ J89 (!t97) σ96)))))))))))
def M_ref07_Price_an : MAn := (.seq (.txt []) (.seq (.txt []) (.seq (.seq (.txt []) (.cond (.seq (.txt []) .leaf) .leaf)) (.cut ⟨[true], 1, [.slot 4 (.hb 0 0)], [(1, true), (2, true), (3, true)]⟩ (.cut ⟨[true], 1, [.slot 4 (.hb 0 0), .slot 38 (.sc (.bool))], [(1, true), (2, true), (3, true)]⟩ (.txt [⟨[], false, []⟩, ⟨[], false, []⟩, ⟨[], false, []⟩, ⟨[], false, []⟩, ⟨[], false, []⟩, ⟨[], false, []⟩, ⟨[], false, []⟩, ⟨[], true, []⟩]) (.cond (.seq (.txt []) .leaf) .leaf)) (.cut ⟨[true], 1, [.slot 4 (.hb 0 0)], [(1, true), (2, true), (3, true)]⟩ (.seq (.txt []) (.block (.loop ⟨[true], 1, [.slot 4 (.hb 0 0), .slot 12 (.sc (.int .i64))], [(1, true), (2, true), (3, true)]⟩ (.seq (.seq (.txt []) (.cond .leaf .leaf)) (.seq (.block (.seq (.txt []) (.cond (.seq (.txt []) .leaf) .leaf))) (.txt [])))))) (.seq (.txt []) (.cut ⟨[true], 1, [.slot 13 (.sc (.int .i64)), .slot 14 (.sc (.int .i64))], []⟩ (.seq (.txt []) (.block (.loop ⟨[true], 1, [.slot 4 (.hb 0 0), .slot 13 (.sc (.int .i64)), .slot 14 (.sc (.int .i64)), .slot 15 (.sc (.int .i64))], [(1, true), (2, true), (3, true)]⟩ (.seq (.seq (.txt []) (.cond .leaf .leaf)) (.cut ⟨[true], 1, [.slot 4 (.hb 0 0), .slot 13 (.sc (.int .i64)), .slot 14 (.sc (.int .i64))], [(1, true), (2, true), (3, true), (15, true)]⟩ (.block (.seq (.txt []) (.seq (.plan [9] (.take 0 ⟨[], false, []⟩ (.take 1 ⟨[], false, []⟩ (.take 2 ⟨[], false, []⟩ (.take 3 ⟨[], false, []⟩ (.take 4 ⟨[], false, []⟩ (.take 5 ⟨[], false, []⟩ (.take 6 ⟨[], false, []⟩ (.take 7 ⟨[], false, []⟩ (.take 8 ⟨[], false, []⟩ (.alt 9 false ⟨[], false, []⟩ .done .done))))))))))) (.seq (.txt []) (.seq (.txt []) (.cut ⟨[true, true], 2, [.slot 4 (.hb 0 0), .slot 18 (.sc (.int .i64))], [(1, true), (2, true), (3, true), (13, true), (14, true), (15, true)]⟩ (.seq (.txt []) (.block (.loop ⟨[true, true], 2, [.slot 4 (.hb 0 0), .slot 18 (.sc (.int .i64)), .slot 19 (.sc (.int .i64))], [(1, true), (2, true), (3, true), (13, true), (14, true), (15, true), (17, true)]⟩ (.seq (.seq (.txt []) (.cond .leaf .leaf)) (.seq (.block (.txt [])) (.txt [])))))) (.cut ⟨[true, true], 2, [.slot 4 (.hb 0 0), .slot 105 (.sc (.bool))], [(1, true), (2, true), (3, true), (13, true), (14, true), (15, true), (18, true)]⟩ (.txt [⟨[], false, []⟩, ⟨[], false, []⟩, ⟨[], true, []⟩, ⟨[], false, []⟩, ⟨[], false, []⟩, ⟨[], false, []⟩, ⟨[], false, []⟩, ⟨[], true, []⟩, ⟨[], false, []⟩, ⟨[], false, []⟩, ⟨[], false, []⟩, ⟨[], true, []⟩]) (.cond (.seq (.txt []) (.txt [])) .leaf)))))))) (.txt [])))))) (.seq (.txt []) .leaf))))))))
set_option maxRecDepth 100000 in
theorem M_ref07_Price_ok (σ : Hp) (a0_Rides_A : Option Addr) (a0_Rides_n : Nat) (a0_Rides_c : Nat) (a0_Walk : Int) (a1_A : Option Addr) (a1_n : Nat) (a1_c : Nat) (a2 : Int) (a3_A : Option Addr) (a3_n : Nat) (a3_c : Nat) (R : Value → Hp → Prop) (h : M_ref07_Price σ a0_Rides_A a0_Rides_n a0_Rides_c a0_Walk a1_A a1_n a1_c a2 a3_A a3_n a3_c R) : FCalls Tryz.prog 16 #[(.agg #[(.slice a0_Rides_A a0_Rides_n a0_Rides_c), (.int .i64 a0_Walk)]), (.slice a1_A a1_n a1_c), (.int .i64 a2), (.slice a3_A a3_n a3_c)] σ R :=
  fcalls_of_M mixed_Q8 M_ref07_Price_an Tryz.func16 rfl (by kernel_rfl) (by kernel_rfl) (M := M_ref07_Price σ a0_Rides_A a0_Rides_n a0_Rides_c a0_Walk a1_A a1_n a1_c a2 a3_A a3_n a3_c R) (by kernel_rfl) h
theorem M_ref07_Price_enter : enterB Tryz.prog 16 = true := by kernel_rfl

abbrev N_queue_Cycle : FuncId := 18
/-- waltzer/queue.Cycle -/
def M_queue_Cycle (σ : Hp) (a0_Rides_A : Option Addr) (a0_Rides_n : Nat) (a0_Rides_c : Nat) (a0_Walk : Int) (a1_A : Option Addr) (a1_n : Nat) (a1_c : Nat) (a2 : Int) (a3 : Int) (a4 : Int) (R : Value → Hp → Prop) : Prop :=
  cl Tryz.prog (.func (.func 31) #[] #[]) #[(.agg #[(.slice a0_Rides_A a0_Rides_n a0_Rides_c), (.int .i64 a0_Walk)]), (.slice a1_A a1_n a1_c), (.int .i64 a2)] σ (fun v1 σ2 => 
    ∃ n3 : Int, (v1 = (.int .i64 n3) ∧ bc (!decide (n3 = 0)) (rt σ2 R (.tuple #[(.int .i64 0), (.int .i64 n3)])) (cut (α := Hp → Prop) (fun  σ5 => 
    ∀ _ : Nat → Value, cut (α := Int → Int → Hp → Prop) (fun n10 n11 σ8 => ∀ _ : Nat → Value, bc (decide (n11 = 0)) (rt σ8 R (.tuple #[(.int .i64 0), (.int .i64 3)])) (rt σ8 R (.tuple #[(.int .i64 n10), (.int .i64 0)]))) (fun J9 => 
    ∃ I14 : Nat → Int → Int → Int → Option Addr → Hp → Prop, (∃ n150, bx σ5 (.cells #[(.int .i64 a3)] 3) (fun b16 σ17 => 
    I14 n150 0 0 0 (some ⟨b16, 0, none⟩) σ17)) ∧ ∀ n15 : Nat, ∀ n18 : Int, ∀ n19 : Int, ∀ n20 : Int, ∀ p21 : Option Addr, ∀ σ13 : Hp, I14 n15 n18 n19 n20 p21 σ13 → ∀ _ : Nat → Value, dr p21 (fun b22 o23 => 
    ldI σ13 .i64 b22 o23 (fun n24 => bc (decide (n24 ≤ a4)) (cut (α := Int → Int → Int → Hp → Prop) (fun n28 n29 n30 σ26 => 
    ∀ _ : Nat → Value, dr p21 (fun b31 o32 => ldI σ26 .i64 b31 o32 (fun n33 => wk .i64 (n33 + 1) (fun n34 => 
    bk σ26 n15 (fun m35 σ36 => bx σ36 (.cells #[(.int .i64 n34)] 3) (fun b37 σ38 => I14 m35 n28 n29 n30 (some ⟨b37, 0, none⟩) σ38)))))) (fun J27 => 
    cl Tryz.prog (.func (.func 37) #[] #[]) #[(.agg #[(.slice a0_Rides_A a0_Rides_n a0_Rides_c), (.int .i64 a0_Walk)]), (.int .i64 a2), (.func (.func 41) #[] #[(.pointer p21)])] σ13 (fun v39 σ40 => 
    ∃ A41 : Option Addr, ∃ l41 : Nat, ∃ c41 : Nat, ∃ n42 : Int, (v39 = (.agg #[(.slice A41 l41 c41), (.int .i64 n42)]) ∧ 
    cl Tryz.prog (.func (.func 28) #[] #[]) #[(.agg #[(.slice A41 l41 c41), (.int .i64 n42)]), (.slice a1_A a1_n a1_c)] σ40 (fun v43 σ44 => 
    ∃ p45 : Option Addr, (v43 = (.pointer p45) ∧ cl Tryz.prog (.func (.func 29) #[] #[]) #[(.pointer p45)] σ44 (fun v46 σ47 => 
    ∃ n48 : Int, ∃ n49 : Int, (v46 = (.tuple #[(.int .i64 n48), (.int .i64 n49)]) ∧ cut (α := Bool → Hp → Prop) (fun t53 σ51 => 
    ∀ _ : Nat → Value, bc t53 (dr p21 (fun b54 o55 => ldI σ51 .i64 b54 o55 (fun n56 => J27 n56 n48 n49 σ51))) (J27 n18 n19 n20 σ51)) (fun J52 => 
    bc (decide ((0 : Int) < n49)) (bc (decide (n20 = 0)) (J52 true σ47) (wk .i64 (n48 * n20) (fun n57 => 
    wk .i64 (n19 * n49) (fun n58 => J52 (decide (n57 < n58)) σ47)))) (J52 false σ47)))))))))) (J9 n18 n20 σ13))))) (fun J6 => 
    cut (α := Bool → Hp → Prop) (fun t62 σ60 => ∀ _ : Nat → Value, bc t62 (rt σ60 R (.tuple #[(.int .i64 0), (.int .i64 1)])) (J6 σ60)) (fun J61 => 
    cl Tryz.prog (.func (.func 32) #[] #[]) #[(.int .i64 a3), (.int .i64 1), (.int .i64 a4)] σ2 (fun v63 σ64 => 
    ∃ t65 : Bool, (v63 = (.bool t65) ∧ bc (!t65) (J61 true σ64) (cl Tryz.prog (.func (.func 32) #[] #[]) #[(.int .i64 a4), (.int .i64 1), (.int .i64 100)] σ64 (fun v66 σ67 => 
    ∃ t68 : Bool, (v66 = (.bool t68) ∧ bc (!t68) (J61 true σ67) (wk .i64 (a4 - a3) (fun n69 => J61 (decide ((20 : Int) < n69)) σ67))))))))))))
def M_queue_Cycle_an : MAn := (.seq (.txt []) (.seq (.seq (.txt []) (.seq (.txt []) (.cond (.seq (.txt []) .leaf) .leaf))) (.cut ⟨[true], 1, [.slot 5 (.hb 0 0)], [(1, true), (2, true), (3, true), (4, true)]⟩ (.cut ⟨[true], 1, [.slot 5 (.hb 0 0), .slot 40 (.sc (.bool))], [(1, true), (2, true), (3, true), (4, true)]⟩ (.txt [⟨[], false, []⟩, ⟨[], false, []⟩, ⟨[], false, []⟩, ⟨[], false, []⟩, ⟨[], true, []⟩, ⟨[], false, []⟩, ⟨[], false, []⟩, ⟨[], false, []⟩, ⟨[], false, []⟩, ⟨[], true, []⟩]) (.cond (.seq (.txt []) .leaf) .leaf)) (.seq (.txt []) (.cut ⟨[true], 1, [.slot 13 (.sc (.int .i64)), .slot 15 (.sc (.int .i64))], []⟩ (.seq (.txt []) (.block (.loop ⟨[true, false], 2, [.slot 5 (.hb 0 0), .slot 13 (.sc (.int .i64)), .slot 14 (.sc (.int .i64)), .slot 15 (.sc (.int .i64)), .slot 16 (.sc (.ptr))], [(1, true), (2, true), (4, true)]⟩ (.seq (.seq (.txt []) (.cond .leaf .leaf)) (.cut ⟨[true, false], 2, [.slot 5 (.hb 0 0), .slot 13 (.sc (.int .i64)), .slot 14 (.sc (.int .i64)), .slot 15 (.sc (.int .i64))], [(1, true), (2, true), (4, true), (16, true)]⟩ (.block (.seq (.txt []) (.cut ⟨[true, false], 2, [.slot 5 (.hb 0 0), .slot 71 (.sc (.bool))], [(1, true), (2, true), (4, true), (13, true), (14, true), (15, true), (16, true), (17, true), (18, true)]⟩ (.txt [⟨[], false, []⟩, ⟨[], false, []⟩, ⟨[], true, []⟩, ⟨[], false, []⟩, ⟨[], false, []⟩, ⟨[], true, []⟩]) (.cond (.txt []) .leaf)))) (.seq (.seq (.txt []) (.txt [])) (.txt []))))))) (.seq (.seq (.txt []) (.cond (.seq (.txt []) .leaf) .leaf)) (.seq (.txt []) .leaf)))))))
set_option maxRecDepth 100000 in
theorem M_queue_Cycle_ok (σ : Hp) (a0_Rides_A : Option Addr) (a0_Rides_n : Nat) (a0_Rides_c : Nat) (a0_Walk : Int) (a1_A : Option Addr) (a1_n : Nat) (a1_c : Nat) (a2 : Int) (a3 : Int) (a4 : Int) (R : Value → Hp → Prop) (h : M_queue_Cycle σ a0_Rides_A a0_Rides_n a0_Rides_c a0_Walk a1_A a1_n a1_c a2 a3 a4 R) : FCalls Tryz.prog 18 #[(.agg #[(.slice a0_Rides_A a0_Rides_n a0_Rides_c), (.int .i64 a0_Walk)]), (.slice a1_A a1_n a1_c), (.int .i64 a2), (.int .i64 a3), (.int .i64 a4)] σ R :=
  fcalls_of_M mixed_Q8 M_queue_Cycle_an Tryz.func18 rfl (by kernel_rfl) (by kernel_rfl) (M := M_queue_Cycle σ a0_Rides_A a0_Rides_n a0_Rides_c a0_Walk a1_A a1_n a1_c a2 a3 a4 R) (by kernel_rfl) h
theorem M_queue_Cycle_enter : enterB Tryz.prog 18 = true := by kernel_rfl

abbrev N_ref07_Cycle : FuncId := 19
/-- waltzer/waltzerref07.Cycle -/
def M_ref07_Cycle (σ : Hp) (a0_Rides_A : Option Addr) (a0_Rides_n : Nat) (a0_Rides_c : Nat) (a0_Walk : Int) (a1_A : Option Addr) (a1_n : Nat) (a1_c : Nat) (a2 : Int) (a3 : Int) (a4 : Int) (R : Value → Hp → Prop) : Prop :=
  cl Tryz.prog (.func (.func 25) #[] #[]) #[(.agg #[(.slice a0_Rides_A a0_Rides_n a0_Rides_c), (.int .i64 a0_Walk)]), (.slice a1_A a1_n a1_c)] σ (fun v1 σ2 => 
    ∃ n3 : Int, (v1 = (.int .i64 n3) ∧ bc (!decide (n3 = 0)) (rt σ2 R (.tuple #[(.int .i64 0), (.int .i64 n3)])) (cut (α := Hp → Prop) (fun  σ5 => 
    ∀ _ : Nat → Value, cut (α := Int → Hp → Prop) (fun n10 σ8 => ∀ _ : Nat → Value, bc (decide (n10 = 0)) (rt σ8 R (.tuple #[(.int .i64 0), (.int .i64 3)])) (rt σ8 R (.tuple #[(.int .i64 n10), (.int .i64 0)]))) (fun J9 => 
    ∃ I13 : Nat → Int → Int → Int → Int → Hp → Prop, (∃ n140, I13 n140 0 0 0 a3 σ5) ∧ ∀ n14 : Nat, ∀ n15 : Int, ∀ n16 : Int, ∀ n17 : Int, ∀ n18 : Int, ∀ σ12 : Hp, I13 n14 n15 n16 n17 n18 σ12 → ∀ _ : Nat → Value, bc (decide (n18 ≤ a4)) (cut (α := Int → Int → Int → Hp → Prop) (fun n22 n23 n24 σ20 => 
    ∀ _ : Nat → Value, wk .i64 (n18 + 1) (fun n25 => bk σ20 n14 (fun m26 σ27 => I13 m26 n22 n23 n24 n25 σ27))) (fun J21 => 
    cl Tryz.prog (.func (.func 9) #[] #[]) #[(.agg #[(.slice a0_Rides_A a0_Rides_n a0_Rides_c), (.int .i64 a0_Walk)])] σ12 (fun v28 σ29 => 
    ∃ A30 : Option Addr, ∃ l30 : Nat, ∃ c30 : Nat, ∃ n31 : Int, (v28 = (.agg #[(.slice A30 l30 c30), (.int .i64 n31)]) ∧ 
    ix A30 l30 a2 5 (fun b32 a33 => st σ29 b32 (a33 + 2) (.int .i64 n18) (fun σ34 => cl Tryz.prog (.func (.func 30) #[] #[]) #[(.agg #[(.slice A30 l30 c30), (.int .i64 n31)]), (.slice a1_A a1_n a1_c)] σ34 (fun v35 σ36 => 
    ∃ n37 : Int, ∃ n38 : Int, (v35 = (.tuple #[(.int .i64 n37), (.int .i64 n38)]) ∧ cut (α := Bool → Hp → Prop) (fun t42 σ40 => 
    ∀ _ : Nat → Value, bc t42 (J21 n18 n37 n38 σ40) (J21 n15 n16 n17 σ40)) (fun J41 => bc (decide ((0 : Int) < n38)) (bc (decide (n15 = 0)) (J41 true σ36) (wk .i64 (n37 * n17) (fun n43 => 
    wk .i64 (n16 * n38) (fun n44 => J41 (decide (n43 < n44)) σ36)))) (J41 false σ36)))))))))) (J9 n15 σ12))) (fun J6 => 
    cut (α := Bool → Hp → Prop) (fun t48 σ46 => ∀ _ : Nat → Value, bc t48 (rt σ46 R (.tuple #[(.int .i64 0), (.int .i64 1)])) (J6 σ46)) (fun J47 => 
    wk .i64 (((a0_Rides_n : Nat) : Int) - 1) (fun n49 => cl Tryz.prog (.func (.func 39) #[] #[]) #[(.int .i64 a2), (.int .i64 0), (.int .i64 n49)] σ2 (fun v50 σ51 => 
    ∃ t52 : Bool, (v50 = (.bool t52) ∧ bc (!t52) (J47 true σ51) (cl Tryz.prog (.func (.func 39) #[] #[]) #[(.int .i64 a3), (.int .i64 1), (.int .i64 100)] σ51 (fun v53 σ54 => 
    ∃ t55 : Bool, (v53 = (.bool t55) ∧ bc (!t55) (J47 true σ54) (cl Tryz.prog (.func (.func 39) #[] #[]) #[(.int .i64 a4), (.int .i64 a3), (.int .i64 100)] σ54 (fun v56 σ57 => 
    ∃ t58 : Bool, (v56 = (.bool t58) ∧ bc (!t58) (J47 true σ57) (wk .i64 (a4 - a3) (fun n59 => J47 (decide ((20 : Int) < n59)) σ57))))))))))))))))
def M_ref07_Cycle_an : MAn := (.seq (.txt []) (.seq (.txt []) (.seq (.seq (.txt []) (.cond (.seq (.txt []) .leaf) .leaf)) (.cut ⟨[true], 1, [.slot 5 (.hb 0 0)], [(1, true), (2, true), (3, true), (4, true)]⟩ (.cut ⟨[true], 1, [.slot 5 (.hb 0 0), .slot 49 (.sc (.bool))], [(1, true), (2, true), (3, true), (4, true)]⟩ (.txt [⟨[], false, []⟩, ⟨[], false, []⟩, ⟨[], false, []⟩, ⟨[], false, []⟩, ⟨[], false, []⟩, ⟨[], false, []⟩, ⟨[], false, []⟩, ⟨[], true, []⟩, ⟨[], false, []⟩, ⟨[], false, []⟩, ⟨[], false, []⟩, ⟨[], false, []⟩, ⟨[], true, []⟩, ⟨[], false, []⟩, ⟨[], false, []⟩, ⟨[], false, []⟩, ⟨[], false, []⟩, ⟨[], false, []⟩, ⟨[], true, []⟩]) (.cond (.seq (.txt []) .leaf) .leaf)) (.seq (.txt []) (.cut ⟨[true], 1, [.slot 13 (.sc (.int .i64))], []⟩ (.seq (.txt []) (.block (.loop ⟨[true], 1, [.slot 5 (.hb 0 0), .slot 13 (.sc (.int .i64)), .slot 14 (.sc (.int .i64)), .slot 15 (.sc (.int .i64)), .slot 16 (.sc (.int .i64))], [(1, true), (2, true), (4, true)]⟩ (.seq (.seq (.txt []) (.cond .leaf .leaf)) (.cut ⟨[true], 1, [.slot 5 (.hb 0 0), .slot 13 (.sc (.int .i64)), .slot 14 (.sc (.int .i64)), .slot 15 (.sc (.int .i64))], [(1, true), (2, true), (4, true), (16, true)]⟩ (.block (.seq (.txt []) (.seq (.txt []) (.seq (.txt []) (.cut ⟨[true, true], 2, [.slot 5 (.hb 0 0), .slot 84 (.sc (.bool))], [(1, true), (2, true), (4, true), (13, true), (14, true), (15, true), (16, true), (18, true), (19, true)]⟩ (.txt [⟨[], false, []⟩, ⟨[], false, []⟩, ⟨[], true, []⟩, ⟨[], false, []⟩, ⟨[], false, []⟩, ⟨[], true, []⟩]) (.cond (.seq (.txt []) (.seq (.txt []) (.txt []))) .leaf)))))) (.txt [])))))) (.seq (.seq (.txt []) (.cond (.seq (.txt []) .leaf) .leaf)) (.seq (.txt []) .leaf))))))))
set_option maxRecDepth 100000 in
theorem M_ref07_Cycle_ok (σ : Hp) (a0_Rides_A : Option Addr) (a0_Rides_n : Nat) (a0_Rides_c : Nat) (a0_Walk : Int) (a1_A : Option Addr) (a1_n : Nat) (a1_c : Nat) (a2 : Int) (a3 : Int) (a4 : Int) (R : Value → Hp → Prop) (h : M_ref07_Cycle σ a0_Rides_A a0_Rides_n a0_Rides_c a0_Walk a1_A a1_n a1_c a2 a3 a4 R) : FCalls Tryz.prog 19 #[(.agg #[(.slice a0_Rides_A a0_Rides_n a0_Rides_c), (.int .i64 a0_Walk)]), (.slice a1_A a1_n a1_c), (.int .i64 a2), (.int .i64 a3), (.int .i64 a4)] σ R :=
  fcalls_of_M mixed_Q8 M_ref07_Cycle_an Tryz.func19 rfl (by kernel_rfl) (by kernel_rfl) (M := M_ref07_Cycle σ a0_Rides_A a0_Rides_n a0_Rides_c a0_Walk a1_A a1_n a1_c a2 a3 a4 R) (by kernel_rfl) h
theorem M_ref07_Cycle_enter : enterB Tryz.prog 19 = true := by kernel_rfl

abbrev N_queue_checkRide : FuncId := 31
/-- waltzer/queue.checkRide -/
def M_queue_checkRide (σ : Hp) (f_Rides_A : Option Addr) (f_Rides_n : Nat) (f_Rides_c : Nat) (f_Walk : Int) (l_A : Option Addr) (l_n : Nat) (l_c : Nat) (ride : Int) (R : Value → Hp → Prop) : Prop :=
  cl Tryz.prog (.func (.func 27) #[] #[]) #[(.agg #[(.slice f_Rides_A f_Rides_n f_Rides_c), (.int .i64 f_Walk)]), (.slice l_A l_n l_c)] σ (fun v1 σ2 => 
    ∃ n3 : Int, (v1 = (.int .i64 n3) ∧ bc (!decide (n3 = 0)) (rt σ2 R (.int .i64 n3)) (wk .i64 (((f_Rides_n : Nat) : Int) - 1) (fun n4 => 
    cl Tryz.prog (.func (.func 32) #[] #[]) #[(.int .i64 ride), (.int .i64 0), (.int .i64 n4)] σ2 (fun v5 σ6 => 
    ∃ t7 : Bool, (v5 = (.bool t7) ∧ bc (!t7) (rt σ6 R (.int .i64 1)) (rt σ6 R (.int .i64 0))))))))
def M_queue_checkRide_an : MAn := (.seq (.txt []) (.seq (.seq (.txt []) (.seq (.txt []) (.cond (.seq (.txt []) .leaf) .leaf))) (.seq (.seq (.txt []) (.cond (.seq (.txt []) .leaf) .leaf)) (.seq (.txt []) .leaf))))
set_option maxRecDepth 100000 in
theorem M_queue_checkRide_ok (σ : Hp) (f_Rides_A : Option Addr) (f_Rides_n : Nat) (f_Rides_c : Nat) (f_Walk : Int) (l_A : Option Addr) (l_n : Nat) (l_c : Nat) (ride : Int) (R : Value → Hp → Prop) (h : M_queue_checkRide σ f_Rides_A f_Rides_n f_Rides_c f_Walk l_A l_n l_c ride R) : FCalls Tryz.prog 31 #[(.agg #[(.slice f_Rides_A f_Rides_n f_Rides_c), (.int .i64 f_Walk)]), (.slice l_A l_n l_c), (.int .i64 ride)] σ R :=
  fcalls_of_M mixed_Q8 M_queue_checkRide_an Tryz.func31 rfl (by kernel_rfl) (by kernel_rfl) (M := M_queue_checkRide σ f_Rides_A f_Rides_n f_Rides_c f_Walk l_A l_n l_c ride R) (by kernel_rfl) h
theorem M_queue_checkRide_enter : enterB Tryz.prog 31 = true := by kernel_rfl

abbrev N_queue_Price_1 : FuncId := 34
/-- waltzer/queue.Price$1 -/
def M_queue_Price_1 (σ : Hp) (p : Int) (R : Value → Hp → Prop) : Prop :=
  cl Tryz.prog (.func (.func 32) #[] #[]) #[(.int .i64 p), (.int .i64 0), (.int .i64 100)] σ (fun v1 σ2 => 
    ∃ t3 : Bool, (v1 = (.bool t3) ∧ rt σ2 R (.bool (!t3))))
def M_queue_Price_1_an : MAn := (.seq (.txt []) (.seq (.txt []) .leaf))
set_option maxRecDepth 100000 in
theorem M_queue_Price_1_ok (σ : Hp) (p : Int) (R : Value → Hp → Prop) (h : M_queue_Price_1 σ p R) : FCalls Tryz.prog 34 #[(.int .i64 p)] σ R :=
  fcalls_of_M mixed_Q8 M_queue_Price_1_an Tryz.func34 rfl (by kernel_rfl) (by kernel_rfl) (M := M_queue_Price_1 σ p R) (by kernel_rfl) h
theorem M_queue_Price_1_enter : enterB Tryz.prog 34 = true := by kernel_rfl

abbrev N_slices_Clone_int : FuncId := 35
/-- slices.Clone[[]int,int] -/
def M_slices_Clone_int (σ : Hp) (s_A : Option Addr) (s_n : Nat) (_ : Nat) (R : Value → Hp → Prop) : Prop :=
  bc ((s_A).isNone) (rt σ R (.slice none 0 0)) (∃ ys1 : List Int, RdS [.int .i64] σ s_A s_n ys1 ∧ roomy (List.length ([] : List Int) + List.length ys1) (exl 3 [.int .i64] (([] : List Int) ++ ys1) σ (fun A2 l2 c2 σ3 => 
    rt σ3 R (.slice A2 l2 c2))))
def M_slices_Clone_int_an : MAn := (.seq (.txt []) (.seq (.seq (.txt []) (.cond (.seq (.txt []) .leaf) .leaf)) (.seq (.txt []) .leaf)))
set_option maxRecDepth 100000 in
theorem M_slices_Clone_int_ok (σ : Hp) (s_A : Option Addr) (s_n : Nat) (s_c : Nat) (R : Value → Hp → Prop) (h : M_slices_Clone_int σ s_A s_n s_c R) : FCalls Tryz.prog 35 #[(.slice s_A s_n s_c)] σ R :=
  fcalls_of_M mixed_Q8 M_slices_Clone_int_an Tryz.func35 rfl (by kernel_rfl) (by kernel_rfl) (M := M_slices_Clone_int σ s_A s_n s_c R) (by kernel_rfl) h
theorem M_slices_Clone_int_enter : enterB Tryz.prog 35 = true := by kernel_rfl

abbrev N_queue_changed : FuncId := 37
/-- waltzer/queue.changed -/
def M_queue_changed (σ : Hp) (f_Rides_A : Option Addr) (f_Rides_n : Nat) (f_Rides_c : Nat) (f_Walk : Int) (ride : Int) (change : Value) (R : Value → Hp → Prop) : Prop :=
  cl Tryz.prog (.func (.func 61) #[] #[]) #[(.slice f_Rides_A f_Rides_n f_Rides_c)] σ (fun v1 σ2 => ∃ A3 : Option Addr, ∃ l3 : Nat, ∃ c3 : Nat, (v1 = (.slice A3 l3 c3) ∧ 
    ix A3 l3 ride 5 (fun b4 a5 => cl Tryz.prog change #[(.pointer (some ⟨b4, a5, none⟩))] σ2 (fun _ σ7 => 
    rt σ7 R (.agg #[(.slice A3 l3 c3), (.int .i64 f_Walk)])))))
def M_queue_changed_an : MAn := (.seq (.txt []) (.seq (.txt []) (.seq (.txt []) (.seq (.txt []) .leaf))))
set_option maxRecDepth 100000 in
theorem M_queue_changed_ok (σ : Hp) (f_Rides_A : Option Addr) (f_Rides_n : Nat) (f_Rides_c : Nat) (f_Walk : Int) (ride : Int) (change : Value) (R : Value → Hp → Prop) (h : M_queue_changed σ f_Rides_A f_Rides_n f_Rides_c f_Walk ride change R) : FCalls Tryz.prog 37 #[(.agg #[(.slice f_Rides_A f_Rides_n f_Rides_c), (.int .i64 f_Walk)]), (.int .i64 ride), change] σ R :=
  fcalls_of_M mixed_Q8 M_queue_changed_an Tryz.func37 rfl (by kernel_rfl) (by kernel_rfl) (M := M_queue_changed σ f_Rides_A f_Rides_n f_Rides_c f_Walk ride change R) (by kernel_rfl) h
theorem M_queue_changed_enter : enterB Tryz.prog 37 = true := by kernel_rfl

abbrev N_queue_Price_2 : FuncId := 38
/-- waltzer/queue.Price$2 -/
def M_queue_Price_2 (σ : Hp) (b : Option Addr) (cap0 : Option Addr) (R : Value → Hp → Prop) : Prop :=
  dr cap0 (fun b1 o2 => ldI σ .i64 b1 o2 (fun n3 => dr b (fun b4 o5 => st σ b4 (o5 + 1) (.int .i64 n3) (fun σ6 => 
    rt σ6 R (.tuple #[])))))
def M_queue_Price_2_an : MAn := (.txt [])
set_option maxRecDepth 100000 in
theorem M_queue_Price_2_ok (σ : Hp) (b : Option Addr) (cap0 : Option Addr) (R : Value → Hp → Prop) (h : M_queue_Price_2 σ b cap0 R) : FCalls Tryz.prog 38 #[(.pointer b), (.pointer cap0)] σ R :=
  fcalls_of_M mixed_Q8 M_queue_Price_2_an Tryz.func38 rfl (by kernel_rfl) (by kernel_rfl) (M := M_queue_Price_2 σ b cap0 R) (by kernel_rfl) h
theorem M_queue_Price_2_enter : enterB Tryz.prog 38 = true := by kernel_rfl

abbrev N_queue_Cycle_1 : FuncId := 41
/-- waltzer/queue.Cycle$1 -/
def M_queue_Cycle_1 (σ : Hp) (b : Option Addr) (cap0 : Option Addr) (R : Value → Hp → Prop) : Prop :=
  dr cap0 (fun b1 o2 => ldI σ .i64 b1 o2 (fun n3 => dr b (fun b4 o5 => st σ b4 (o5 + 2) (.int .i64 n3) (fun σ6 => 
    rt σ6 R (.tuple #[])))))
def M_queue_Cycle_1_an : MAn := (.txt [])
set_option maxRecDepth 100000 in
theorem M_queue_Cycle_1_ok (σ : Hp) (b : Option Addr) (cap0 : Option Addr) (R : Value → Hp → Prop) (h : M_queue_Cycle_1 σ b cap0 R) : FCalls Tryz.prog 41 #[(.pointer b), (.pointer cap0)] σ R :=
  fcalls_of_M mixed_Q8 M_queue_Cycle_1_an Tryz.func41 rfl (by kernel_rfl) (by kernel_rfl) (M := M_queue_Cycle_1 σ b cap0 R) (by kernel_rfl) h
theorem M_queue_Cycle_1_enter : enterB Tryz.prog 41 = true := by kernel_rfl

abbrev N_slices_Clone_api_Booth : FuncId := 61
/-- slices.Clone[[]waltzer/api.Booth,waltzer/api.Booth] -/
def M_slices_Clone_api_Booth (σ : Hp) (s_A : Option Addr) (s_n : Nat) (_ : Nat) (R : Value → Hp → Prop) : Prop :=
  bc ((s_A).isNone) (rt σ R (.slice none 0 0)) (∃ ys1 : List (Int × Int × Int × Int × Bool), RdS [.int .i64, .int .i64, .int .i64, .int .i64, .bool] σ s_A s_n ys1 ∧ 
    roomy (List.length ([] : List (Int × Int × Int × Int × Bool)) + List.length ys1) (exl 41 [.int .i64, .int .i64, .int .i64, .int .i64, .bool] (([] : List (Int × Int × Int × Int × Bool)) ++ ys1) σ (fun A2 l2 c2 σ3 => 
    rt σ3 R (.slice A2 l2 c2))))
def M_slices_Clone_api_Booth_an : MAn := (.seq (.txt []) (.seq (.seq (.txt []) (.cond (.seq (.txt []) .leaf) .leaf)) (.seq (.txt []) .leaf)))
set_option maxRecDepth 100000 in
theorem M_slices_Clone_api_Booth_ok (σ : Hp) (s_A : Option Addr) (s_n : Nat) (s_c : Nat) (R : Value → Hp → Prop) (h : M_slices_Clone_api_Booth σ s_A s_n s_c R) : FCalls Tryz.prog 61 #[(.slice s_A s_n s_c)] σ R :=
  fcalls_of_M mixed_Q8 M_slices_Clone_api_Booth_an Tryz.func61 rfl (by kernel_rfl) (by kernel_rfl) (M := M_slices_Clone_api_Booth σ s_A s_n s_c R) (by kernel_rfl) h
theorem M_slices_Clone_api_Booth_enter : enterB Tryz.prog 61 = true := by kernel_rfl

end Go.Proofs.YtgcefaikdplbkaaGreat
