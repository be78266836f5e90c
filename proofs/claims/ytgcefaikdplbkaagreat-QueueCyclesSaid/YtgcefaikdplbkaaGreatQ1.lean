/- M-forms, printed by wip/gen/genm.py out of the translation: each function as a proposition over its local objects, with the lemma that it is what the function does. -/
import Derived.Test.YtgcefaikdplbkaaGreatB11
namespace Go.Proofs.YtgcefaikdplbkaaGreat
open Go.RowKit

theorem mixed_Q1 : Tryz.prog.follows .mixedOrders = true := by kernel_rfl

abbrev N_law07_Far : FuncId := 6
/-- waltzer/waltzerlaw07.Far -/
def M_law07_Far (σ : Hp) (_ : Option Addr) (f_Rides_n : Nat) (_ : Nat) (_ : Int) (l_A : Option Addr) (l_n : Nat) (_ : Nat) (R : Value → Hp → Prop) : Prop :=
  cut (α := Hp → Prop) (fun  σ2 => ∀ _ : Nat → Value, cut (α := Hp → Prop) (fun  σ5 => ∀ _ : Nat → Value, 
    rt σ5 R (.bool false)) (fun J6 => ∃ I9 : Nat → Int → Hp → Prop, (∃ n100, I9 n100 0 σ2) ∧ ∀ n10 : Nat, ∀ n11 : Int, ∀ σ8 : Hp, I9 n10 n11 σ8 → ∀ _ : Nat → Value, bc (decide (n11 < ((l_n : Nat) : Int))) (ix l_A l_n n11 5 (fun b12 a13 => 
    ldS σ8 b12 (a13 + 3) (fun _ l14 _ => bc (decide ((20 : Int) < ((l14 : Nat) : Int))) (rt σ8 R (.bool true)) (wk .i64 (n11 + 1) (fun n15 => 
    bk σ8 n10 (fun m16 σ17 => I9 m16 n15 σ17)))))) (J6 σ8))) (fun J3 => cut (α := Bool → Hp → Prop) (fun t21 σ19 => 
    ∀ _ : Nat → Value, bc t21 (rt σ19 R (.bool true)) (J3 σ19)) (fun J20 => bc (decide ((10 : Int) < ((f_Rides_n : Nat) : Int))) (J20 true σ) (J20 (decide ((70 : Int) < ((l_n : Nat) : Int))) σ)))
def M_law07_Far_an : MAn := (.seq (.txt []) (.cut ⟨[true], 1, [], [(1, true)]⟩ (.cut ⟨[true], 1, [.slot 14 (.sc (.bool))], [(1, true)]⟩ (.txt [⟨[], false, []⟩, ⟨[], false, []⟩, ⟨[], false, []⟩, ⟨[], false, []⟩, ⟨[], true, []⟩]) (.cond (.seq (.txt []) .leaf) .leaf)) (.cut ⟨[true], 1, [], []⟩ (.seq (.txt []) (.block (.loop ⟨[true], 1, [.slot 5 (.sc (.int .i64))], [(1, true)]⟩ (.seq (.seq (.txt []) (.cond .leaf .leaf)) (.seq (.block (.seq (.txt []) (.cond (.seq (.txt []) .leaf) .leaf))) (.txt [])))))) (.seq (.txt []) .leaf))))
set_option maxRecDepth 100000 in
theorem M_law07_Far_ok (σ : Hp) (f_Rides_A : Option Addr) (f_Rides_n : Nat) (f_Rides_c : Nat) (f_Walk : Int) (l_A : Option Addr) (l_n : Nat) (l_c : Nat) (R : Value → Hp → Prop) (h : M_law07_Far σ f_Rides_A f_Rides_n f_Rides_c f_Walk l_A l_n l_c R) : FCalls Tryz.prog 6 #[(.agg #[(.slice f_Rides_A f_Rides_n f_Rides_c), (.int .i64 f_Walk)]), (.slice l_A l_n l_c)] σ R :=
  fcalls_of_M mixed_Q1 M_law07_Far_an Tryz.func6 rfl (by kernel_rfl) (by kernel_rfl) (M := M_law07_Far σ f_Rides_A f_Rides_n f_Rides_c f_Walk l_A l_n l_c R) (by kernel_rfl) h
theorem M_law07_Far_enter : enterB Tryz.prog 6 = true := by kernel_rfl

abbrev N_law07_works : FuncId := 7
/-- waltzer/waltzerlaw07.works -/
def M_law07_works (σ : Hp) (R : Value → Hp → Prop) : Prop :=
  cl Tryz.prog (.func (.func 20) #[] #[]) #[] σ (fun v1 σ2 => ∃ A3 : Option Addr, ∃ l3 : Nat, ∃ c3 : Nat, ∃ n4 : Int, ∃ A5 : Option Addr, ∃ l5 : Nat, ∃ c5 : Nat, (v1 = (.tuple #[(.agg #[(.slice A3 l3 c3), (.int .i64 n4)]), (.slice A5 l5 c5)]) ∧ 
    cl Tryz.prog (.func (.func 21) #[] #[]) #[(.agg #[(.slice A3 l3 c3), (.int .i64 n4)]), (.slice A5 l5 c5)] σ2 (fun v6 σ7 => 
    ∃ A8 : Option Addr, ∃ l8 : Nat, ∃ c8 : Nat, ∃ n9 : Int, (v6 = (.tuple #[(.slice A8 l8 c8), (.int .i64 n9)]) ∧ 
    bc (decide (n9 = 0)) (bc (decide (((l8 : Nat) : Int) = 2)) (ix A8 l8 0 1 (fun b10 a11 => ldI σ7 .i64 b10 a11 (fun n12 => 
    bc (decide (n12 = 14)) (ix A8 l8 1 1 (fun b13 a14 => ldI σ7 .i64 b13 a14 (fun n15 => rt σ7 R (.bool (decide (n15 = 16)))))) (rt σ7 R (.bool false))))) (rt σ7 R (.bool false))) (rt σ7 R (.bool false))))))
def M_law07_works_an : MAn := (.seq (.txt []) (.seq (.txt []) (.seq (.txt []) (.seq (.txt [⟨[], false, []⟩, ⟨[], false, []⟩, ⟨[], true, []⟩, ⟨[], false, []⟩, ⟨[], false, []⟩, ⟨[], false, []⟩, ⟨[], false, []⟩, ⟨[], true, []⟩, ⟨[], false, []⟩, ⟨[], false, []⟩, ⟨[], false, []⟩, ⟨[], false, []⟩, ⟨[], false, []⟩, ⟨[], true, []⟩]) .leaf))))
set_option maxRecDepth 100000 in
theorem M_law07_works_ok (σ : Hp) (R : Value → Hp → Prop) (h : M_law07_works σ  R) : FCalls Tryz.prog 7 #[] σ R :=
  fcalls_of_M mixed_Q1 M_law07_works_an Tryz.func7 rfl (by kernel_rfl) (by kernel_rfl) (M := M_law07_works σ  R) (by kernel_rfl) h
theorem M_law07_works_enter : enterB Tryz.prog 7 = true := by kernel_rfl

abbrev N_queue_Check : FuncId := 27
/-- waltzer/queue.Check -/
def M_queue_Check (σ : Hp) (f_Rides_A : Option Addr) (f_Rides_n : Nat) (f_Rides_c : Nat) (f_Walk : Int) (l_A : Option Addr) (l_n : Nat) (l_c : Nat) (R : Value → Hp → Prop) : Prop :=
  cl Tryz.prog (.func (.func 47) #[] #[]) #[(.agg #[(.slice f_Rides_A f_Rides_n f_Rides_c), (.int .i64 f_Walk)])] σ (fun v1 σ2 => 
    ∃ n3 : Int, (v1 = (.int .i64 n3) ∧ bc (!decide (n3 = 0)) (rt σ2 R (.int .i64 n3)) (bx σ2 (.cells #[(.slice f_Rides_A f_Rides_n f_Rides_c), (.int .i64 f_Walk)] 24) (fun b4 σ5 => 
    cut (α := Hp → Prop) (fun  σ7 => ∀ _ : Nat → Value, rt σ7 R (.int .i64 0)) (fun J8 => cut (α := Bool → Hp → Prop) (fun t12 σ10 => 
    ∀ _ : Nat → Value, bc t12 (rt σ10 R (.int .i64 71)) (J8 σ10)) (fun J11 => bc (decide ((60 : Int) < ((l_n : Nat) : Int))) (J11 true σ5) (cl Tryz.prog (.func (.func 50) #[] #[]) #[(.slice l_A l_n l_c), (.func (.func 48) #[] #[(.pointer (some ⟨b4, 0, none⟩))])] σ5 (fun v13 σ14 => 
    ∃ t15 : Bool, (v13 = (.bool t15) ∧ J11 t15 σ14)))))))))
def M_queue_Check_an : MAn := (.seq (.txt []) (.seq (.seq (.txt []) (.seq (.txt []) (.cond (.seq (.txt []) .leaf) .leaf))) (.seq (.txt []) (.cut ⟨[false], 1, [], []⟩ (.cut ⟨[false], 1, [.slot 20 (.sc (.bool))], []⟩ (.txt [⟨[], false, []⟩, ⟨[], false, []⟩, ⟨[], false, []⟩, ⟨[], true, []⟩]) (.cond (.seq (.txt []) .leaf) .leaf)) (.seq (.txt []) .leaf)))))
set_option maxRecDepth 100000 in
theorem M_queue_Check_ok (σ : Hp) (f_Rides_A : Option Addr) (f_Rides_n : Nat) (f_Rides_c : Nat) (f_Walk : Int) (l_A : Option Addr) (l_n : Nat) (l_c : Nat) (R : Value → Hp → Prop) (h : M_queue_Check σ f_Rides_A f_Rides_n f_Rides_c f_Walk l_A l_n l_c R) : FCalls Tryz.prog 27 #[(.agg #[(.slice f_Rides_A f_Rides_n f_Rides_c), (.int .i64 f_Walk)]), (.slice l_A l_n l_c)] σ R :=
  fcalls_of_M mixed_Q1 M_queue_Check_an Tryz.func27 rfl (by kernel_rfl) (by kernel_rfl) (M := M_queue_Check σ f_Rides_A f_Rides_n f_Rides_c f_Walk l_A l_n l_c R) (by kernel_rfl) h
theorem M_queue_Check_enter : enterB Tryz.prog 27 = true := by kernel_rfl

abbrev N_ref07_Copy : FuncId := 9
/-- waltzer/waltzerref07.Copy -/
def M_ref07_Copy (σ : Hp) (f_Rides_A : Option Addr) (f_Rides_n : Nat) (_ : Nat) (f_Walk : Int) (R : Value → Hp → Prop) : Prop :=
  (((∃ ys1 : List (Int × Int × Int × Int × Bool), RdS [.int .i64, .int .i64, .int .i64, .int .i64, .bool] σ f_Rides_A f_Rides_n ys1 ∧ 
    roomy (List.length ([] : List (Int × Int × Int × Int × Bool)) + List.length ys1) (exl 41 [.int .i64, .int .i64, .int .i64, .int .i64, .bool] (([] : List (Int × Int × Int × Int × Bool)) ++ ys1) σ (fun A2 l2 c2 σ3 => 
    rt σ3 R (.agg #[(.slice A2 l2 c2), (.int .i64 f_Walk)])))) ∧ (∃ ys4 : List (Int × Int × Int × Int × Bool), RdS [.int .i64, .int .i64, .int .i64, .int .i64, .bool] σ f_Rides_A f_Rides_n ys4 ∧ 
    roomy (List.length ([] : List (Int × Int × Int × Int × Bool)) + List.length ys4) (exl 41 [.int .i64, .int .i64, .int .i64, .int .i64, .bool] (([] : List (Int × Int × Int × Int × Bool)) ++ ys4) σ (fun A5 l5 c5 σ6 => 
    rt σ6 R (.agg #[(.slice A5 l5 c5), (.int .i64 f_Walk)]))))) ∧ (∃ ys7 : List (Int × Int × Int × Int × Bool), RdS [.int .i64, .int .i64, .int .i64, .int .i64, .bool] σ f_Rides_A f_Rides_n ys7 ∧ 
    roomy (List.length ([] : List (Int × Int × Int × Int × Bool)) + List.length ys7) (exl 41 [.int .i64, .int .i64, .int .i64, .int .i64, .bool] (([] : List (Int × Int × Int × Int × Bool)) ++ ys7) σ (fun A8 l8 c8 σ9 => 
    rt σ9 R (.agg #[(.slice A8 l8 c8), (.int .i64 f_Walk)])))))
def M_ref07_Copy_an : MAn := (.seq (.txt []) (.seq (.plan [3, 7] (.take 1 ⟨[], false, []⟩ (.take 2 ⟨[], false, []⟩ (.take 4 ⟨[], false, []⟩ (.alt 0 true ⟨[], false, []⟩ (.alt 3 false ⟨[], false, []⟩ (.take 5 ⟨[], false, []⟩ (.take 6 ⟨[], false, []⟩ (.alt 7 false ⟨[], false, []⟩ .done .done))) (.alt 5 true ⟨[], false, []⟩ (.alt 3 false ⟨[], false, []⟩ (.take 6 ⟨[], false, []⟩ (.alt 7 false ⟨[], false, []⟩ .done .done)) .done) .done)) (.alt 5 true ⟨[], false, []⟩ (.alt 0 true ⟨[], false, []⟩ (.alt 3 false ⟨[], false, []⟩ (.take 6 ⟨[], false, []⟩ (.alt 7 false ⟨[], false, []⟩ .done .done)) .done) .done) .done)))))) .leaf))
set_option maxRecDepth 100000 in
theorem M_ref07_Copy_ok (σ : Hp) (f_Rides_A : Option Addr) (f_Rides_n : Nat) (f_Rides_c : Nat) (f_Walk : Int) (R : Value → Hp → Prop) (h : M_ref07_Copy σ f_Rides_A f_Rides_n f_Rides_c f_Walk R) : FCalls Tryz.prog 9 #[(.agg #[(.slice f_Rides_A f_Rides_n f_Rides_c), (.int .i64 f_Walk)])] σ R :=
  fcalls_of_M mixed_Q1 M_ref07_Copy_an Tryz.func9 rfl (by kernel_rfl) (by kernel_rfl) (M := M_ref07_Copy σ f_Rides_A f_Rides_n f_Rides_c f_Walk R) (by kernel_rfl) h
theorem M_ref07_Copy_enter : enterB Tryz.prog 9 = true := by kernel_rfl

abbrev N_ref07_CopyGroups : FuncId := 10
/-- waltzer/waltzerref07.CopyGroups -/
def M_ref07_CopyGroups (σ : Hp) (l_A : Option Addr) (l_n : Nat) (_ : Nat) (R : Value → Hp → Prop) : Prop :=
  ∃ ys1 : List (Int × Int × Int × (Option Addr × Nat × Nat) × Int), RdS [.int .i64, .int .i64, .int .i64, .slc, .int .i64] σ l_A l_n ys1 ∧ 
    roomy (List.length ([] : List (Int × Int × Int × (Option Addr × Nat × Nat) × Int)) + List.length ys1) (cut (α := Option Addr → Nat → Nat → Hp → Prop) (fun A5 l5 c5 σ3 => 
    ∀ _ : Nat → Value, rt σ3 R (.slice A5 l5 c5)) (fun J4 => ∃ I8 : Nat → Option Addr → Nat → Nat → Int → Hp → Prop, (∃ n90, exl 49 [.int .i64, .int .i64, .int .i64, .slc, .int .i64] (([] : List (Int × Int × Int × (Option Addr × Nat × Nat) × Int)) ++ ys1) σ (fun A10 l10 c10 σ11 => 
    I8 n90 A10 l10 c10 0 σ11)) ∧ ∀ n9 : Nat, ∀ A12 : Option Addr, ∀ l12 : Nat, ∀ c12 : Nat, ∀ n13 : Int, ∀ σ7 : Hp, I8 n9 A12 l12 c12 n13 σ7 → ∀ _ : Nat → Value, bc (decide (n13 < ((l12 : Nat) : Int))) (ix A12 l12 n13 5 (fun b14 a15 => 
    ldS σ7 b14 (a15 + 3) (fun A16 l16 _ => ∃ ys17 : List Int, RdS [.int .i64] σ7 A16 l16 ys17 ∧ roomy (List.length ([] : List Int) + List.length ys17) (ix A12 l12 n13 5 (fun b18 a19 => 
    exl 3 [.int .i64] (([] : List Int) ++ ys17) σ7 (fun A20 l20 c20 σ21 => st σ21 b18 (a19 + 3) (.slice A20 l20 c20) (fun σ22 => 
    wk .i64 (n13 + 1) (fun n23 => bk σ22 n9 (fun m24 σ25 => I8 m24 A12 l12 c12 n23 σ25))))))))) (J4 A12 l12 c12 σ7)))
def M_ref07_CopyGroups_an : MAn := (.seq (.txt []) (.seq (.txt []) (.cut ⟨[false], 1, [.slot 3 (.sc (.slc))], []⟩ (.seq (.txt []) (.block (.loop ⟨[false], 1, [.slot 3 (.sc (.slc)), .slot 4 (.sc (.int .i64))], []⟩ (.seq (.seq (.txt []) (.cond .leaf .leaf)) (.seq (.block (.txt [])) (.txt [])))))) (.seq (.txt []) .leaf))))
set_option maxRecDepth 100000 in
theorem M_ref07_CopyGroups_ok (σ : Hp) (l_A : Option Addr) (l_n : Nat) (l_c : Nat) (R : Value → Hp → Prop) (h : M_ref07_CopyGroups σ l_A l_n l_c R) : FCalls Tryz.prog 10 #[(.slice l_A l_n l_c)] σ R :=
  fcalls_of_M mixed_Q1 M_ref07_CopyGroups_an Tryz.func10 rfl (by kernel_rfl) (by kernel_rfl) (M := M_ref07_CopyGroups σ l_A l_n l_c R) (by kernel_rfl) h
theorem M_ref07_CopyGroups_enter : enterB Tryz.prog 10 = true := by kernel_rfl

abbrev N_ref07_Check : FuncId := 25
/-- waltzer/waltzerref07.Check -/
def M_ref07_Check (σ : Hp) (a0_Rides_A : Option Addr) (a0_Rides_n : Nat) (a0_Rides_c : Nat) (a0_Walk : Int) (a1_A : Option Addr) (a1_n : Nat) (_ : Nat) (R : Value → Hp → Prop) : Prop :=
  cl Tryz.prog (.func (.func 45) #[] #[]) #[(.agg #[(.slice a0_Rides_A a0_Rides_n a0_Rides_c), (.int .i64 a0_Walk)])] σ (fun v1 σ2 => 
    ∃ n3 : Int, (v1 = (.int .i64 n3) ∧ bc (!decide (n3 = 0)) (rt σ2 R (.int .i64 n3)) (bc (decide ((60 : Int) < ((a1_n : Nat) : Int))) (rt σ2 R (.int .i64 71)) (cut (α := Hp → Prop) (fun  σ5 => 
    ∀ _ : Nat → Value, rt σ5 R (.int .i64 0)) (fun J6 => ∃ I9 : Nat → Int → Hp → Prop, (∃ n100, I9 n100 0 σ2) ∧ 
    ∀ n10 : Nat, ∀ n11 : Int, ∀ σ8 : Hp, I9 n10 n11 σ8 → ∀ _ : Nat → Value, bc (decide (n11 < ((a1_n : Nat) : Int))) (cut (α := Hp → Prop) (fun  σ13 => 
    ∀ _ : Nat → Value, wk .i64 (n11 + 1) (fun n15 => bk σ13 n10 (fun m16 σ17 => I9 m16 n15 σ17))) (fun J14 => 
    ix a1_A a1_n n11 5 (fun b18 a19 => ldI σ8 .i64 b18 a19 (fun n20 => ldI σ8 .i64 b18 (a19 + 1) (fun n21 => 
    ldI σ8 .i64 b18 (a19 + 2) (fun n22 => ldS σ8 b18 (a19 + 3) (fun A23 l23 _ => ldI σ8 .i64 b18 (a19 + 4) (fun n24 => 
    cut (α := Hp → Prop) (fun  σ26 => ∀ _ : Nat → Value, ∃ I30 : Nat → Int → Hp → Prop, (∃ n310, I30 n310 0 σ26) ∧ 
    ∀ n31 : Nat, ∀ n32 : Int, ∀ σ29 : Hp, I30 n31 n32 σ29 → ∀ _ : Nat → Value, bc (decide (n32 < ((l23 : Nat) : Int))) (ix A23 l23 n32 1 (fun b33 a34 => 
    ldI σ29 .i64 b33 a34 (fun n35 => wk .i64 (((a0_Rides_n : Nat) : Int) - 1) (fun n36 => cl Tryz.prog (.func (.func 39) #[] #[]) #[(.int .i64 n35), (.int .i64 0), (.int .i64 n36)] σ29 (fun v37 σ38 => 
    ∃ t39 : Bool, (v37 = (.bool t39) ∧ bc (!t39) (rt σ38 R (.int .i64 71)) (wk .i64 (n32 + 1) (fun n40 => 
    bk σ38 n31 (fun m41 σ42 => I30 m41 n40 σ42))))))))) (J14 σ29)) (fun J27 => cut (α := Bool → Hp → Prop) (fun t46 σ44 => 
    ∀ _ : Nat → Value, bc t46 (rt σ44 R (.int .i64 71)) (J27 σ44)) (fun J45 => cl Tryz.prog (.func (.func 39) #[] #[]) #[(.int .i64 n20), (.int .i64 0), (.int .i64 2000)] σ8 (fun v47 σ48 => 
    ∃ t49 : Bool, (v47 = (.bool t49) ∧ bc (!t49) (J45 true σ48) (cl Tryz.prog (.func (.func 39) #[] #[]) #[(.int .i64 n21), (.int .i64 1), (.int .i64 40)] σ48 (fun v50 σ51 => 
    ∃ t52 : Bool, (v50 = (.bool t52) ∧ bc (!t52) (J45 true σ51) (cl Tryz.prog (.func (.func 39) #[] #[]) #[(.int .i64 n22), (.int .i64 0), (.int .i64 10000)] σ51 (fun v53 σ54 => 
    ∃ t55 : Bool, (v53 = (.bool t55) ∧ bc (!t55) (J45 true σ54) (bc (decide ((10 : Int) < ((l23 : Nat) : Int))) (J45 true σ54) (cl Tryz.prog (.func (.func 39) #[] #[]) #[(.int .i64 n24), (.int .i64 0), (.int .i64 2000)] σ54 (fun v56 σ57 => 
    ∃ t58 : Bool, (v56 = (.bool t58) ∧ J45 (!t58) σ57)))))))))))))))))))))) (J6 σ8))))))
def M_ref07_Check_an : MAn := (.seq (.txt []) (.seq (.txt []) (.seq (.seq (.txt []) (.cond (.seq (.txt []) .leaf) .leaf)) (.seq (.seq (.txt []) (.cond (.seq (.txt []) .leaf) .leaf)) (.cut ⟨[true], 1, [], []⟩ (.seq (.txt []) (.block (.loop ⟨[true], 1, [.slot 2 (.hb 0 0), .slot 6 (.sc (.int .i64))], [(1, true)]⟩ (.seq (.seq (.txt []) (.cond .leaf .leaf)) (.cut ⟨[true], 1, [.slot 2 (.hb 0 0)], [(1, true), (6, true)]⟩ (.block (.seq (.txt []) (.cut ⟨[true, true], 2, [.slot 2 (.hb 0 0), .slot 7 (.hb 1 0)], [(1, true), (6, true)]⟩ (.cut ⟨[true, true], 2, [.slot 2 (.hb 0 0), .slot 7 (.hb 1 0), .slot 54 (.sc (.bool))], [(1, true), (6, true)]⟩ (.txt [⟨[], false, []⟩, ⟨[], false, []⟩, ⟨[], false, []⟩, ⟨[], false, []⟩, ⟨[], true, []⟩, ⟨[], false, []⟩, ⟨[], false, []⟩, ⟨[], false, []⟩, ⟨[], false, []⟩, ⟨[], false, []⟩, ⟨[], true, []⟩, ⟨[], false, []⟩, ⟨[], false, []⟩, ⟨[], false, []⟩, ⟨[], false, []⟩, ⟨[], false, []⟩, ⟨[], true, []⟩, ⟨[], false, []⟩, ⟨[], false, []⟩, ⟨[], false, []⟩, ⟨[], false, []⟩, ⟨[], false, []⟩, ⟨[], true, []⟩]) (.cond (.seq (.txt []) .leaf) .leaf)) (.seq (.txt []) (.block (.loop ⟨[true, true], 2, [.slot 2 (.hb 0 0), .slot 7 (.hb 1 0), .slot 8 (.sc (.int .i64))], [(1, true), (6, true)]⟩ (.seq (.seq (.txt []) (.cond .leaf .leaf)) (.seq (.block (.seq (.plan [9] (.take 0 ⟨[], false, []⟩ (.take 1 ⟨[], false, []⟩ (.take 2 ⟨[], false, []⟩ (.take 3 ⟨[], false, []⟩ (.take 4 ⟨[], false, []⟩ (.take 5 ⟨[], false, []⟩ (.take 6 ⟨[], false, []⟩ (.take 7 ⟨[], false, []⟩ (.take 8 ⟨[], false, []⟩ (.alt 9 false ⟨[], false, []⟩ (.take 10 ⟨[], false, []⟩ .done) .done))))))))))) (.cond (.seq (.txt []) .leaf) .leaf))) (.txt []))))))))) (.txt [])))))) (.seq (.txt []) .leaf))))))
set_option maxRecDepth 100000 in
theorem M_ref07_Check_ok (σ : Hp) (a0_Rides_A : Option Addr) (a0_Rides_n : Nat) (a0_Rides_c : Nat) (a0_Walk : Int) (a1_A : Option Addr) (a1_n : Nat) (a1_c : Nat) (R : Value → Hp → Prop) (h : M_ref07_Check σ a0_Rides_A a0_Rides_n a0_Rides_c a0_Walk a1_A a1_n a1_c R) : FCalls Tryz.prog 25 #[(.agg #[(.slice a0_Rides_A a0_Rides_n a0_Rides_c), (.int .i64 a0_Walk)]), (.slice a1_A a1_n a1_c)] σ R :=
  fcalls_of_M mixed_Q1 M_ref07_Check_an Tryz.func25 rfl (by kernel_rfl) (by kernel_rfl) (M := M_ref07_Check σ a0_Rides_A a0_Rides_n a0_Rides_c a0_Walk a1_A a1_n a1_c R) (by kernel_rfl) h
theorem M_ref07_Check_enter : enterB Tryz.prog 25 = true := by kernel_rfl

abbrev N_law07_sameInts : FuncId := 14
/-- waltzer/waltzerlaw07.sameInts -/
def M_law07_sameInts (σ : Hp) (a_A : Option Addr) (a_n : Nat) (_ : Nat) (b_A : Option Addr) (b_n : Nat) (_ : Nat) (R : Value → Hp → Prop) : Prop :=
  bc (!decide (((a_n : Nat) : Int) = ((b_n : Nat) : Int))) (rt σ R (.bool false)) (cut (α := Hp → Prop) (fun  σ2 => 
    ∀ _ : Nat → Value, rt σ2 R (.bool true)) (fun J3 => ∃ I6 : Nat → Int → Hp → Prop, (∃ n70, I6 n70 0 σ) ∧ 
    ∀ n7 : Nat, ∀ n8 : Int, ∀ σ5 : Hp, I6 n7 n8 σ5 → ∀ _ : Nat → Value, bc (decide (n8 < ((a_n : Nat) : Int))) (ix a_A a_n n8 1 (fun b9 a10 => 
    ldI σ5 .i64 b9 a10 (fun n11 => ix b_A b_n n8 1 (fun b12 a13 => ldI σ5 .i64 b12 a13 (fun n14 => bc (!decide (n11 = n14)) (rt σ5 R (.bool false)) (wk .i64 (n8 + 1) (fun n15 => 
    bk σ5 n7 (fun m16 σ17 => I6 m16 n15 σ17)))))))) (J3 σ5)))
def M_law07_sameInts_an : MAn := (.seq (.txt []) (.seq (.seq (.txt []) (.cond (.seq (.txt []) .leaf) .leaf)) (.cut ⟨[], 0, [], []⟩ (.seq (.txt []) (.block (.loop ⟨[], 0, [.slot 5 (.sc (.int .i64))], [(0, true), (1, true)]⟩ (.seq (.seq (.txt []) (.cond .leaf .leaf)) (.seq (.block (.seq (.plan [] (.take 0 ⟨[], false, []⟩ (.take 1 ⟨[], false, []⟩ (.take 2 ⟨[], false, []⟩ (.take 3 ⟨[], false, []⟩ (.take 4 ⟨[], false, []⟩ (.take 5 ⟨[], false, []⟩ (.take 6 ⟨[], false, []⟩ (.take 7 ⟨[], false, []⟩ (.take 8 ⟨[], false, []⟩ .done)))))))))) (.cond (.seq (.txt []) .leaf) .leaf))) (.txt [])))))) (.seq (.txt []) .leaf))))
set_option maxRecDepth 100000 in
theorem M_law07_sameInts_ok (σ : Hp) (a_A : Option Addr) (a_n : Nat) (a_c : Nat) (b_A : Option Addr) (b_n : Nat) (b_c : Nat) (R : Value → Hp → Prop) (h : M_law07_sameInts σ a_A a_n a_c b_A b_n b_c R) : FCalls Tryz.prog 14 #[(.slice a_A a_n a_c), (.slice b_A b_n b_c)] σ R :=
  fcalls_of_M mixed_Q1 M_law07_sameInts_an Tryz.func14 rfl (by kernel_rfl) (by kernel_rfl) (M := M_law07_sameInts σ a_A a_n a_c b_A b_n b_c R) (by kernel_rfl) h
theorem M_law07_sameInts_enter : enterB Tryz.prog 14 = true := by kernel_rfl

abbrev N_queue_Takes : FuncId := 17
/-- waltzer/queue.Takes -/
def M_queue_Takes (σ : Hp) (f_Rides_A : Option Addr) (f_Rides_n : Nat) (f_Rides_c : Nat) (f_Walk : Int) (l_A : Option Addr) (l_n : Nat) (l_c : Nat) (R : Value → Hp → Prop) : Prop :=
  cl Tryz.prog (.func (.func 22) #[] #[]) #[(.agg #[(.slice f_Rides_A f_Rides_n f_Rides_c), (.int .i64 f_Walk)]), (.slice l_A l_n l_c), (.func (.func 23) #[] #[]), (.func (.func 40) #[] #[])] σ (fun v1 σ2 => 
    ∃ A3 : Option Addr, ∃ l3 : Nat, ∃ c3 : Nat, ∃ n4 : Int, (v1 = (.tuple #[(.slice A3 l3 c3), (.int .i64 n4)]) ∧ 
    rt σ2 R (.tuple #[(.slice A3 l3 c3), (.int .i64 n4)])))
def M_queue_Takes_an : MAn := (.seq (.txt []) (.seq (.txt []) .leaf))
set_option maxRecDepth 100000 in
theorem M_queue_Takes_ok (σ : Hp) (f_Rides_A : Option Addr) (f_Rides_n : Nat) (f_Rides_c : Nat) (f_Walk : Int) (l_A : Option Addr) (l_n : Nat) (l_c : Nat) (R : Value → Hp → Prop) (h : M_queue_Takes σ f_Rides_A f_Rides_n f_Rides_c f_Walk l_A l_n l_c R) : FCalls Tryz.prog 17 #[(.agg #[(.slice f_Rides_A f_Rides_n f_Rides_c), (.int .i64 f_Walk)]), (.slice l_A l_n l_c)] σ R :=
  fcalls_of_M mixed_Q1 M_queue_Takes_an Tryz.func17 rfl (by kernel_rfl) (by kernel_rfl) (M := M_queue_Takes σ f_Rides_A f_Rides_n f_Rides_c f_Walk l_A l_n l_c R) (by kernel_rfl) h
theorem M_queue_Takes_enter : enterB Tryz.prog 17 = true := by kernel_rfl

abbrev N_queue_Held : FuncId := 21
/-- waltzer/queue.Held -/
def M_queue_Held (σ : Hp) (f_Rides_A : Option Addr) (f_Rides_n : Nat) (f_Rides_c : Nat) (f_Walk : Int) (l_A : Option Addr) (l_n : Nat) (l_c : Nat) (R : Value → Hp → Prop) : Prop :=
  cl Tryz.prog (.func (.func 42) #[] #[]) #[(.agg #[(.slice f_Rides_A f_Rides_n f_Rides_c), (.int .i64 f_Walk)]), (.slice l_A l_n l_c), (.func (.func 43) #[] #[]), (.func (.func 44) #[] #[])] σ (fun v1 σ2 => 
    ∃ A3 : Option Addr, ∃ l3 : Nat, ∃ c3 : Nat, ∃ n4 : Int, (v1 = (.tuple #[(.slice A3 l3 c3), (.int .i64 n4)]) ∧ 
    rt σ2 R (.tuple #[(.slice A3 l3 c3), (.int .i64 n4)])))
def M_queue_Held_an : MAn := (.seq (.txt []) (.seq (.txt []) .leaf))
set_option maxRecDepth 100000 in
theorem M_queue_Held_ok (σ : Hp) (f_Rides_A : Option Addr) (f_Rides_n : Nat) (f_Rides_c : Nat) (f_Walk : Int) (l_A : Option Addr) (l_n : Nat) (l_c : Nat) (R : Value → Hp → Prop) (h : M_queue_Held σ f_Rides_A f_Rides_n f_Rides_c f_Walk l_A l_n l_c R) : FCalls Tryz.prog 21 #[(.agg #[(.slice f_Rides_A f_Rides_n f_Rides_c), (.int .i64 f_Walk)]), (.slice l_A l_n l_c)] σ R :=
  fcalls_of_M mixed_Q1 M_queue_Held_an Tryz.func21 rfl (by kernel_rfl) (by kernel_rfl) (M := M_queue_Held σ f_Rides_A f_Rides_n f_Rides_c f_Walk l_A l_n l_c R) (by kernel_rfl) h
theorem M_queue_Held_enter : enterB Tryz.prog 21 = true := by kernel_rfl

abbrev N_law07_Example : FuncId := 20
/-- waltzer/waltzerlaw07.Example -/
def M_law07_Example (σ : Hp) (R : Value → Hp → Prop) : Prop :=
  exl 41 [.int .i64, .int .i64, .int .i64, .int .i64, .bool] ([(4, 2, 3, 1, false), (2, 5, 2, 0, false)] : List (Int × Int × Int × Int × Bool)) σ (fun A1 l1 c1 σ2 => 
    exl 3 [.int .i64] ([0, 1] : List Int) σ2 (fun A3 l3 c3 σ4 => exl 3 [.int .i64] ([0, 1] : List Int) σ4 (fun A5 l5 c5 σ6 => 
    exl 49 [.int .i64, .int .i64, .int .i64, .slc, .int .i64] ([(0, 3, 20, (A3, l3, c3), 100), (0, 2, 30, (A5, l5, c5), 100)] : List (Int × Int × Int × (Option Addr × Nat × Nat) × Int)) σ6 (fun A7 l7 c7 σ8 => 
    rt σ8 R (.tuple #[(.agg #[(.slice A1 l1 c1), (.int .i64 1)]), (.slice A7 l7 c7)])))))
def M_law07_Example_an : MAn := (.seq (.txt []) (.seq (.txt []) (.seq (.txt []) .leaf)))
set_option maxRecDepth 100000 in
theorem M_law07_Example_ok (σ : Hp) (R : Value → Hp → Prop) (h : M_law07_Example σ  R) : FCalls Tryz.prog 20 #[] σ R :=
  fcalls_of_M mixed_Q1 M_law07_Example_an Tryz.func20 rfl (by kernel_rfl) (by kernel_rfl) (M := M_law07_Example σ  R) (by kernel_rfl) h
theorem M_law07_Example_enter : enterB Tryz.prog 20 = true := by kernel_rfl

abbrev N_queue_evening : FuncId := 47
/-- waltzer/queue.evening -/
def M_queue_evening (σ : Hp) (f_Rides_A : Option Addr) (f_Rides_n : Nat) (f_Rides_c : Nat) (f_Walk : Int) (R : Value → Hp → Prop) : Prop :=
  cut (α := Hp → Prop) (fun  σ2 => ∀ _ : Nat → Value, rt σ2 R (.int .i64 0)) (fun J3 => cut (α := Bool → Hp → Prop) (fun t7 σ5 => 
    ∀ _ : Nat → Value, bc t7 (rt σ5 R (.int .i64 70)) (J3 σ5)) (fun J6 => bc (decide ((8 : Int) < ((f_Rides_n : Nat) : Int))) (J6 true σ) (cl Tryz.prog (.func (.func 32) #[] #[]) #[(.int .i64 f_Walk), (.int .i64 0), (.int .i64 100)] σ (fun v8 σ9 => 
    ∃ t10 : Bool, (v8 = (.bool t10) ∧ bc (!t10) (J6 true σ9) (cl Tryz.prog (.func (.func 67) #[] #[]) #[(.slice f_Rides_A f_Rides_n f_Rides_c), (.func (.func 66) #[] #[])] σ9 (fun v11 σ12 => 
    ∃ t13 : Bool, (v11 = (.bool t13) ∧ J6 t13 σ12))))))))
def M_queue_evening_an : MAn := (.seq (.txt []) (.seq (.txt []) (.cut ⟨[true], 1, [], []⟩ (.cut ⟨[true], 1, [.slot 19 (.sc (.bool))], []⟩ (.txt [⟨[], false, []⟩, ⟨[], false, []⟩, ⟨[], false, []⟩, ⟨[], false, []⟩, ⟨[], true, []⟩, ⟨[], false, []⟩, ⟨[], false, []⟩, ⟨[], false, []⟩, ⟨[], false, []⟩, ⟨[], false, []⟩, ⟨[], true, []⟩]) (.cond (.seq (.txt []) .leaf) .leaf)) (.seq (.txt []) .leaf))))
set_option maxRecDepth 100000 in
theorem M_queue_evening_ok (σ : Hp) (f_Rides_A : Option Addr) (f_Rides_n : Nat) (f_Rides_c : Nat) (f_Walk : Int) (R : Value → Hp → Prop) (h : M_queue_evening σ f_Rides_A f_Rides_n f_Rides_c f_Walk R) : FCalls Tryz.prog 47 #[(.agg #[(.slice f_Rides_A f_Rides_n f_Rides_c), (.int .i64 f_Walk)])] σ R :=
  fcalls_of_M mixed_Q1 M_queue_evening_an Tryz.func47 rfl (by kernel_rfl) (by kernel_rfl) (M := M_queue_evening σ f_Rides_A f_Rides_n f_Rides_c f_Walk R) (by kernel_rfl) h
theorem M_queue_evening_enter : enterB Tryz.prog 47 = true := by kernel_rfl

abbrev N_queue_Check_1 : FuncId := 48
/-- waltzer/queue.Check$1 -/
def M_queue_Check_1 (σ : Hp) (g_At : Int) (g_Size : Int) (g_Tokens : Int) (g_Wants_A : Option Addr) (g_Wants_n : Nat) (g_Wants_c : Nat) (g_Patience : Int) (cap0 : Option Addr) (R : Value → Hp → Prop) : Prop :=
  cl Tryz.prog (.func (.func 32) #[] #[]) #[(.int .i64 g_At), (.int .i64 0), (.int .i64 2000)] σ (fun v1 σ2 => 
    ∃ t3 : Bool, (v1 = (.bool t3) ∧ bc (!t3) (rt σ2 R (.bool true)) (cl Tryz.prog (.func (.func 32) #[] #[]) #[(.int .i64 g_Size), (.int .i64 1), (.int .i64 40)] σ2 (fun v4 σ5 => 
    ∃ t6 : Bool, (v4 = (.bool t6) ∧ bc (!t6) (rt σ5 R (.bool true)) (cl Tryz.prog (.func (.func 32) #[] #[]) #[(.int .i64 g_Tokens), (.int .i64 0), (.int .i64 10000)] σ5 (fun v7 σ8 => 
    ∃ t9 : Bool, (v7 = (.bool t9) ∧ bc (!t9) (rt σ8 R (.bool true)) (cl Tryz.prog (.func (.func 32) #[] #[]) #[(.int .i64 g_Patience), (.int .i64 0), (.int .i64 2000)] σ8 (fun v10 σ11 => 
    ∃ t12 : Bool, (v10 = (.bool t12) ∧ bc (!t12) (rt σ11 R (.bool true)) (bc (decide ((10 : Int) < ((g_Wants_n : Nat) : Int))) (rt σ11 R (.bool true)) (cl Tryz.prog (.func (.func 33) #[] #[]) #[(.slice g_Wants_A g_Wants_n g_Wants_c), (.func (.func 49) #[] #[(.pointer cap0)])] σ11 (fun v13 σ14 => 
    ∃ t15 : Bool, (v13 = (.bool t15) ∧ rt σ14 R (.bool t15))))))))))))))))
def M_queue_Check_1_an : MAn := (.seq (.txt []) (.seq (.txt []) (.seq (.txt [⟨[], false, []⟩, ⟨[], false, []⟩, ⟨[], false, []⟩, ⟨[], false, []⟩, ⟨[], true, []⟩, ⟨[], false, []⟩, ⟨[], false, []⟩, ⟨[], false, []⟩, ⟨[], false, []⟩, ⟨[], false, []⟩, ⟨[], true, []⟩, ⟨[], false, []⟩, ⟨[], false, []⟩, ⟨[], false, []⟩, ⟨[], false, []⟩, ⟨[], false, []⟩, ⟨[], true, []⟩, ⟨[], false, []⟩, ⟨[], false, []⟩, ⟨[], false, []⟩, ⟨[], false, []⟩, ⟨[], false, []⟩, ⟨[], true, []⟩, ⟨[], false, []⟩, ⟨[], false, []⟩, ⟨[], false, []⟩, ⟨[], false, []⟩, ⟨[], false, []⟩, ⟨[], true, []⟩]) .leaf)))
set_option maxRecDepth 100000 in
theorem M_queue_Check_1_ok (σ : Hp) (g_At : Int) (g_Size : Int) (g_Tokens : Int) (g_Wants_A : Option Addr) (g_Wants_n : Nat) (g_Wants_c : Nat) (g_Patience : Int) (cap0 : Option Addr) (R : Value → Hp → Prop) (h : M_queue_Check_1 σ g_At g_Size g_Tokens g_Wants_A g_Wants_n g_Wants_c g_Patience cap0 R) : FCalls Tryz.prog 48 #[(.agg #[(.int .i64 g_At), (.int .i64 g_Size), (.int .i64 g_Tokens), (.slice g_Wants_A g_Wants_n g_Wants_c), (.int .i64 g_Patience)]), (.pointer cap0)] σ R :=
  fcalls_of_M mixed_Q1 M_queue_Check_1_an Tryz.func48 rfl (by kernel_rfl) (by kernel_rfl) (M := M_queue_Check_1 σ g_At g_Size g_Tokens g_Wants_A g_Wants_n g_Wants_c g_Patience cap0 R) (by kernel_rfl) h
theorem M_queue_Check_1_enter : enterB Tryz.prog 48 = true := by kernel_rfl

abbrev N_queue_Check_1_1 : FuncId := 49
/-- waltzer/queue.Check$1$1 -/
def M_queue_Check_1_1 (σ : Hp) (n : Int) (cap0 : Option Addr) (R : Value → Hp → Prop) : Prop :=
  dr cap0 (fun b1 o2 => ldS σ b1 o2 (fun _ l3 _ => wk .i64 (((l3 : Nat) : Int) - 1) (fun n4 => cl Tryz.prog (.func (.func 32) #[] #[]) #[(.int .i64 n), (.int .i64 0), (.int .i64 n4)] σ (fun v5 σ6 => 
    ∃ t7 : Bool, (v5 = (.bool t7) ∧ rt σ6 R (.bool (!t7)))))))
def M_queue_Check_1_1_an : MAn := (.seq (.txt []) (.seq (.txt []) .leaf))
set_option maxRecDepth 100000 in
theorem M_queue_Check_1_1_ok (σ : Hp) (n : Int) (cap0 : Option Addr) (R : Value → Hp → Prop) (h : M_queue_Check_1_1 σ n cap0 R) : FCalls Tryz.prog 49 #[(.int .i64 n), (.pointer cap0)] σ R :=
  fcalls_of_M mixed_Q1 M_queue_Check_1_1_an Tryz.func49 rfl (by kernel_rfl) (by kernel_rfl) (M := M_queue_Check_1_1 σ n cap0 R) (by kernel_rfl) h
theorem M_queue_Check_1_1_enter : enterB Tryz.prog 49 = true := by kernel_rfl

abbrev N_queue_within : FuncId := 32
/-- waltzer/queue.within -/
def M_queue_within (σ : Hp) (n : Int) (low : Int) (high : Int) (R : Value → Hp → Prop) : Prop :=
  bc (decide (low ≤ n)) (rt σ R (.bool (decide (n ≤ high)))) (rt σ R (.bool false))
def M_queue_within_an : MAn := (.seq (.txt []) (.seq (.txt [⟨[], false, []⟩, ⟨[], false, []⟩, ⟨[], false, []⟩, ⟨[], true, []⟩]) .leaf))
set_option maxRecDepth 100000 in
theorem M_queue_within_ok (σ : Hp) (n : Int) (low : Int) (high : Int) (R : Value → Hp → Prop) (h : M_queue_within σ n low high R) : FCalls Tryz.prog 32 #[(.int .i64 n), (.int .i64 low), (.int .i64 high)] σ R :=
  fcalls_of_M mixed_Q1 M_queue_within_an Tryz.func32 rfl (by kernel_rfl) (by kernel_rfl) (M := M_queue_within σ n low high R) (by kernel_rfl) h
theorem M_queue_within_enter : enterB Tryz.prog 32 = true := by kernel_rfl

abbrev N_slices_ContainsFunc_int : FuncId := 33
/-- slices.ContainsFunc[[]int,int] -/
def M_slices_ContainsFunc_int (σ : Hp) (s_A : Option Addr) (s_n : Nat) (s_c : Nat) (f : Value) (R : Value → Hp → Prop) : Prop :=
  cl Tryz.prog (.func (.func 58) #[] #[]) #[(.slice s_A s_n s_c), f] σ (fun v1 σ2 => ∃ n3 : Int, (v1 = (.int .i64 n3) ∧ 
    rt σ2 R (.bool (decide ((0 : Int) ≤ n3)))))
def M_slices_ContainsFunc_int_an : MAn := (.seq (.txt []) (.seq (.txt []) .leaf))
set_option maxRecDepth 100000 in
theorem M_slices_ContainsFunc_int_ok (σ : Hp) (s_A : Option Addr) (s_n : Nat) (s_c : Nat) (f : Value) (R : Value → Hp → Prop) (h : M_slices_ContainsFunc_int σ s_A s_n s_c f R) : FCalls Tryz.prog 33 #[(.slice s_A s_n s_c), f] σ R :=
  fcalls_of_M mixed_Q1 M_slices_ContainsFunc_int_an Tryz.func33 rfl (by kernel_rfl) (by kernel_rfl) (M := M_slices_ContainsFunc_int σ s_A s_n s_c f R) (by kernel_rfl) h
theorem M_slices_ContainsFunc_int_enter : enterB Tryz.prog 33 = true := by kernel_rfl

abbrev N_slices_ContainsFunc_api_Group : FuncId := 50
/-- slices.ContainsFunc[[]waltzer/api.Group,waltzer/api.Group] -/
def M_slices_ContainsFunc_api_Group (σ : Hp) (s_A : Option Addr) (s_n : Nat) (s_c : Nat) (f : Value) (R : Value → Hp → Prop) : Prop :=
  cl Tryz.prog (.func (.func 68) #[] #[]) #[(.slice s_A s_n s_c), f] σ (fun v1 σ2 => ∃ n3 : Int, (v1 = (.int .i64 n3) ∧ 
    rt σ2 R (.bool (decide ((0 : Int) ≤ n3)))))
def M_slices_ContainsFunc_api_Group_an : MAn := (.seq (.txt []) (.seq (.txt []) .leaf))
set_option maxRecDepth 100000 in
theorem M_slices_ContainsFunc_api_Group_ok (σ : Hp) (s_A : Option Addr) (s_n : Nat) (s_c : Nat) (f : Value) (R : Value → Hp → Prop) (h : M_slices_ContainsFunc_api_Group σ s_A s_n s_c f R) : FCalls Tryz.prog 50 #[(.slice s_A s_n s_c), f] σ R :=
  fcalls_of_M mixed_Q1 M_slices_ContainsFunc_api_Group_an Tryz.func50 rfl (by kernel_rfl) (by kernel_rfl) (M := M_slices_ContainsFunc_api_Group σ s_A s_n s_c f R) (by kernel_rfl) h
theorem M_slices_ContainsFunc_api_Group_enter : enterB Tryz.prog 50 = true := by kernel_rfl

abbrev N_ref07_checkEvening : FuncId := 45
/-- waltzer/waltzerref07.checkEvening -/
def M_ref07_checkEvening (σ : Hp) (f_Rides_A : Option Addr) (f_Rides_n : Nat) (_ : Nat) (f_Walk : Int) (R : Value → Hp → Prop) : Prop :=
  cut (α := Hp → Prop) (fun  σ2 => ∀ _ : Nat → Value, cut (α := Hp → Prop) (fun  σ5 => ∀ _ : Nat → Value, 
    rt σ5 R (.int .i64 0)) (fun J6 => ∃ I9 : Nat → Int → Hp → Prop, (∃ n100, I9 n100 0 σ2) ∧ ∀ n10 : Nat, ∀ n11 : Int, ∀ σ8 : Hp, I9 n10 n11 σ8 → ∀ _ : Nat → Value, bc (decide (n11 < ((f_Rides_n : Nat) : Int))) (cut (α := Hp → Prop) (fun  σ13 => 
    ∀ _ : Nat → Value, wk .i64 (n11 + 1) (fun n15 => bk σ13 n10 (fun m16 σ17 => I9 m16 n15 σ17))) (fun J14 => 
    ix f_Rides_A f_Rides_n n11 5 (fun b18 a19 => ldI σ8 .i64 b18 a19 (fun n20 => ldI σ8 .i64 b18 (a19 + 1) (fun n21 => 
    ldI σ8 .i64 b18 (a19 + 2) (fun n22 => ldI σ8 .i64 b18 (a19 + 3) (fun n23 => ldB σ8 b18 (a19 + 4) (fun _ => 
    cut (α := Bool → Hp → Prop) (fun t28 σ26 => ∀ _ : Nat → Value, bc t28 (rt σ26 R (.int .i64 70)) (J14 σ26)) (fun J27 => 
    cl Tryz.prog (.func (.func 39) #[] #[]) #[(.int .i64 n20), (.int .i64 1), (.int .i64 40)] σ8 (fun v29 σ30 => 
    ∃ t31 : Bool, (v29 = (.bool t31) ∧ bc (!t31) (J27 true σ30) (cl Tryz.prog (.func (.func 39) #[] #[]) #[(.int .i64 n21), (.int .i64 0), (.int .i64 100)] σ30 (fun v32 σ33 => 
    ∃ t34 : Bool, (v32 = (.bool t34) ∧ bc (!t34) (J27 true σ33) (cl Tryz.prog (.func (.func 39) #[] #[]) #[(.int .i64 n22), (.int .i64 1), (.int .i64 100)] σ33 (fun v35 σ36 => 
    ∃ t37 : Bool, (v35 = (.bool t37) ∧ bc (!t37) (J27 true σ36) (cl Tryz.prog (.func (.func 39) #[] #[]) #[(.int .i64 n23), (.int .i64 0), (.int .i64 100)] σ36 (fun v38 σ39 => 
    ∃ t40 : Bool, (v38 = (.bool t40) ∧ J27 (!t40) σ39)))))))))))))))))))) (J6 σ8))) (fun J3 => cut (α := Bool → Hp → Prop) (fun t44 σ42 => 
    ∀ _ : Nat → Value, bc t44 (rt σ42 R (.int .i64 70)) (J3 σ42)) (fun J43 => bc (decide ((8 : Int) < ((f_Rides_n : Nat) : Int))) (J43 true σ) (cl Tryz.prog (.func (.func 39) #[] #[]) #[(.int .i64 f_Walk), (.int .i64 0), (.int .i64 100)] σ (fun v45 σ46 => 
    ∃ t47 : Bool, (v45 = (.bool t47) ∧ J43 (!t47) σ46)))))
def M_ref07_checkEvening_an : MAn := (.seq (.txt []) (.cut ⟨[true], 1, [.slot 1 (.hb 0 0)], []⟩ (.cut ⟨[true], 1, [.slot 1 (.hb 0 0), .slot 14 (.sc (.bool))], []⟩ (.txt [⟨[], false, []⟩, ⟨[], false, []⟩, ⟨[], false, []⟩, ⟨[], false, []⟩, ⟨[], true, []⟩]) (.cond (.seq (.txt []) .leaf) .leaf)) (.cut ⟨[true], 1, [], []⟩ (.seq (.txt []) (.block (.loop ⟨[true], 1, [.slot 1 (.hb 0 0), .slot 3 (.sc (.int .i64))], []⟩ (.seq (.seq (.txt []) (.cond .leaf .leaf)) (.cut ⟨[true], 1, [.slot 1 (.hb 0 0)], [(3, true)]⟩ (.block (.seq (.txt []) (.cut ⟨[true, true], 2, [.slot 1 (.hb 0 0), .slot 48 (.sc (.bool))], [(3, true)]⟩ (.txt [⟨[], false, []⟩, ⟨[], false, []⟩, ⟨[], false, []⟩, ⟨[], false, []⟩, ⟨[], true, []⟩, ⟨[], false, []⟩, ⟨[], false, []⟩, ⟨[], false, []⟩, ⟨[], false, []⟩, ⟨[], false, []⟩, ⟨[], true, []⟩, ⟨[], false, []⟩, ⟨[], false, []⟩, ⟨[], false, []⟩, ⟨[], false, []⟩, ⟨[], false, []⟩, ⟨[], true, []⟩]) (.cond (.seq (.txt []) .leaf) .leaf)))) (.txt [])))))) (.seq (.txt []) .leaf))))
set_option maxRecDepth 100000 in
theorem M_ref07_checkEvening_ok (σ : Hp) (f_Rides_A : Option Addr) (f_Rides_n : Nat) (f_Rides_c : Nat) (f_Walk : Int) (R : Value → Hp → Prop) (h : M_ref07_checkEvening σ f_Rides_A f_Rides_n f_Rides_c f_Walk R) : FCalls Tryz.prog 45 #[(.agg #[(.slice f_Rides_A f_Rides_n f_Rides_c), (.int .i64 f_Walk)])] σ R :=
  fcalls_of_M mixed_Q1 M_ref07_checkEvening_an Tryz.func45 rfl (by kernel_rfl) (by kernel_rfl) (M := M_ref07_checkEvening σ f_Rides_A f_Rides_n f_Rides_c f_Walk R) (by kernel_rfl) h
theorem M_ref07_checkEvening_enter : enterB Tryz.prog 45 = true := by kernel_rfl

abbrev N_ref07_from : FuncId := 39
/-- waltzer/waltzerref07.from -/
def M_ref07_from (σ : Hp) (n : Int) (low : Int) (high : Int) (R : Value → Hp → Prop) : Prop :=
  bc (decide (low ≤ n)) (rt σ R (.bool (decide (n ≤ high)))) (rt σ R (.bool false))
def M_ref07_from_an : MAn := (.seq (.txt []) (.seq (.txt [⟨[], false, []⟩, ⟨[], false, []⟩, ⟨[], false, []⟩, ⟨[], true, []⟩]) .leaf))
set_option maxRecDepth 100000 in
theorem M_ref07_from_ok (σ : Hp) (n : Int) (low : Int) (high : Int) (R : Value → Hp → Prop) (h : M_ref07_from σ n low high R) : FCalls Tryz.prog 39 #[(.int .i64 n), (.int .i64 low), (.int .i64 high)] σ R :=
  fcalls_of_M mixed_Q1 M_ref07_from_an Tryz.func39 rfl (by kernel_rfl) (by kernel_rfl) (M := M_ref07_from σ n low high R) (by kernel_rfl) h
theorem M_ref07_from_enter : enterB Tryz.prog 39 = true := by kernel_rfl

abbrev N_queue_of__queue_party : FuncId := 42
/-- waltzer/queue.of[*waltzer/queue.party] -/
def M_queue_of__queue_party (σ : Hp) (f_Rides_A : Option Addr) (f_Rides_n : Nat) (f_Rides_c : Nat) (f_Walk : Int) (l_A : Option Addr) (l_n : Nat) (l_c : Nat) (elements : Value) (number : Value) (R : Value → Hp → Prop) : Prop :=
  cl Tryz.prog (.func (.func 27) #[] #[]) #[(.agg #[(.slice f_Rides_A f_Rides_n f_Rides_c), (.int .i64 f_Walk)]), (.slice l_A l_n l_c)] σ (fun v1 σ2 => 
    ∃ n3 : Int, (v1 = (.int .i64 n3) ∧ bc (!decide (n3 = 0)) (rt σ2 R (.tuple #[(.slice none 0 0), (.int .i64 n3)])) (cut (α := List Int → Hp → Prop) (fun xs7 σ5 => 
    ∀ _ : Nat → Value, exl 3 [.int .i64] xs7 σ5 (fun A8 l8 c8 σ9 => rt σ9 R (.tuple #[(.slice A8 l8 c8), (.int .i64 0)]))) (fun J6 => 
    cl Tryz.prog (.func (.func 28) #[] #[]) #[(.agg #[(.slice f_Rides_A f_Rides_n f_Rides_c), (.int .i64 f_Walk)]), (.slice l_A l_n l_c)] σ2 (fun v10 σ11 => 
    ∃ p12 : Option Addr, (v10 = (.pointer p12) ∧ cl Tryz.prog elements #[(.pointer p12)] σ11 (fun v13 σ14 => 
    ∃ A15 : Option Addr, ∃ l15 : Nat, ∃ c15 : Nat, (v13 = (.slice A15 l15 c15) ∧ ∃ I18 : Nat → List Int → Int → Hp → Prop, (∃ n190, adp 3 [.int .i64] none 0 0 σ14 (fun (xs20 : List Int) σ21 => 
    I18 n190 xs20 0 σ21)) ∧ ∀ n19 : Nat, ∀ xs22 : List Int, ∀ n23 : Int, ∀ σ17 : Hp, I18 n19 xs22 n23 σ17 → ∀ _ : Nat → Value, bc (decide (n23 < ((l15 : Nat) : Int))) (ix A15 l15 n23 1 (fun b24 a25 => 
    ldP σ17 b24 a25 (fun p26 => cl Tryz.prog number #[(.pointer p26)] σ17 (fun v27 σ28 => ∃ n29 : Int, (v27 = (.int .i64 n29) ∧ 
    roomy (List.length xs22 + List.length ([n29] : List Int)) (wk .i64 (n23 + 1) (fun n30 => bk σ28 n19 (fun m31 σ32 => 
    I18 m31 (xs22 ++ ([n29] : List Int)) n30 σ32)))))))) (J6 xs22 σ17)))))))))
def M_queue_of__queue_party_an : MAn := (.seq (.txt []) (.seq (.seq (.txt []) (.seq (.txt []) (.cond (.seq (.txt []) .leaf) .leaf))) (.cut ⟨[true], 2, [.slot 8 (.lst 1 3 [.int .i64])], []⟩ (.seq (.txt []) (.block (.loop ⟨[true], 2, [.slot 8 (.lst 1 3 [.int .i64]), .slot 25 (.sc (.int .i64))], [(3, false), (23, true), (24, true)]⟩ (.seq (.txt []) (.seq (.cond .leaf .leaf) (.seq (.block (.seq (.txt []) (.txt []))) (.txt []))))))) (.seq (.txt []) .leaf))))
set_option maxRecDepth 100000 in
theorem M_queue_of__queue_party_ok (σ : Hp) (f_Rides_A : Option Addr) (f_Rides_n : Nat) (f_Rides_c : Nat) (f_Walk : Int) (l_A : Option Addr) (l_n : Nat) (l_c : Nat) (elements : Value) (number : Value) (R : Value → Hp → Prop) (h : M_queue_of__queue_party σ f_Rides_A f_Rides_n f_Rides_c f_Walk l_A l_n l_c elements number R) : FCalls Tryz.prog 42 #[(.agg #[(.slice f_Rides_A f_Rides_n f_Rides_c), (.int .i64 f_Walk)]), (.slice l_A l_n l_c), elements, number] σ R :=
  fcalls_of_M mixed_Q1 M_queue_of__queue_party_an Tryz.func42 rfl (by kernel_rfl) (by kernel_rfl) (M := M_queue_of__queue_party σ f_Rides_A f_Rides_n f_Rides_c f_Walk l_A l_n l_c elements number R) (by kernel_rfl) h
theorem M_queue_of__queue_party_enter : enterB Tryz.prog 42 = true := by kernel_rfl

abbrev N_queue_parties : FuncId := 43
/-- waltzer/queue.parties -/
def M_queue_parties (σ : Hp) (n : Option Addr) (R : Value → Hp → Prop) : Prop :=
  dr n (fun b1 o2 => ldS σ b1 (o2 + 2) (fun A3 l3 c3 => rt σ R (.slice A3 l3 c3)))
def M_queue_parties_an : MAn := (.seq (.txt []) (.seq (.txt []) .leaf))
set_option maxRecDepth 100000 in
theorem M_queue_parties_ok (σ : Hp) (n : Option Addr) (R : Value → Hp → Prop) (h : M_queue_parties σ n R) : FCalls Tryz.prog 43 #[(.pointer n)] σ R :=
  fcalls_of_M mixed_Q1 M_queue_parties_an Tryz.func43 rfl (by kernel_rfl) (by kernel_rfl) (M := M_queue_parties σ n R) (by kernel_rfl) h
theorem M_queue_parties_enter : enterB Tryz.prog 43 = true := by kernel_rfl

abbrev N_queue_of__queue_booth : FuncId := 22
/-- waltzer/queue.of[*waltzer/queue.booth] -/
def M_queue_of__queue_booth (σ : Hp) (f_Rides_A : Option Addr) (f_Rides_n : Nat) (f_Rides_c : Nat) (f_Walk : Int) (l_A : Option Addr) (l_n : Nat) (l_c : Nat) (elements : Value) (number : Value) (R : Value → Hp → Prop) : Prop :=
  cl Tryz.prog (.func (.func 27) #[] #[]) #[(.agg #[(.slice f_Rides_A f_Rides_n f_Rides_c), (.int .i64 f_Walk)]), (.slice l_A l_n l_c)] σ (fun v1 σ2 => 
    ∃ n3 : Int, (v1 = (.int .i64 n3) ∧ bc (!decide (n3 = 0)) (rt σ2 R (.tuple #[(.slice none 0 0), (.int .i64 n3)])) (cut (α := List Int → Hp → Prop) (fun xs7 σ5 => 
    ∀ _ : Nat → Value, exl 3 [.int .i64] xs7 σ5 (fun A8 l8 c8 σ9 => rt σ9 R (.tuple #[(.slice A8 l8 c8), (.int .i64 0)]))) (fun J6 => 
    cl Tryz.prog (.func (.func 28) #[] #[]) #[(.agg #[(.slice f_Rides_A f_Rides_n f_Rides_c), (.int .i64 f_Walk)]), (.slice l_A l_n l_c)] σ2 (fun v10 σ11 => 
    ∃ p12 : Option Addr, (v10 = (.pointer p12) ∧ cl Tryz.prog elements #[(.pointer p12)] σ11 (fun v13 σ14 => 
    ∃ A15 : Option Addr, ∃ l15 : Nat, ∃ c15 : Nat, (v13 = (.slice A15 l15 c15) ∧ ∃ I18 : Nat → List Int → Int → Hp → Prop, (∃ n190, adp 3 [.int .i64] none 0 0 σ14 (fun (xs20 : List Int) σ21 => 
    I18 n190 xs20 0 σ21)) ∧ ∀ n19 : Nat, ∀ xs22 : List Int, ∀ n23 : Int, ∀ σ17 : Hp, I18 n19 xs22 n23 σ17 → ∀ _ : Nat → Value, bc (decide (n23 < ((l15 : Nat) : Int))) (ix A15 l15 n23 1 (fun b24 a25 => 
    ldP σ17 b24 a25 (fun p26 => cl Tryz.prog number #[(.pointer p26)] σ17 (fun v27 σ28 => ∃ n29 : Int, (v27 = (.int .i64 n29) ∧ 
    roomy (List.length xs22 + List.length ([n29] : List Int)) (wk .i64 (n23 + 1) (fun n30 => bk σ28 n19 (fun m31 σ32 => 
    I18 m31 (xs22 ++ ([n29] : List Int)) n30 σ32)))))))) (J6 xs22 σ17)))))))))
def M_queue_of__queue_booth_an : MAn := (.seq (.txt []) (.seq (.seq (.txt []) (.seq (.txt []) (.cond (.seq (.txt []) .leaf) .leaf))) (.cut ⟨[true], 2, [.slot 8 (.lst 1 3 [.int .i64])], []⟩ (.seq (.txt []) (.block (.loop ⟨[true], 2, [.slot 8 (.lst 1 3 [.int .i64]), .slot 25 (.sc (.int .i64))], [(3, false), (23, true), (24, true)]⟩ (.seq (.txt []) (.seq (.cond .leaf .leaf) (.seq (.block (.seq (.txt []) (.txt []))) (.txt []))))))) (.seq (.txt []) .leaf))))
set_option maxRecDepth 100000 in
theorem M_queue_of__queue_booth_ok (σ : Hp) (f_Rides_A : Option Addr) (f_Rides_n : Nat) (f_Rides_c : Nat) (f_Walk : Int) (l_A : Option Addr) (l_n : Nat) (l_c : Nat) (elements : Value) (number : Value) (R : Value → Hp → Prop) (h : M_queue_of__queue_booth σ f_Rides_A f_Rides_n f_Rides_c f_Walk l_A l_n l_c elements number R) : FCalls Tryz.prog 22 #[(.agg #[(.slice f_Rides_A f_Rides_n f_Rides_c), (.int .i64 f_Walk)]), (.slice l_A l_n l_c), elements, number] σ R :=
  fcalls_of_M mixed_Q1 M_queue_of__queue_booth_an Tryz.func22 rfl (by kernel_rfl) (by kernel_rfl) (M := M_queue_of__queue_booth σ f_Rides_A f_Rides_n f_Rides_c f_Walk l_A l_n l_c elements number R) (by kernel_rfl) h
theorem M_queue_of__queue_booth_enter : enterB Tryz.prog 22 = true := by kernel_rfl

abbrev N_queue_rides : FuncId := 23
/-- waltzer/queue.rides -/
def M_queue_rides (σ : Hp) (n : Option Addr) (R : Value → Hp → Prop) : Prop :=
  dr n (fun b1 o2 => ldS σ b1 (o2 + 1) (fun A3 l3 c3 => rt σ R (.slice A3 l3 c3)))
def M_queue_rides_an : MAn := (.seq (.txt []) (.seq (.txt []) .leaf))
set_option maxRecDepth 100000 in
theorem M_queue_rides_ok (σ : Hp) (n : Option Addr) (R : Value → Hp → Prop) (h : M_queue_rides σ n R) : FCalls Tryz.prog 23 #[(.pointer n)] σ R :=
  fcalls_of_M mixed_Q1 M_queue_rides_an Tryz.func23 rfl (by kernel_rfl) (by kernel_rfl) (M := M_queue_rides σ n R) (by kernel_rfl) h
theorem M_queue_rides_enter : enterB Tryz.prog 23 = true := by kernel_rfl

abbrev N_queue_Takes_1 : FuncId := 40
/-- waltzer/queue.Takes$1 -/
def M_queue_Takes_1 (σ : Hp) (r : Option Addr) (R : Value → Hp → Prop) : Prop :=
  dr r (fun b1 o2 => ldI σ .i64 b1 (o2 + 9) (fun n3 => rt σ R (.int .i64 n3)))
def M_queue_Takes_1_an : MAn := (.seq (.txt []) (.seq (.txt []) .leaf))
set_option maxRecDepth 100000 in
theorem M_queue_Takes_1_ok (σ : Hp) (r : Option Addr) (R : Value → Hp → Prop) (h : M_queue_Takes_1 σ r R) : FCalls Tryz.prog 40 #[(.pointer r)] σ R :=
  fcalls_of_M mixed_Q1 M_queue_Takes_1_an Tryz.func40 rfl (by kernel_rfl) (by kernel_rfl) (M := M_queue_Takes_1 σ r R) (by kernel_rfl) h
theorem M_queue_Takes_1_enter : enterB Tryz.prog 40 = true := by kernel_rfl

abbrev N_queue_Held_1 : FuncId := 44
/-- waltzer/queue.Held$1 -/
def M_queue_Held_1 (σ : Hp) (p : Option Addr) (R : Value → Hp → Prop) : Prop :=
  dr p (fun b1 o2 => ldI σ .i64 b1 (o2 + 6) (fun n3 => rt σ R (.int .i64 n3)))
def M_queue_Held_1_an : MAn := (.seq (.txt []) (.seq (.txt []) .leaf))
set_option maxRecDepth 100000 in
theorem M_queue_Held_1_ok (σ : Hp) (p : Option Addr) (R : Value → Hp → Prop) (h : M_queue_Held_1 σ p R) : FCalls Tryz.prog 44 #[(.pointer p)] σ R :=
  fcalls_of_M mixed_Q1 M_queue_Held_1_an Tryz.func44 rfl (by kernel_rfl) (by kernel_rfl) (M := M_queue_Held_1 σ p R) (by kernel_rfl) h
theorem M_queue_Held_1_enter : enterB Tryz.prog 44 = true := by kernel_rfl

abbrev N_queue_evening_1 : FuncId := 66
/-- waltzer/queue.evening$1 -/
def M_queue_evening_1 (σ : Hp) (b_Seats : Int) (b_Price : Int) (b_Cycle : Int) (b_Pause : Int) (_ : Bool) (R : Value → Hp → Prop) : Prop :=
  cl Tryz.prog (.func (.func 32) #[] #[]) #[(.int .i64 b_Seats), (.int .i64 1), (.int .i64 40)] σ (fun v1 σ2 => 
    ∃ t3 : Bool, (v1 = (.bool t3) ∧ bc (!t3) (rt σ2 R (.bool true)) (cl Tryz.prog (.func (.func 32) #[] #[]) #[(.int .i64 b_Price), (.int .i64 0), (.int .i64 100)] σ2 (fun v4 σ5 => 
    ∃ t6 : Bool, (v4 = (.bool t6) ∧ bc (!t6) (rt σ5 R (.bool true)) (cl Tryz.prog (.func (.func 32) #[] #[]) #[(.int .i64 b_Cycle), (.int .i64 1), (.int .i64 100)] σ5 (fun v7 σ8 => 
    ∃ t9 : Bool, (v7 = (.bool t9) ∧ bc (!t9) (rt σ8 R (.bool true)) (cl Tryz.prog (.func (.func 32) #[] #[]) #[(.int .i64 b_Pause), (.int .i64 0), (.int .i64 100)] σ8 (fun v10 σ11 => 
    ∃ t12 : Bool, (v10 = (.bool t12) ∧ rt σ11 R (.bool (!t12)))))))))))))
def M_queue_evening_1_an : MAn := (.seq (.txt []) (.seq (.txt [⟨[], false, []⟩, ⟨[], false, []⟩, ⟨[], false, []⟩, ⟨[], false, []⟩, ⟨[], true, []⟩, ⟨[], false, []⟩, ⟨[], false, []⟩, ⟨[], false, []⟩, ⟨[], false, []⟩, ⟨[], false, []⟩, ⟨[], true, []⟩, ⟨[], false, []⟩, ⟨[], false, []⟩, ⟨[], false, []⟩, ⟨[], false, []⟩, ⟨[], false, []⟩, ⟨[], true, []⟩]) .leaf))
set_option maxRecDepth 100000 in
theorem M_queue_evening_1_ok (σ : Hp) (b_Seats : Int) (b_Price : Int) (b_Cycle : Int) (b_Pause : Int) (b_Fill : Bool) (R : Value → Hp → Prop) (h : M_queue_evening_1 σ b_Seats b_Price b_Cycle b_Pause b_Fill R) : FCalls Tryz.prog 66 #[(.agg #[(.int .i64 b_Seats), (.int .i64 b_Price), (.int .i64 b_Cycle), (.int .i64 b_Pause), (.bool b_Fill)])] σ R :=
  fcalls_of_M mixed_Q1 M_queue_evening_1_an Tryz.func66 rfl (by kernel_rfl) (by kernel_rfl) (M := M_queue_evening_1 σ b_Seats b_Price b_Cycle b_Pause b_Fill R) (by kernel_rfl) h
theorem M_queue_evening_1_enter : enterB Tryz.prog 66 = true := by kernel_rfl

abbrev N_slices_ContainsFunc_api_Booth : FuncId := 67
/-- slices.ContainsFunc[[]waltzer/api.Booth,waltzer/api.Booth] -/
def M_slices_ContainsFunc_api_Booth (σ : Hp) (s_A : Option Addr) (s_n : Nat) (s_c : Nat) (f : Value) (R : Value → Hp → Prop) : Prop :=
  cl Tryz.prog (.func (.func 88) #[] #[]) #[(.slice s_A s_n s_c), f] σ (fun v1 σ2 => ∃ n3 : Int, (v1 = (.int .i64 n3) ∧ 
    rt σ2 R (.bool (decide ((0 : Int) ≤ n3)))))
def M_slices_ContainsFunc_api_Booth_an : MAn := (.seq (.txt []) (.seq (.txt []) .leaf))
set_option maxRecDepth 100000 in
theorem M_slices_ContainsFunc_api_Booth_ok (σ : Hp) (s_A : Option Addr) (s_n : Nat) (s_c : Nat) (f : Value) (R : Value → Hp → Prop) (h : M_slices_ContainsFunc_api_Booth σ s_A s_n s_c f R) : FCalls Tryz.prog 67 #[(.slice s_A s_n s_c), f] σ R :=
  fcalls_of_M mixed_Q1 M_slices_ContainsFunc_api_Booth_an Tryz.func67 rfl (by kernel_rfl) (by kernel_rfl) (M := M_slices_ContainsFunc_api_Booth σ s_A s_n s_c f R) (by kernel_rfl) h
theorem M_slices_ContainsFunc_api_Booth_enter : enterB Tryz.prog 67 = true := by kernel_rfl

abbrev N_slices_IndexFunc_int : FuncId := 58
/-- slices.IndexFunc[[]int,int] -/
def M_slices_IndexFunc_int (σ : Hp) (s_A : Option Addr) (s_n : Nat) (_ : Nat) (f : Value) (R : Value → Hp → Prop) : Prop :=
  cut (α := Hp → Prop) (fun  σ2 => ∀ _ : Nat → Value, rt σ2 R (.int .i64 (-1))) (fun J3 => ∃ I6 : Nat → Int → Hp → Prop, (∃ n70, I6 n70 0 σ) ∧ 
    ∀ n7 : Nat, ∀ n8 : Int, ∀ σ5 : Hp, I6 n7 n8 σ5 → ∀ _ : Nat → Value, bc (decide (n8 < ((s_n : Nat) : Int))) (ix s_A s_n n8 1 (fun b9 a10 => 
    ldI σ5 .i64 b9 a10 (fun n11 => cl Tryz.prog f #[(.int .i64 n11)] σ5 (fun v12 σ13 => ∃ t14 : Bool, (v12 = (.bool t14) ∧ 
    bc t14 (rt σ13 R (.int .i64 n8)) (wk .i64 (n8 + 1) (fun n15 => bk σ13 n7 (fun m16 σ17 => I6 m16 n15 σ17)))))))) (J3 σ5))
def M_slices_IndexFunc_int_an : MAn := (.seq (.txt []) (.cut ⟨[], 0, [], []⟩ (.seq (.txt []) (.block (.loop ⟨[], 0, [.slot 8 (.sc (.int .i64))], [(0, true), (1, false), (7, true)]⟩ (.seq (.txt []) (.seq (.cond .leaf .leaf) (.seq (.block (.seq (.txt []) (.seq (.txt []) (.cond (.seq (.txt []) .leaf) .leaf)))) (.txt []))))))) (.seq (.txt []) .leaf)))
set_option maxRecDepth 100000 in
theorem M_slices_IndexFunc_int_ok (σ : Hp) (s_A : Option Addr) (s_n : Nat) (s_c : Nat) (f : Value) (R : Value → Hp → Prop) (h : M_slices_IndexFunc_int σ s_A s_n s_c f R) : FCalls Tryz.prog 58 #[(.slice s_A s_n s_c), f] σ R :=
  fcalls_of_M mixed_Q1 M_slices_IndexFunc_int_an Tryz.func58 rfl (by kernel_rfl) (by kernel_rfl) (M := M_slices_IndexFunc_int σ s_A s_n s_c f R) (by kernel_rfl) h
theorem M_slices_IndexFunc_int_enter : enterB Tryz.prog 58 = true := by kernel_rfl

abbrev N_slices_IndexFunc_api_Group : FuncId := 68
/-- slices.IndexFunc[[]waltzer/api.Group,waltzer/api.Group] -/
def M_slices_IndexFunc_api_Group (σ : Hp) (s_A : Option Addr) (s_n : Nat) (_ : Nat) (f : Value) (R : Value → Hp → Prop) : Prop :=
  cut (α := Hp → Prop) (fun  σ2 => ∀ _ : Nat → Value, rt σ2 R (.int .i64 (-1))) (fun J3 => ∃ I6 : Nat → Int → Hp → Prop, (∃ n70, I6 n70 0 σ) ∧ 
    ∀ n7 : Nat, ∀ n8 : Int, ∀ σ5 : Hp, I6 n7 n8 σ5 → ∀ _ : Nat → Value, bc (decide (n8 < ((s_n : Nat) : Int))) (ix s_A s_n n8 5 (fun b9 a10 => 
    ldI σ5 .i64 b9 a10 (fun n11 => ldI σ5 .i64 b9 (a10 + 1) (fun n12 => ldI σ5 .i64 b9 (a10 + 2) (fun n13 => 
    ldS σ5 b9 (a10 + 3) (fun A14 l14 c14 => ldI σ5 .i64 b9 (a10 + 4) (fun n15 => cl Tryz.prog f #[(.agg #[(.int .i64 n11), (.int .i64 n12), (.int .i64 n13), (.slice A14 l14 c14), (.int .i64 n15)])] σ5 (fun v16 σ17 => 
    ∃ t18 : Bool, (v16 = (.bool t18) ∧ bc t18 (rt σ17 R (.int .i64 n8)) (wk .i64 (n8 + 1) (fun n19 => bk σ17 n7 (fun m20 σ21 => 
    I6 m20 n19 σ21)))))))))))) (J3 σ5))
def M_slices_IndexFunc_api_Group_an : MAn := (.seq (.txt []) (.cut ⟨[], 0, [], []⟩ (.seq (.txt []) (.block (.loop ⟨[], 0, [.slot 8 (.sc (.int .i64))], [(0, true), (1, false), (7, true)]⟩ (.seq (.txt []) (.seq (.cond .leaf .leaf) (.seq (.block (.seq (.txt []) (.seq (.txt []) (.cond (.seq (.txt []) .leaf) .leaf)))) (.txt []))))))) (.seq (.txt []) .leaf)))
set_option maxRecDepth 100000 in
theorem M_slices_IndexFunc_api_Group_ok (σ : Hp) (s_A : Option Addr) (s_n : Nat) (s_c : Nat) (f : Value) (R : Value → Hp → Prop) (h : M_slices_IndexFunc_api_Group σ s_A s_n s_c f R) : FCalls Tryz.prog 68 #[(.slice s_A s_n s_c), f] σ R :=
  fcalls_of_M mixed_Q1 M_slices_IndexFunc_api_Group_an Tryz.func68 rfl (by kernel_rfl) (by kernel_rfl) (M := M_slices_IndexFunc_api_Group σ s_A s_n s_c f R) (by kernel_rfl) h
theorem M_slices_IndexFunc_api_Group_enter : enterB Tryz.prog 68 = true := by kernel_rfl

abbrev N_cmp_Or_int : FuncId := 57
/-- cmp.Or[int] -/
def M_cmp_Or_int (σ : Hp) (vals_A : Option Addr) (vals_n : Nat) (_ : Nat) (R : Value → Hp → Prop) : Prop :=
  cut (α := Hp → Prop) (fun  σ2 => ∀ _ : Nat → Value, rt σ2 R (.int .i64 0)) (fun J3 => ∃ I6 : Nat → Int → Hp → Prop, (∃ n70, I6 n70 0 σ) ∧ 
    ∀ n7 : Nat, ∀ n8 : Int, ∀ σ5 : Hp, I6 n7 n8 σ5 → ∀ _ : Nat → Value, bc (decide (n8 < ((vals_n : Nat) : Int))) (ix vals_A vals_n n8 1 (fun b9 a10 => 
    ldI σ5 .i64 b9 a10 (fun n11 => bc (!decide (n11 = 0)) (rt σ5 R (.int .i64 n11)) (wk .i64 (n8 + 1) (fun n12 => 
    bk σ5 n7 (fun m13 σ14 => I6 m13 n12 σ14)))))) (J3 σ5))
def M_cmp_Or_int_an : MAn := (.seq (.txt []) (.seq (.txt []) (.cut ⟨[], 0, [], [(3, true)]⟩ (.seq (.txt []) (.block (.loop ⟨[], 0, [.slot 8 (.sc (.int .i64))], [(3, true), (6, true), (7, true)]⟩ (.seq (.txt []) (.seq (.cond .leaf .leaf) (.seq (.block (.seq (.txt []) (.seq (.txt []) (.cond (.seq (.txt []) .leaf) .leaf)))) (.txt []))))))) (.seq (.txt []) .leaf))))
set_option maxRecDepth 100000 in
theorem M_cmp_Or_int_ok (σ : Hp) (vals_A : Option Addr) (vals_n : Nat) (vals_c : Nat) (R : Value → Hp → Prop) (h : M_cmp_Or_int σ vals_A vals_n vals_c R) : FCalls Tryz.prog 57 #[(.slice vals_A vals_n vals_c)] σ R :=
  fcalls_of_M mixed_Q1 M_cmp_Or_int_an Tryz.func57 rfl (by kernel_rfl) (by kernel_rfl) (M := M_cmp_Or_int σ vals_A vals_n vals_c R) (by kernel_rfl) h
theorem M_cmp_Or_int_enter : enterB Tryz.prog 57 = true := by kernel_rfl

abbrev N_slices_IndexFunc_api_Booth : FuncId := 88
/-- slices.IndexFunc[[]waltzer/api.Booth,waltzer/api.Booth] -/
def M_slices_IndexFunc_api_Booth (σ : Hp) (s_A : Option Addr) (s_n : Nat) (_ : Nat) (f : Value) (R : Value → Hp → Prop) : Prop :=
  cut (α := Hp → Prop) (fun  σ2 => ∀ _ : Nat → Value, rt σ2 R (.int .i64 (-1))) (fun J3 => ∃ I6 : Nat → Int → Hp → Prop, (∃ n70, I6 n70 0 σ) ∧ 
    ∀ n7 : Nat, ∀ n8 : Int, ∀ σ5 : Hp, I6 n7 n8 σ5 → ∀ _ : Nat → Value, bc (decide (n8 < ((s_n : Nat) : Int))) (ix s_A s_n n8 5 (fun b9 a10 => 
    ldI σ5 .i64 b9 a10 (fun n11 => ldI σ5 .i64 b9 (a10 + 1) (fun n12 => ldI σ5 .i64 b9 (a10 + 2) (fun n13 => 
    ldI σ5 .i64 b9 (a10 + 3) (fun n14 => ldB σ5 b9 (a10 + 4) (fun t15 => cl Tryz.prog f #[(.agg #[(.int .i64 n11), (.int .i64 n12), (.int .i64 n13), (.int .i64 n14), (.bool t15)])] σ5 (fun v16 σ17 => 
    ∃ t18 : Bool, (v16 = (.bool t18) ∧ bc t18 (rt σ17 R (.int .i64 n8)) (wk .i64 (n8 + 1) (fun n19 => bk σ17 n7 (fun m20 σ21 => 
    I6 m20 n19 σ21)))))))))))) (J3 σ5))
def M_slices_IndexFunc_api_Booth_an : MAn := (.seq (.txt []) (.cut ⟨[], 0, [], []⟩ (.seq (.txt []) (.block (.loop ⟨[], 0, [.slot 8 (.sc (.int .i64))], [(0, true), (1, false), (7, true)]⟩ (.seq (.txt []) (.seq (.cond .leaf .leaf) (.seq (.block (.seq (.txt []) (.seq (.txt []) (.cond (.seq (.txt []) .leaf) .leaf)))) (.txt []))))))) (.seq (.txt []) .leaf)))
set_option maxRecDepth 100000 in
theorem M_slices_IndexFunc_api_Booth_ok (σ : Hp) (s_A : Option Addr) (s_n : Nat) (s_c : Nat) (f : Value) (R : Value → Hp → Prop) (h : M_slices_IndexFunc_api_Booth σ s_A s_n s_c f R) : FCalls Tryz.prog 88 #[(.slice s_A s_n s_c), f] σ R :=
  fcalls_of_M mixed_Q1 M_slices_IndexFunc_api_Booth_an Tryz.func88 rfl (by kernel_rfl) (by kernel_rfl) (M := M_slices_IndexFunc_api_Booth σ s_A s_n s_c f R) (by kernel_rfl) h
theorem M_slices_IndexFunc_api_Booth_enter : enterB Tryz.prog 88 = true := by kernel_rfl

abbrev N_queue_play_1 : FuncId := 56
/-- waltzer/queue.play$1 -/
def M_queue_play_1 (σ : Hp) (a_Group : Int) (a_Want : Int) (_ : Int) (_ : Bool) (_ : Int) (a_Left : Int) (b_Group : Int) (b_Want : Int) (_ : Int) (_ : Bool) (_ : Int) (b_Left : Int) (R : Value → Hp → Prop) : Prop :=
  wk .i64 (a_Left - b_Left) (fun n1 => wk .i64 (a_Group - b_Group) (fun n2 => wk .i64 (a_Want - b_Want) (fun n3 => 
    exl 3 [.int .i64] ([n1, n2, n3] : List Int) σ (fun A4 l4 c4 σ5 => cl Tryz.prog (.func (.func 57) #[] #[]) #[(.slice A4 l4 c4)] σ5 (fun v6 σ7 => 
    ∃ n8 : Int, (v6 = (.int .i64 n8) ∧ rt σ7 R (.int .i64 n8)))))))
def M_queue_play_1_an : MAn := (.seq (.txt []) (.seq (.txt []) .leaf))
set_option maxRecDepth 100000 in
theorem M_queue_play_1_ok (σ : Hp) (a_Group : Int) (a_Want : Int) (a_Ride : Int) (a_On : Bool) (a_Came : Int) (a_Left : Int) (b_Group : Int) (b_Want : Int) (b_Ride : Int) (b_On : Bool) (b_Came : Int) (b_Left : Int) (R : Value → Hp → Prop) (h : M_queue_play_1 σ a_Group a_Want a_Ride a_On a_Came a_Left b_Group b_Want b_Ride b_On b_Came b_Left R) : FCalls Tryz.prog 56 #[(.agg #[(.int .i64 a_Group), (.int .i64 a_Want), (.int .i64 a_Ride), (.bool a_On), (.int .i64 a_Came), (.int .i64 a_Left)]), (.agg #[(.int .i64 b_Group), (.int .i64 b_Want), (.int .i64 b_Ride), (.bool b_On), (.int .i64 b_Came), (.int .i64 b_Left)])] σ R :=
  fcalls_of_M mixed_Q1 M_queue_play_1_an Tryz.func56 rfl (by kernel_rfl) (by kernel_rfl) (M := M_queue_play_1 σ a_Group a_Want a_Ride a_On a_Came a_Left b_Group b_Want b_Ride b_On b_Came b_Left R) (by kernel_rfl) h
theorem M_queue_play_1_enter : enterB Tryz.prog 56 = true := by kernel_rfl

abbrev N_queue_night_leave_1 : FuncId := 72
/-- (*waltzer/queue.night).leave$1 -/
def M_queue_night_leave_1 (σ : Hp) (s_group : Int) (s_came : Int) (cap0 : Option Addr) (cap1 : Option Addr) (R : Value → Hp → Prop) : Prop :=
  dr cap0 (fun b1 o2 => ldP σ b1 o2 (fun p3 => dr p3 (fun b4 o5 => ldI σ .i64 b4 (o5 + 3) (fun n6 => wk .i64 (n6 - s_came) (fun n7 => 
    dr cap0 (fun b8 o9 => ldP σ b8 o9 (fun p10 => dr p10 (fun b11 o12 => ldS σ b11 (o12 + 2) (fun A13 l13 _ => 
    ix A13 l13 s_group 1 (fun b14 a15 => ldP σ b14 a15 (fun p16 => dr p16 (fun b17 o18 => ldI σ .i64 b17 (o18 + 4) (fun n19 => 
    cut (α := Hp → Prop) (fun  σ21 => ∀ _ : Nat → Value, rt σ21 R (.bool (decide (n19 < n7)))) (fun J22 => 
    bc (decide (n19 < n7)) (dr cap1 (fun b23 o24 => ldS σ b23 o24 (fun A25 l25 c25 => adp 98 [.int .i64, .int .i64] A25 l25 c25 σ (fun (xs26 : List (Int × Int)) σ27 => 
    roomy (List.length xs26 + List.length ([(s_group, s_came)] : List (Int × Int))) (exl 98 [.int .i64, .int .i64] (xs26 ++ ([(s_group, s_came)] : List (Int × Int))) σ27 (fun A28 l28 c28 σ29 => 
    dr cap1 (fun b30 o31 => st σ29 b30 o31 (.slice A28 l28 c28) (fun σ32 => J22 σ32)))))))) (J22 σ)))))))))))))))
def M_queue_night_leave_1_an : MAn := (.seq (.txt []) (.seq (.plan [] (.take 0 ⟨[], false, []⟩ (.take 1 ⟨[], false, []⟩ (.take 2 ⟨[], false, []⟩ (.take 3 ⟨[], false, []⟩ (.take 4 ⟨[], false, []⟩ (.take 5 ⟨[], false, []⟩ (.take 6 ⟨[], false, []⟩ (.take 7 ⟨[], false, []⟩ (.take 8 ⟨[], false, []⟩ (.take 9 ⟨[], false, []⟩ (.take 10 ⟨[], false, []⟩ (.take 11 ⟨[], false, []⟩ (.take 12 ⟨[], false, []⟩ (.take 13 ⟨[], false, []⟩ (.take 14 ⟨[], false, []⟩ (.take 15 ⟨[], false, []⟩ (.take 16 ⟨[], false, []⟩ (.take 17 ⟨[], false, []⟩ (.take 18 ⟨[], false, []⟩ (.take 19 ⟨[], false, []⟩ (.take 20 ⟨[], false, []⟩ .done)))))))))))))))))))))) (.cut ⟨[true], 1, [], [(5, true)]⟩ (.seq (.txt []) (.cond (.txt []) .leaf)) (.seq (.txt []) .leaf))))
set_option maxRecDepth 100000 in
theorem M_queue_night_leave_1_ok (σ : Hp) (s_group : Int) (s_came : Int) (cap0 : Option Addr) (cap1 : Option Addr) (R : Value → Hp → Prop) (h : M_queue_night_leave_1 σ s_group s_came cap0 cap1 R) : FCalls Tryz.prog 72 #[(.agg #[(.int .i64 s_group), (.int .i64 s_came)]), (.pointer cap0), (.pointer cap1)] σ R :=
  fcalls_of_M mixed_Q1 M_queue_night_leave_1_an Tryz.func72 rfl (by kernel_rfl) (by kernel_rfl) (M := M_queue_night_leave_1 σ s_group s_came cap0 cap1 R) (by kernel_rfl) h
theorem M_queue_night_leave_1_enter : enterB Tryz.prog 72 = true := by kernel_rfl

abbrev N_queue_night_leave_2 : FuncId := 74
/-- (*waltzer/queue.night).leave$2 -/
def M_queue_night_leave_2 (σ : Hp) (a_group : Int) (_ : Int) (b_group : Int) (_ : Int) (R : Value → Hp → Prop) : Prop :=
  wk .i64 (a_group - b_group) (fun n1 => rt σ R (.int .i64 n1))
def M_queue_night_leave_2_an : MAn := (.seq (.txt []) (.seq (.txt []) .leaf))
set_option maxRecDepth 100000 in
theorem M_queue_night_leave_2_ok (σ : Hp) (a_group : Int) (a_came : Int) (b_group : Int) (b_came : Int) (R : Value → Hp → Prop) (h : M_queue_night_leave_2 σ a_group a_came b_group b_came R) : FCalls Tryz.prog 74 #[(.agg #[(.int .i64 a_group), (.int .i64 a_came)]), (.agg #[(.int .i64 b_group), (.int .i64 b_came)])] σ R :=
  fcalls_of_M mixed_Q1 M_queue_night_leave_2_an Tryz.func74 rfl (by kernel_rfl) (by kernel_rfl) (M := M_queue_night_leave_2 σ a_group a_came b_group b_came R) (by kernel_rfl) h
theorem M_queue_night_leave_2_enter : enterB Tryz.prog 74 = true := by kernel_rfl

end Go.Proofs.YtgcefaikdplbkaaGreat
