/- M-forms, printed by wip/gen/genm.py out of the translation: each function as a proposition over its local objects, with the lemma that it is what the function does. -/
import Derived.Test.YtgcefaikdplbkaaB11
namespace Go.Proofs.Ytgcefaikdplbkaa
open Go.RowKit

theorem mixed_Q1 : Try.prog.follows .mixedOrders = true := by kernel_rfl

abbrev N_law07_Far : FuncId := 12
/-- waltzer/waltzerlaw07.Far -/
def M_law07_Far (σ : Hp) (_ : Option Addr) (f_Rides_n : Nat) (_ : Nat) (_ : Int) (l_A : Option Addr) (l_n : Nat) (_ : Nat) (R : Value → Hp → Prop) : Prop :=
  cut (α := Hp → Prop) (fun  σ2 => ∀ _ : Nat → Value, cut (α := Hp → Prop) (fun  σ5 => ∀ _ : Nat → Value, 
    rt σ5 R (.bool false)) (fun J6 => ∃ I9 : Nat → Int → Hp → Prop, (∃ n100, I9 n100 0 σ2) ∧ ∀ n10 : Nat, ∀ n11 : Int, ∀ σ8 : Hp, I9 n10 n11 σ8 → ∀ _ : Nat → Value, bc (decide (n11 < ((l_n : Nat) : Int))) (ix l_A l_n n11 5 (fun b12 a13 => 
    ldS σ8 b12 (a13 + 3) (fun _ l14 _ => bc (decide ((20 : Int) < ((l14 : Nat) : Int))) (rt σ8 R (.bool true)) (wk .i64 (n11 + 1) (fun n15 => 
    bk σ8 n10 (fun m16 σ17 => I9 m16 n15 σ17)))))) (J6 σ8))) (fun J3 => cut (α := Bool → Hp → Prop) (fun t21 σ19 => 
    ∀ _ : Nat → Value, bc t21 (rt σ19 R (.bool true)) (J3 σ19)) (fun J20 => bc (decide ((10 : Int) < ((f_Rides_n : Nat) : Int))) (J20 true σ) (J20 (decide ((70 : Int) < ((l_n : Nat) : Int))) σ)))
def M_law07_Far_an : MAn := (.seq (.txt []) (.cut ⟨[true], 1, [], [(1, true)]⟩ (.cut ⟨[true], 1, [.slot 14 (.sc (.bool))], [(1, true)]⟩ (.txt [⟨[], false, []⟩, ⟨[], false, []⟩, ⟨[], false, []⟩, ⟨[], false, []⟩, ⟨[], true, []⟩]) (.cond (.seq (.txt []) .leaf) .leaf)) (.cut ⟨[true], 1, [], []⟩ (.seq (.txt []) (.block (.loop ⟨[true], 1, [.slot 5 (.sc (.int .i64))], [(1, true)]⟩ (.seq (.seq (.txt []) (.cond .leaf .leaf)) (.seq (.block (.seq (.txt []) (.cond (.seq (.txt []) .leaf) .leaf))) (.txt [])))))) (.seq (.txt []) .leaf))))
set_option maxRecDepth 100000 in
theorem M_law07_Far_ok (σ : Hp) (f_Rides_A : Option Addr) (f_Rides_n : Nat) (f_Rides_c : Nat) (f_Walk : Int) (l_A : Option Addr) (l_n : Nat) (l_c : Nat) (R : Value → Hp → Prop) (h : M_law07_Far σ f_Rides_A f_Rides_n f_Rides_c f_Walk l_A l_n l_c R) : FCalls Try.prog 12 #[(.agg #[(.slice f_Rides_A f_Rides_n f_Rides_c), (.int .i64 f_Walk)]), (.slice l_A l_n l_c)] σ R :=
  fcalls_of_M mixed_Q1 M_law07_Far_an Try.func12 rfl (by kernel_rfl) (by kernel_rfl) (M := M_law07_Far σ f_Rides_A f_Rides_n f_Rides_c f_Walk l_A l_n l_c R) (by kernel_rfl) h
theorem M_law07_Far_enter : enterB Try.prog 12 = true := by kernel_rfl

abbrev N_law07_works : FuncId := 13
/-- waltzer/waltzerlaw07.works -/
def M_law07_works (σ : Hp) (R : Value → Hp → Prop) : Prop :=
  cl Try.prog (.func (.func 30) #[] #[]) #[] σ (fun v1 σ2 => ∃ A3 : Option Addr, ∃ l3 : Nat, ∃ c3 : Nat, ∃ n4 : Int, ∃ A5 : Option Addr, ∃ l5 : Nat, ∃ c5 : Nat, (v1 = (.tuple #[(.agg #[(.slice A3 l3 c3), (.int .i64 n4)]), (.slice A5 l5 c5)]) ∧ 
    cl Try.prog (.func (.func 23) #[] #[]) #[(.agg #[(.slice A3 l3 c3), (.int .i64 n4)]), (.slice A5 l5 c5)] σ2 (fun v6 σ7 => 
    ∃ A8 : Option Addr, ∃ l8 : Nat, ∃ c8 : Nat, ∃ n9 : Int, (v6 = (.tuple #[(.slice A8 l8 c8), (.int .i64 n9)]) ∧ 
    bc (decide (n9 = 0)) (bc (decide (((l8 : Nat) : Int) = 2)) (ix A8 l8 0 1 (fun b10 a11 => ldI σ7 .i64 b10 a11 (fun n12 => 
    bc (decide (n12 = 14)) (ix A8 l8 1 1 (fun b13 a14 => ldI σ7 .i64 b13 a14 (fun n15 => rt σ7 R (.bool (decide (n15 = 16)))))) (rt σ7 R (.bool false))))) (rt σ7 R (.bool false))) (rt σ7 R (.bool false))))))
def M_law07_works_an : MAn := (.seq (.txt []) (.seq (.txt []) (.seq (.txt []) (.seq (.txt [⟨[], false, []⟩, ⟨[], false, []⟩, ⟨[], true, []⟩, ⟨[], false, []⟩, ⟨[], false, []⟩, ⟨[], false, []⟩, ⟨[], false, []⟩, ⟨[], true, []⟩, ⟨[], false, []⟩, ⟨[], false, []⟩, ⟨[], false, []⟩, ⟨[], false, []⟩, ⟨[], false, []⟩, ⟨[], true, []⟩]) .leaf))))
set_option maxRecDepth 100000 in
theorem M_law07_works_ok (σ : Hp) (R : Value → Hp → Prop) (h : M_law07_works σ  R) : FCalls Try.prog 13 #[] σ R :=
  fcalls_of_M mixed_Q1 M_law07_works_an Try.func13 rfl (by kernel_rfl) (by kernel_rfl) (M := M_law07_works σ  R) (by kernel_rfl) h
theorem M_law07_works_enter : enterB Try.prog 13 = true := by kernel_rfl

abbrev N_queue_Check : FuncId := 14
/-- waltzer/queue.Check -/
def M_queue_Check (σ : Hp) (f_Rides_A : Option Addr) (f_Rides_n : Nat) (f_Rides_c : Nat) (f_Walk : Int) (l_A : Option Addr) (l_n : Nat) (l_c : Nat) (R : Value → Hp → Prop) : Prop :=
  cl Try.prog (.func (.func 31) #[] #[]) #[(.agg #[(.slice f_Rides_A f_Rides_n f_Rides_c), (.int .i64 f_Walk)])] σ (fun v1 σ2 => 
    ∃ n3 : Int, (v1 = (.int .i64 n3) ∧ bc (!decide (n3 = 0)) (rt σ2 R (.int .i64 n3)) (bx σ2 (.cells #[(.slice f_Rides_A f_Rides_n f_Rides_c), (.int .i64 f_Walk)] 24) (fun b4 σ5 => 
    cut (α := Hp → Prop) (fun  σ7 => ∀ _ : Nat → Value, rt σ7 R (.int .i64 0)) (fun J8 => cut (α := Bool → Hp → Prop) (fun t12 σ10 => 
    ∀ _ : Nat → Value, bc t12 (rt σ10 R (.int .i64 71)) (J8 σ10)) (fun J11 => bc (decide ((60 : Int) < ((l_n : Nat) : Int))) (J11 true σ5) (cl Try.prog (.func (.func 36) #[] #[]) #[(.slice l_A l_n l_c), (.func (.func 32) #[] #[(.pointer (some ⟨b4, 0, none⟩))])] σ5 (fun v13 σ14 => 
    ∃ t15 : Bool, (v13 = (.bool t15) ∧ J11 t15 σ14)))))))))
def M_queue_Check_an : MAn := (.seq (.txt []) (.seq (.seq (.txt []) (.seq (.txt []) (.cond (.seq (.txt []) .leaf) .leaf))) (.seq (.txt []) (.cut ⟨[false], 1, [], []⟩ (.cut ⟨[false], 1, [.slot 20 (.sc (.bool))], []⟩ (.txt [⟨[], false, []⟩, ⟨[], false, []⟩, ⟨[], false, []⟩, ⟨[], true, []⟩]) (.cond (.seq (.txt []) .leaf) .leaf)) (.seq (.txt []) .leaf)))))
set_option maxRecDepth 100000 in
theorem M_queue_Check_ok (σ : Hp) (f_Rides_A : Option Addr) (f_Rides_n : Nat) (f_Rides_c : Nat) (f_Walk : Int) (l_A : Option Addr) (l_n : Nat) (l_c : Nat) (R : Value → Hp → Prop) (h : M_queue_Check σ f_Rides_A f_Rides_n f_Rides_c f_Walk l_A l_n l_c R) : FCalls Try.prog 14 #[(.agg #[(.slice f_Rides_A f_Rides_n f_Rides_c), (.int .i64 f_Walk)]), (.slice l_A l_n l_c)] σ R :=
  fcalls_of_M mixed_Q1 M_queue_Check_an Try.func14 rfl (by kernel_rfl) (by kernel_rfl) (M := M_queue_Check σ f_Rides_A f_Rides_n f_Rides_c f_Walk l_A l_n l_c R) (by kernel_rfl) h
theorem M_queue_Check_enter : enterB Try.prog 14 = true := by kernel_rfl

abbrev N_ref07_Copy : FuncId := 15
/-- waltzer/waltzerref07.Copy -/
def M_ref07_Copy (σ : Hp) (f_Rides_A : Option Addr) (f_Rides_n : Nat) (_ : Nat) (f_Walk : Int) (R : Value → Hp → Prop) : Prop :=
  (((∃ ys1 : List (Int × Int × Int × Int × Bool), RdS [.int .i64, .int .i64, .int .i64, .int .i64, .bool] σ f_Rides_A f_Rides_n ys1 ∧ 
    roomy (List.length ([] : List (Int × Int × Int × Int × Bool)) + List.length ys1) (exl 46 [.int .i64, .int .i64, .int .i64, .int .i64, .bool] (([] : List (Int × Int × Int × Int × Bool)) ++ ys1) σ (fun A2 l2 c2 σ3 => 
    rt σ3 R (.agg #[(.slice A2 l2 c2), (.int .i64 f_Walk)])))) ∧ (∃ ys4 : List (Int × Int × Int × Int × Bool), RdS [.int .i64, .int .i64, .int .i64, .int .i64, .bool] σ f_Rides_A f_Rides_n ys4 ∧ 
    roomy (List.length ([] : List (Int × Int × Int × Int × Bool)) + List.length ys4) (exl 46 [.int .i64, .int .i64, .int .i64, .int .i64, .bool] (([] : List (Int × Int × Int × Int × Bool)) ++ ys4) σ (fun A5 l5 c5 σ6 => 
    rt σ6 R (.agg #[(.slice A5 l5 c5), (.int .i64 f_Walk)]))))) ∧ (∃ ys7 : List (Int × Int × Int × Int × Bool), RdS [.int .i64, .int .i64, .int .i64, .int .i64, .bool] σ f_Rides_A f_Rides_n ys7 ∧ 
    roomy (List.length ([] : List (Int × Int × Int × Int × Bool)) + List.length ys7) (exl 46 [.int .i64, .int .i64, .int .i64, .int .i64, .bool] (([] : List (Int × Int × Int × Int × Bool)) ++ ys7) σ (fun A8 l8 c8 σ9 => 
    rt σ9 R (.agg #[(.slice A8 l8 c8), (.int .i64 f_Walk)])))))
def M_ref07_Copy_an : MAn := (.seq (.txt []) (.seq (.plan [3, 7] (.take 1 ⟨[], false, []⟩ (.take 2 ⟨[], false, []⟩ (.take 4 ⟨[], false, []⟩ (.alt 0 true ⟨[], false, []⟩ (.alt 3 false ⟨[], false, []⟩ (.take 5 ⟨[], false, []⟩ (.take 6 ⟨[], false, []⟩ (.alt 7 false ⟨[], false, []⟩ .done .done))) (.alt 5 true ⟨[], false, []⟩ (.alt 3 false ⟨[], false, []⟩ (.take 6 ⟨[], false, []⟩ (.alt 7 false ⟨[], false, []⟩ .done .done)) .done) .done)) (.alt 5 true ⟨[], false, []⟩ (.alt 0 true ⟨[], false, []⟩ (.alt 3 false ⟨[], false, []⟩ (.take 6 ⟨[], false, []⟩ (.alt 7 false ⟨[], false, []⟩ .done .done)) .done) .done) .done)))))) .leaf))
set_option maxRecDepth 100000 in
theorem M_ref07_Copy_ok (σ : Hp) (f_Rides_A : Option Addr) (f_Rides_n : Nat) (f_Rides_c : Nat) (f_Walk : Int) (R : Value → Hp → Prop) (h : M_ref07_Copy σ f_Rides_A f_Rides_n f_Rides_c f_Walk R) : FCalls Try.prog 15 #[(.agg #[(.slice f_Rides_A f_Rides_n f_Rides_c), (.int .i64 f_Walk)])] σ R :=
  fcalls_of_M mixed_Q1 M_ref07_Copy_an Try.func15 rfl (by kernel_rfl) (by kernel_rfl) (M := M_ref07_Copy σ f_Rides_A f_Rides_n f_Rides_c f_Walk R) (by kernel_rfl) h
theorem M_ref07_Copy_enter : enterB Try.prog 15 = true := by kernel_rfl

abbrev N_ref07_CopyGroups : FuncId := 16
/-- waltzer/waltzerref07.CopyGroups -/
def M_ref07_CopyGroups (σ : Hp) (l_A : Option Addr) (l_n : Nat) (_ : Nat) (R : Value → Hp → Prop) : Prop :=
  ∃ ys1 : List (Int × Int × Int × (Option Addr × Nat × Nat) × Int), RdS [.int .i64, .int .i64, .int .i64, .slc, .int .i64] σ l_A l_n ys1 ∧ 
    roomy (List.length ([] : List (Int × Int × Int × (Option Addr × Nat × Nat) × Int)) + List.length ys1) (cut (α := Option Addr → Nat → Nat → Hp → Prop) (fun A5 l5 c5 σ3 => 
    ∀ _ : Nat → Value, rt σ3 R (.slice A5 l5 c5)) (fun J4 => ∃ I8 : Nat → Option Addr → Nat → Nat → Int → Hp → Prop, (∃ n90, exl 44 [.int .i64, .int .i64, .int .i64, .slc, .int .i64] (([] : List (Int × Int × Int × (Option Addr × Nat × Nat) × Int)) ++ ys1) σ (fun A10 l10 c10 σ11 => 
    I8 n90 A10 l10 c10 0 σ11)) ∧ ∀ n9 : Nat, ∀ A12 : Option Addr, ∀ l12 : Nat, ∀ c12 : Nat, ∀ n13 : Int, ∀ σ7 : Hp, I8 n9 A12 l12 c12 n13 σ7 → ∀ _ : Nat → Value, bc (decide (n13 < ((l12 : Nat) : Int))) (ix A12 l12 n13 5 (fun b14 a15 => 
    ldS σ7 b14 (a15 + 3) (fun A16 l16 _ => ∃ ys17 : List Int, RdS [.int .i64] σ7 A16 l16 ys17 ∧ roomy (List.length ([] : List Int) + List.length ys17) (ix A12 l12 n13 5 (fun b18 a19 => 
    exl 3 [.int .i64] (([] : List Int) ++ ys17) σ7 (fun A20 l20 c20 σ21 => st σ21 b18 (a19 + 3) (.slice A20 l20 c20) (fun σ22 => 
    wk .i64 (n13 + 1) (fun n23 => bk σ22 n9 (fun m24 σ25 => I8 m24 A12 l12 c12 n23 σ25))))))))) (J4 A12 l12 c12 σ7)))
def M_ref07_CopyGroups_an : MAn := (.seq (.txt []) (.seq (.txt []) (.cut ⟨[false], 1, [.slot 3 (.sc (.slc))], []⟩ (.seq (.txt []) (.block (.loop ⟨[false], 1, [.slot 3 (.sc (.slc)), .slot 4 (.sc (.int .i64))], []⟩ (.seq (.seq (.txt []) (.cond .leaf .leaf)) (.seq (.block (.txt [])) (.txt [])))))) (.seq (.txt []) .leaf))))
set_option maxRecDepth 100000 in
theorem M_ref07_CopyGroups_ok (σ : Hp) (l_A : Option Addr) (l_n : Nat) (l_c : Nat) (R : Value → Hp → Prop) (h : M_ref07_CopyGroups σ l_A l_n l_c R) : FCalls Try.prog 16 #[(.slice l_A l_n l_c)] σ R :=
  fcalls_of_M mixed_Q1 M_ref07_CopyGroups_an Try.func16 rfl (by kernel_rfl) (by kernel_rfl) (M := M_ref07_CopyGroups σ l_A l_n l_c R) (by kernel_rfl) h
theorem M_ref07_CopyGroups_enter : enterB Try.prog 16 = true := by kernel_rfl

abbrev N_ref07_Check : FuncId := 17
/-- waltzer/waltzerref07.Check -/
def M_ref07_Check (σ : Hp) (a0_Rides_A : Option Addr) (a0_Rides_n : Nat) (a0_Rides_c : Nat) (a0_Walk : Int) (a1_A : Option Addr) (a1_n : Nat) (_ : Nat) (R : Value → Hp → Prop) : Prop :=
  cl Try.prog (.func (.func 37) #[] #[]) #[(.agg #[(.slice a0_Rides_A a0_Rides_n a0_Rides_c), (.int .i64 a0_Walk)])] σ (fun v1 σ2 => 
    ∃ n3 : Int, (v1 = (.int .i64 n3) ∧ bc (!decide (n3 = 0)) (rt σ2 R (.int .i64 n3)) (bc (decide ((60 : Int) < ((a1_n : Nat) : Int))) (rt σ2 R (.int .i64 71)) (cut (α := Hp → Prop) (fun  σ5 => 
    ∀ _ : Nat → Value, rt σ5 R (.int .i64 0)) (fun J6 => ∃ I9 : Nat → Int → Hp → Prop, (∃ n100, I9 n100 0 σ2) ∧ 
    ∀ n10 : Nat, ∀ n11 : Int, ∀ σ8 : Hp, I9 n10 n11 σ8 → ∀ _ : Nat → Value, bc (decide (n11 < ((a1_n : Nat) : Int))) (cut (α := Hp → Prop) (fun  σ13 => 
    ∀ _ : Nat → Value, wk .i64 (n11 + 1) (fun n15 => bk σ13 n10 (fun m16 σ17 => I9 m16 n15 σ17))) (fun J14 => 
    ix a1_A a1_n n11 5 (fun b18 a19 => ldI σ8 .i64 b18 a19 (fun n20 => ldI σ8 .i64 b18 (a19 + 1) (fun n21 => 
    ldI σ8 .i64 b18 (a19 + 2) (fun n22 => ldS σ8 b18 (a19 + 3) (fun A23 l23 _ => ldI σ8 .i64 b18 (a19 + 4) (fun n24 => 
    cut (α := Hp → Prop) (fun  σ26 => ∀ _ : Nat → Value, ∃ I30 : Nat → Int → Hp → Prop, (∃ n310, I30 n310 0 σ26) ∧ 
    ∀ n31 : Nat, ∀ n32 : Int, ∀ σ29 : Hp, I30 n31 n32 σ29 → ∀ _ : Nat → Value, bc (decide (n32 < ((l23 : Nat) : Int))) (ix A23 l23 n32 1 (fun b33 a34 => 
    ldI σ29 .i64 b33 a34 (fun n35 => wk .i64 (((a0_Rides_n : Nat) : Int) - 1) (fun n36 => cl Try.prog (.func (.func 38) #[] #[]) #[(.int .i64 n35), (.int .i64 0), (.int .i64 n36)] σ29 (fun v37 σ38 => 
    ∃ t39 : Bool, (v37 = (.bool t39) ∧ bc (!t39) (rt σ38 R (.int .i64 71)) (wk .i64 (n32 + 1) (fun n40 => 
    bk σ38 n31 (fun m41 σ42 => I30 m41 n40 σ42))))))))) (J14 σ29)) (fun J27 => cut (α := Bool → Hp → Prop) (fun t46 σ44 => 
    ∀ _ : Nat → Value, bc t46 (rt σ44 R (.int .i64 71)) (J27 σ44)) (fun J45 => cl Try.prog (.func (.func 38) #[] #[]) #[(.int .i64 n20), (.int .i64 0), (.int .i64 2000)] σ8 (fun v47 σ48 => 
    ∃ t49 : Bool, (v47 = (.bool t49) ∧ bc (!t49) (J45 true σ48) (cl Try.prog (.func (.func 38) #[] #[]) #[(.int .i64 n21), (.int .i64 1), (.int .i64 40)] σ48 (fun v50 σ51 => 
    ∃ t52 : Bool, (v50 = (.bool t52) ∧ bc (!t52) (J45 true σ51) (cl Try.prog (.func (.func 38) #[] #[]) #[(.int .i64 n22), (.int .i64 0), (.int .i64 10000)] σ51 (fun v53 σ54 => 
    ∃ t55 : Bool, (v53 = (.bool t55) ∧ bc (!t55) (J45 true σ54) (bc (decide ((10 : Int) < ((l23 : Nat) : Int))) (J45 true σ54) (cl Try.prog (.func (.func 38) #[] #[]) #[(.int .i64 n24), (.int .i64 0), (.int .i64 2000)] σ54 (fun v56 σ57 => 
    ∃ t58 : Bool, (v56 = (.bool t58) ∧ J45 (!t58) σ57)))))))))))))))))))))) (J6 σ8))))))
def M_ref07_Check_an : MAn := (.seq (.txt []) (.seq (.txt []) (.seq (.seq (.txt []) (.cond (.seq (.txt []) .leaf) .leaf)) (.seq (.seq (.txt []) (.cond (.seq (.txt []) .leaf) .leaf)) (.cut ⟨[true], 1, [], []⟩ (.seq (.txt []) (.block (.loop ⟨[true], 1, [.slot 2 (.hb 0 0), .slot 6 (.sc (.int .i64))], [(1, true)]⟩ (.seq (.seq (.txt []) (.cond .leaf .leaf)) (.cut ⟨[true], 1, [.slot 2 (.hb 0 0)], [(1, true), (6, true)]⟩ (.block (.seq (.txt []) (.cut ⟨[true, true], 2, [.slot 2 (.hb 0 0), .slot 7 (.hb 1 0)], [(1, true), (6, true)]⟩ (.cut ⟨[true, true], 2, [.slot 2 (.hb 0 0), .slot 7 (.hb 1 0), .slot 54 (.sc (.bool))], [(1, true), (6, true)]⟩ (.txt [⟨[], false, []⟩, ⟨[], false, []⟩, ⟨[], false, []⟩, ⟨[], false, []⟩, ⟨[], true, []⟩, ⟨[], false, []⟩, ⟨[], false, []⟩, ⟨[], false, []⟩, ⟨[], false, []⟩, ⟨[], false, []⟩, ⟨[], true, []⟩, ⟨[], false, []⟩, ⟨[], false, []⟩, ⟨[], false, []⟩, ⟨[], false, []⟩, ⟨[], false, []⟩, ⟨[], true, []⟩, ⟨[], false, []⟩, ⟨[], false, []⟩, ⟨[], false, []⟩, ⟨[], false, []⟩, ⟨[], false, []⟩, ⟨[], true, []⟩]) (.cond (.seq (.txt []) .leaf) .leaf)) (.seq (.txt []) (.block (.loop ⟨[true, true], 2, [.slot 2 (.hb 0 0), .slot 7 (.hb 1 0), .slot 8 (.sc (.int .i64))], [(1, true), (6, true)]⟩ (.seq (.seq (.txt []) (.cond .leaf .leaf)) (.seq (.block (.seq (.plan [9] (.take 0 ⟨[], false, []⟩ (.take 1 ⟨[], false, []⟩ (.take 2 ⟨[], false, []⟩ (.take 3 ⟨[], false, []⟩ (.take 4 ⟨[], false, []⟩ (.take 5 ⟨[], false, []⟩ (.take 6 ⟨[], false, []⟩ (.take 7 ⟨[], false, []⟩ (.take 8 ⟨[], false, []⟩ (.alt 9 false ⟨[], false, []⟩ (.take 10 ⟨[], false, []⟩ .done) .done))))))))))) (.cond (.seq (.txt []) .leaf) .leaf))) (.txt []))))))))) (.txt [])))))) (.seq (.txt []) .leaf))))))
set_option maxRecDepth 100000 in
theorem M_ref07_Check_ok (σ : Hp) (a0_Rides_A : Option Addr) (a0_Rides_n : Nat) (a0_Rides_c : Nat) (a0_Walk : Int) (a1_A : Option Addr) (a1_n : Nat) (a1_c : Nat) (R : Value → Hp → Prop) (h : M_ref07_Check σ a0_Rides_A a0_Rides_n a0_Rides_c a0_Walk a1_A a1_n a1_c R) : FCalls Try.prog 17 #[(.agg #[(.slice a0_Rides_A a0_Rides_n a0_Rides_c), (.int .i64 a0_Walk)]), (.slice a1_A a1_n a1_c)] σ R :=
  fcalls_of_M mixed_Q1 M_ref07_Check_an Try.func17 rfl (by kernel_rfl) (by kernel_rfl) (M := M_ref07_Check σ a0_Rides_A a0_Rides_n a0_Rides_c a0_Walk a1_A a1_n a1_c R) (by kernel_rfl) h
theorem M_ref07_Check_enter : enterB Try.prog 17 = true := by kernel_rfl

abbrev N_queue_Home : FuncId := 18
/-- waltzer/queue.Home -/
def M_queue_Home (σ : Hp) (f_Rides_A : Option Addr) (f_Rides_n : Nat) (f_Rides_c : Nat) (f_Walk : Int) (l_A : Option Addr) (l_n : Nat) (l_c : Nat) (R : Value → Hp → Prop) : Prop :=
  cl Try.prog (.func (.func 39) #[] #[]) #[(.agg #[(.slice f_Rides_A f_Rides_n f_Rides_c), (.int .i64 f_Walk)]), (.slice l_A l_n l_c), (.func (.func 40) #[] #[]), (.func (.func 41) #[] #[])] σ (fun v1 σ2 => 
    ∃ A3 : Option Addr, ∃ l3 : Nat, ∃ c3 : Nat, ∃ n4 : Int, (v1 = (.tuple #[(.slice A3 l3 c3), (.int .i64 n4)]) ∧ 
    rt σ2 R (.tuple #[(.slice A3 l3 c3), (.int .i64 n4)])))
def M_queue_Home_an : MAn := (.seq (.txt []) (.seq (.txt []) .leaf))
set_option maxRecDepth 100000 in
theorem M_queue_Home_ok (σ : Hp) (f_Rides_A : Option Addr) (f_Rides_n : Nat) (f_Rides_c : Nat) (f_Walk : Int) (l_A : Option Addr) (l_n : Nat) (l_c : Nat) (R : Value → Hp → Prop) (h : M_queue_Home σ f_Rides_A f_Rides_n f_Rides_c f_Walk l_A l_n l_c R) : FCalls Try.prog 18 #[(.agg #[(.slice f_Rides_A f_Rides_n f_Rides_c), (.int .i64 f_Walk)]), (.slice l_A l_n l_c)] σ R :=
  fcalls_of_M mixed_Q1 M_queue_Home_an Try.func18 rfl (by kernel_rfl) (by kernel_rfl) (M := M_queue_Home σ f_Rides_A f_Rides_n f_Rides_c f_Walk l_A l_n l_c R) (by kernel_rfl) h
theorem M_queue_Home_enter : enterB Try.prog 18 = true := by kernel_rfl

abbrev N_ref07_Home : FuncId := 19
/-- waltzer/waltzerref07.Home -/
def M_ref07_Home (σ : Hp) (f_Rides_A : Option Addr) (f_Rides_n : Nat) (f_Rides_c : Nat) (f_Walk : Int) (l_A : Option Addr) (l_n : Nat) (l_c : Nat) (R : Value → Hp → Prop) : Prop :=
  cl Try.prog (.func (.func 17) #[] #[]) #[(.agg #[(.slice f_Rides_A f_Rides_n f_Rides_c), (.int .i64 f_Walk)]), (.slice l_A l_n l_c)] σ (fun v1 σ2 => 
    ∃ n3 : Int, (v1 = (.int .i64 n3) ∧ bc (!decide (n3 = 0)) (rt σ2 R (.tuple #[(.slice none 0 0), (.int .i64 n3)])) (cl Try.prog (.func (.func 42) #[] #[]) #[(.agg #[(.slice f_Rides_A f_Rides_n f_Rides_c), (.int .i64 f_Walk)]), (.slice l_A l_n l_c)] σ2 (fun v4 σ5 => 
    ∃ p6 : Option Addr, (v4 = (.pointer p6) ∧ dr p6 (fun b7 o8 => ldS σ5 b7 (o8 + 11) (fun A9 l9 c9 => rt σ5 R (.tuple #[(.slice A9 l9 c9), (.int .i64 0)]))))))))
def M_ref07_Home_an : MAn := (.seq (.txt []) (.seq (.txt []) (.seq (.seq (.txt []) (.cond (.seq (.txt []) .leaf) .leaf)) (.seq (.txt []) .leaf))))
set_option maxRecDepth 100000 in
theorem M_ref07_Home_ok (σ : Hp) (f_Rides_A : Option Addr) (f_Rides_n : Nat) (f_Rides_c : Nat) (f_Walk : Int) (l_A : Option Addr) (l_n : Nat) (l_c : Nat) (R : Value → Hp → Prop) (h : M_ref07_Home σ f_Rides_A f_Rides_n f_Rides_c f_Walk l_A l_n l_c R) : FCalls Try.prog 19 #[(.agg #[(.slice f_Rides_A f_Rides_n f_Rides_c), (.int .i64 f_Walk)]), (.slice l_A l_n l_c)] σ R :=
  fcalls_of_M mixed_Q1 M_ref07_Home_an Try.func19 rfl (by kernel_rfl) (by kernel_rfl) (M := M_ref07_Home σ f_Rides_A f_Rides_n f_Rides_c f_Walk l_A l_n l_c R) (by kernel_rfl) h
theorem M_ref07_Home_enter : enterB Try.prog 19 = true := by kernel_rfl

abbrev N_law07_sameInts : FuncId := 20
/-- waltzer/waltzerlaw07.sameInts -/
def M_law07_sameInts (σ : Hp) (a_A : Option Addr) (a_n : Nat) (_ : Nat) (b_A : Option Addr) (b_n : Nat) (_ : Nat) (R : Value → Hp → Prop) : Prop :=
  bc (!decide (((a_n : Nat) : Int) = ((b_n : Nat) : Int))) (rt σ R (.bool false)) (cut (α := Hp → Prop) (fun  σ2 => 
    ∀ _ : Nat → Value, rt σ2 R (.bool true)) (fun J3 => ∃ I6 : Nat → Int → Hp → Prop, (∃ n70, I6 n70 0 σ) ∧ 
    ∀ n7 : Nat, ∀ n8 : Int, ∀ σ5 : Hp, I6 n7 n8 σ5 → ∀ _ : Nat → Value, bc (decide (n8 < ((a_n : Nat) : Int))) (ix a_A a_n n8 1 (fun b9 a10 => 
    ldI σ5 .i64 b9 a10 (fun n11 => ix b_A b_n n8 1 (fun b12 a13 => ldI σ5 .i64 b12 a13 (fun n14 => bc (!decide (n11 = n14)) (rt σ5 R (.bool false)) (wk .i64 (n8 + 1) (fun n15 => 
    bk σ5 n7 (fun m16 σ17 => I6 m16 n15 σ17)))))))) (J3 σ5)))
def M_law07_sameInts_an : MAn := (.seq (.txt []) (.seq (.seq (.txt []) (.cond (.seq (.txt []) .leaf) .leaf)) (.cut ⟨[], 0, [], []⟩ (.seq (.txt []) (.block (.loop ⟨[], 0, [.slot 5 (.sc (.int .i64))], [(0, true), (1, true)]⟩ (.seq (.seq (.txt []) (.cond .leaf .leaf)) (.seq (.block (.seq (.plan [] (.take 0 ⟨[], false, []⟩ (.take 1 ⟨[], false, []⟩ (.take 2 ⟨[], false, []⟩ (.take 3 ⟨[], false, []⟩ (.take 4 ⟨[], false, []⟩ (.take 5 ⟨[], false, []⟩ (.take 6 ⟨[], false, []⟩ (.take 7 ⟨[], false, []⟩ (.take 8 ⟨[], false, []⟩ .done)))))))))) (.cond (.seq (.txt []) .leaf) .leaf))) (.txt [])))))) (.seq (.txt []) .leaf))))
set_option maxRecDepth 100000 in
theorem M_law07_sameInts_ok (σ : Hp) (a_A : Option Addr) (a_n : Nat) (a_c : Nat) (b_A : Option Addr) (b_n : Nat) (b_c : Nat) (R : Value → Hp → Prop) (h : M_law07_sameInts σ a_A a_n a_c b_A b_n b_c R) : FCalls Try.prog 20 #[(.slice a_A a_n a_c), (.slice b_A b_n b_c)] σ R :=
  fcalls_of_M mixed_Q1 M_law07_sameInts_an Try.func20 rfl (by kernel_rfl) (by kernel_rfl) (M := M_law07_sameInts σ a_A a_n a_c b_A b_n b_c R) (by kernel_rfl) h
theorem M_law07_sameInts_enter : enterB Try.prog 20 = true := by kernel_rfl

abbrev N_queue_Takes : FuncId := 21
/-- waltzer/queue.Takes -/
def M_queue_Takes (σ : Hp) (f_Rides_A : Option Addr) (f_Rides_n : Nat) (f_Rides_c : Nat) (f_Walk : Int) (l_A : Option Addr) (l_n : Nat) (l_c : Nat) (R : Value → Hp → Prop) : Prop :=
  cl Try.prog (.func (.func 43) #[] #[]) #[(.agg #[(.slice f_Rides_A f_Rides_n f_Rides_c), (.int .i64 f_Walk)]), (.slice l_A l_n l_c), (.func (.func 44) #[] #[]), (.func (.func 45) #[] #[])] σ (fun v1 σ2 => 
    ∃ A3 : Option Addr, ∃ l3 : Nat, ∃ c3 : Nat, ∃ n4 : Int, (v1 = (.tuple #[(.slice A3 l3 c3), (.int .i64 n4)]) ∧ 
    rt σ2 R (.tuple #[(.slice A3 l3 c3), (.int .i64 n4)])))
def M_queue_Takes_an : MAn := (.seq (.txt []) (.seq (.txt []) .leaf))
set_option maxRecDepth 100000 in
theorem M_queue_Takes_ok (σ : Hp) (f_Rides_A : Option Addr) (f_Rides_n : Nat) (f_Rides_c : Nat) (f_Walk : Int) (l_A : Option Addr) (l_n : Nat) (l_c : Nat) (R : Value → Hp → Prop) (h : M_queue_Takes σ f_Rides_A f_Rides_n f_Rides_c f_Walk l_A l_n l_c R) : FCalls Try.prog 21 #[(.agg #[(.slice f_Rides_A f_Rides_n f_Rides_c), (.int .i64 f_Walk)]), (.slice l_A l_n l_c)] σ R :=
  fcalls_of_M mixed_Q1 M_queue_Takes_an Try.func21 rfl (by kernel_rfl) (by kernel_rfl) (M := M_queue_Takes σ f_Rides_A f_Rides_n f_Rides_c f_Walk l_A l_n l_c R) (by kernel_rfl) h
theorem M_queue_Takes_enter : enterB Try.prog 21 = true := by kernel_rfl

abbrev N_ref07_Takes : FuncId := 22
/-- waltzer/waltzerref07.Takes -/
def M_ref07_Takes (σ : Hp) (f_Rides_A : Option Addr) (f_Rides_n : Nat) (f_Rides_c : Nat) (f_Walk : Int) (l_A : Option Addr) (l_n : Nat) (l_c : Nat) (R : Value → Hp → Prop) : Prop :=
  cl Try.prog (.func (.func 17) #[] #[]) #[(.agg #[(.slice f_Rides_A f_Rides_n f_Rides_c), (.int .i64 f_Walk)]), (.slice l_A l_n l_c)] σ (fun v1 σ2 => 
    ∃ n3 : Int, (v1 = (.int .i64 n3) ∧ bc (!decide (n3 = 0)) (rt σ2 R (.tuple #[(.slice none 0 0), (.int .i64 n3)])) (cl Try.prog (.func (.func 42) #[] #[]) #[(.agg #[(.slice f_Rides_A f_Rides_n f_Rides_c), (.int .i64 f_Walk)]), (.slice l_A l_n l_c)] σ2 (fun v4 σ5 => 
    ∃ p6 : Option Addr, (v4 = (.pointer p6) ∧ dr p6 (fun b7 o8 => ldS σ5 b7 (o8 + 9) (fun A9 l9 c9 => rt σ5 R (.tuple #[(.slice A9 l9 c9), (.int .i64 0)]))))))))
def M_ref07_Takes_an : MAn := (.seq (.txt []) (.seq (.txt []) (.seq (.seq (.txt []) (.cond (.seq (.txt []) .leaf) .leaf)) (.seq (.txt []) .leaf))))
set_option maxRecDepth 100000 in
theorem M_ref07_Takes_ok (σ : Hp) (f_Rides_A : Option Addr) (f_Rides_n : Nat) (f_Rides_c : Nat) (f_Walk : Int) (l_A : Option Addr) (l_n : Nat) (l_c : Nat) (R : Value → Hp → Prop) (h : M_ref07_Takes σ f_Rides_A f_Rides_n f_Rides_c f_Walk l_A l_n l_c R) : FCalls Try.prog 22 #[(.agg #[(.slice f_Rides_A f_Rides_n f_Rides_c), (.int .i64 f_Walk)]), (.slice l_A l_n l_c)] σ R :=
  fcalls_of_M mixed_Q1 M_ref07_Takes_an Try.func22 rfl (by kernel_rfl) (by kernel_rfl) (M := M_ref07_Takes σ f_Rides_A f_Rides_n f_Rides_c f_Walk l_A l_n l_c R) (by kernel_rfl) h
theorem M_ref07_Takes_enter : enterB Try.prog 22 = true := by kernel_rfl

abbrev N_queue_Held : FuncId := 23
/-- waltzer/queue.Held -/
def M_queue_Held (σ : Hp) (f_Rides_A : Option Addr) (f_Rides_n : Nat) (f_Rides_c : Nat) (f_Walk : Int) (l_A : Option Addr) (l_n : Nat) (l_c : Nat) (R : Value → Hp → Prop) : Prop :=
  cl Try.prog (.func (.func 39) #[] #[]) #[(.agg #[(.slice f_Rides_A f_Rides_n f_Rides_c), (.int .i64 f_Walk)]), (.slice l_A l_n l_c), (.func (.func 40) #[] #[]), (.func (.func 46) #[] #[])] σ (fun v1 σ2 => 
    ∃ A3 : Option Addr, ∃ l3 : Nat, ∃ c3 : Nat, ∃ n4 : Int, (v1 = (.tuple #[(.slice A3 l3 c3), (.int .i64 n4)]) ∧ 
    rt σ2 R (.tuple #[(.slice A3 l3 c3), (.int .i64 n4)])))
def M_queue_Held_an : MAn := (.seq (.txt []) (.seq (.txt []) .leaf))
set_option maxRecDepth 100000 in
theorem M_queue_Held_ok (σ : Hp) (f_Rides_A : Option Addr) (f_Rides_n : Nat) (f_Rides_c : Nat) (f_Walk : Int) (l_A : Option Addr) (l_n : Nat) (l_c : Nat) (R : Value → Hp → Prop) (h : M_queue_Held σ f_Rides_A f_Rides_n f_Rides_c f_Walk l_A l_n l_c R) : FCalls Try.prog 23 #[(.agg #[(.slice f_Rides_A f_Rides_n f_Rides_c), (.int .i64 f_Walk)]), (.slice l_A l_n l_c)] σ R :=
  fcalls_of_M mixed_Q1 M_queue_Held_an Try.func23 rfl (by kernel_rfl) (by kernel_rfl) (M := M_queue_Held σ f_Rides_A f_Rides_n f_Rides_c f_Walk l_A l_n l_c R) (by kernel_rfl) h
theorem M_queue_Held_enter : enterB Try.prog 23 = true := by kernel_rfl

abbrev N_ref07_Held : FuncId := 24
/-- waltzer/waltzerref07.Held -/
def M_ref07_Held (σ : Hp) (f_Rides_A : Option Addr) (f_Rides_n : Nat) (f_Rides_c : Nat) (f_Walk : Int) (l_A : Option Addr) (l_n : Nat) (l_c : Nat) (R : Value → Hp → Prop) : Prop :=
  cl Try.prog (.func (.func 17) #[] #[]) #[(.agg #[(.slice f_Rides_A f_Rides_n f_Rides_c), (.int .i64 f_Walk)]), (.slice l_A l_n l_c)] σ (fun v1 σ2 => 
    ∃ n3 : Int, (v1 = (.int .i64 n3) ∧ bc (!decide (n3 = 0)) (rt σ2 R (.tuple #[(.slice none 0 0), (.int .i64 n3)])) (cl Try.prog (.func (.func 42) #[] #[]) #[(.agg #[(.slice f_Rides_A f_Rides_n f_Rides_c), (.int .i64 f_Walk)]), (.slice l_A l_n l_c)] σ2 (fun v4 σ5 => 
    ∃ p6 : Option Addr, (v4 = (.pointer p6) ∧ cut (α := List Int → Hp → Prop) (fun xs10 σ8 => ∀ _ : Nat → Value, 
    exl 3 [.int .i64] xs10 σ8 (fun A11 l11 c11 σ12 => rt σ12 R (.tuple #[(.slice A11 l11 c11), (.int .i64 0)]))) (fun J9 => 
    ∃ I15 : Nat → List Int → Int → Hp → Prop, (∃ n160, adp 3 [.int .i64] none 0 0 σ5 (fun (xs17 : List Int) σ18 => 
    I15 n160 xs17 0 σ18)) ∧ ∀ n16 : Nat, ∀ xs19 : List Int, ∀ n20 : Int, ∀ σ14 : Hp, I15 n16 xs19 n20 σ14 → ∀ _ : Nat → Value, bc (decide (n20 < ((l_n : Nat) : Int))) (dr p6 (fun b21 o22 => 
    ldS σ14 b21 (o22 + 4) (fun A23 l23 _ => ix A23 l23 n20 4 (fun b24 a25 => ldI σ14 .i64 b24 (a25 + 3) (fun n26 => 
    roomy (List.length xs19 + List.length ([n26] : List Int)) (wk .i64 (n20 + 1) (fun n27 => bk σ14 n16 (fun m28 σ29 => 
    I15 m28 (xs19 ++ ([n26] : List Int)) n27 σ29)))))))) (J9 xs19 σ14)))))))
def M_ref07_Held_an : MAn := (.seq (.txt []) (.seq (.txt []) (.seq (.seq (.txt []) (.cond (.seq (.txt []) .leaf) .leaf)) (.seq (.txt []) (.seq (.txt []) (.cut ⟨[true], 2, [.slot 8 (.lst 1 3 [.int .i64])], []⟩ (.seq (.txt []) (.block (.loop ⟨[true], 2, [.slot 8 (.lst 1 3 [.int .i64]), .slot 9 (.sc (.int .i64))], [(1, true), (7, true)]⟩ (.seq (.seq (.txt []) (.cond .leaf .leaf)) (.seq (.block (.txt [])) (.txt [])))))) (.seq (.txt []) .leaf)))))))
set_option maxRecDepth 100000 in
theorem M_ref07_Held_ok (σ : Hp) (f_Rides_A : Option Addr) (f_Rides_n : Nat) (f_Rides_c : Nat) (f_Walk : Int) (l_A : Option Addr) (l_n : Nat) (l_c : Nat) (R : Value → Hp → Prop) (h : M_ref07_Held σ f_Rides_A f_Rides_n f_Rides_c f_Walk l_A l_n l_c R) : FCalls Try.prog 24 #[(.agg #[(.slice f_Rides_A f_Rides_n f_Rides_c), (.int .i64 f_Walk)]), (.slice l_A l_n l_c)] σ R :=
  fcalls_of_M mixed_Q1 M_ref07_Held_an Try.func24 rfl (by kernel_rfl) (by kernel_rfl) (M := M_ref07_Held σ f_Rides_A f_Rides_n f_Rides_c f_Walk l_A l_n l_c R) (by kernel_rfl) h
theorem M_ref07_Held_enter : enterB Try.prog 24 = true := by kernel_rfl

abbrev N_queue_Play : FuncId := 25
/-- waltzer/queue.Play -/
def M_queue_Play (σ : Hp) (f_Rides_A : Option Addr) (f_Rides_n : Nat) (f_Rides_c : Nat) (f_Walk : Int) (l_A : Option Addr) (l_n : Nat) (l_c : Nat) (R : Value → Hp → Prop) : Prop :=
  cl Try.prog (.func (.func 14) #[] #[]) #[(.agg #[(.slice f_Rides_A f_Rides_n f_Rides_c), (.int .i64 f_Walk)]), (.slice l_A l_n l_c)] σ (fun v1 σ2 => 
    ∃ n3 : Int, (v1 = (.int .i64 n3) ∧ bc (!decide (n3 = 0)) (rt σ2 R (.tuple #[(.slice none 0 0), (.int .i64 n3)])) (cl Try.prog (.func (.func 47) #[] #[]) #[(.agg #[(.slice f_Rides_A f_Rides_n f_Rides_c), (.int .i64 f_Walk)]), (.slice l_A l_n l_c)] σ2 (fun v4 σ5 => 
    ∃ p6 : Option Addr, (v4 = (.pointer p6) ∧ dr p6 (fun b7 o8 => ldS σ5 b7 (o8 + 4) (fun A9 l9 c9 => rt σ5 R (.tuple #[(.slice A9 l9 c9), (.int .i64 0)]))))))))
def M_queue_Play_an : MAn := (.seq (.txt []) (.seq (.seq (.txt []) (.seq (.txt []) (.cond (.seq (.txt []) .leaf) .leaf))) (.seq (.txt []) .leaf)))
set_option maxRecDepth 100000 in
theorem M_queue_Play_ok (σ : Hp) (f_Rides_A : Option Addr) (f_Rides_n : Nat) (f_Rides_c : Nat) (f_Walk : Int) (l_A : Option Addr) (l_n : Nat) (l_c : Nat) (R : Value → Hp → Prop) (h : M_queue_Play σ f_Rides_A f_Rides_n f_Rides_c f_Walk l_A l_n l_c R) : FCalls Try.prog 25 #[(.agg #[(.slice f_Rides_A f_Rides_n f_Rides_c), (.int .i64 f_Walk)]), (.slice l_A l_n l_c)] σ R :=
  fcalls_of_M mixed_Q1 M_queue_Play_an Try.func25 rfl (by kernel_rfl) (by kernel_rfl) (M := M_queue_Play σ f_Rides_A f_Rides_n f_Rides_c f_Walk l_A l_n l_c R) (by kernel_rfl) h
theorem M_queue_Play_enter : enterB Try.prog 25 = true := by kernel_rfl

abbrev N_ref07_Play : FuncId := 26
/-- waltzer/waltzerref07.Play -/
def M_ref07_Play (σ : Hp) (f_Rides_A : Option Addr) (f_Rides_n : Nat) (f_Rides_c : Nat) (f_Walk : Int) (l_A : Option Addr) (l_n : Nat) (l_c : Nat) (R : Value → Hp → Prop) : Prop :=
  cl Try.prog (.func (.func 17) #[] #[]) #[(.agg #[(.slice f_Rides_A f_Rides_n f_Rides_c), (.int .i64 f_Walk)]), (.slice l_A l_n l_c)] σ (fun v1 σ2 => 
    ∃ n3 : Int, (v1 = (.int .i64 n3) ∧ bc (!decide (n3 = 0)) (rt σ2 R (.tuple #[(.slice none 0 0), (.int .i64 n3)])) (cl Try.prog (.func (.func 42) #[] #[]) #[(.agg #[(.slice f_Rides_A f_Rides_n f_Rides_c), (.int .i64 f_Walk)]), (.slice l_A l_n l_c)] σ2 (fun v4 σ5 => 
    ∃ p6 : Option Addr, (v4 = (.pointer p6) ∧ dr p6 (fun b7 o8 => ldS σ5 b7 (o8 + 8) (fun A9 l9 c9 => cut (α := Hp → Prop) (fun  σ11 => 
    ∀ _ : Nat → Value, rt σ11 R (.tuple #[(.slice A9 l9 c9), (.int .i64 0)])) (fun J12 => ∃ I15 : Nat → Int → Hp → Prop, (∃ n160, I15 n160 1 σ5) ∧ 
    ∀ n16 : Nat, ∀ n17 : Int, ∀ σ14 : Hp, I15 n16 n17 σ14 → ∀ _ : Nat → Value, bc (decide (n17 < ((l9 : Nat) : Int))) (cut (α := Hp → Prop) (fun  σ19 => 
    ∀ _ : Nat → Value, wk .i64 (n17 + 1) (fun n21 => bk σ19 n16 (fun m22 σ23 => I15 m22 n21 σ23))) (fun J20 => 
    ∃ I26 : Nat → Int → Hp → Prop, (∃ n270, I26 n270 n17 σ14) ∧ ∀ n27 : Nat, ∀ n28 : Int, ∀ σ25 : Hp, I26 n27 n28 σ25 → ∀ _ : Nat → Value, cut (α := Hp → Prop) (fun  σ30 => 
    ∀ _ : Nat → Value, wk .i64 (n28 - 1) (fun n32 => wk .i64 (n28 - 1) (fun n33 => ix A9 l9 n33 6 (fun b34 a35 => 
    ldI σ30 .i64 b34 a35 (fun n36 => ldI σ30 .i64 b34 (a35 + 1) (fun n37 => ldI σ30 .i64 b34 (a35 + 2) (fun n38 => 
    ldB σ30 b34 (a35 + 3) (fun t39 => ldI σ30 .i64 b34 (a35 + 4) (fun n40 => ldI σ30 .i64 b34 (a35 + 5) (fun n41 => 
    ix A9 l9 n28 6 (fun b42 a43 => ldI σ30 .i64 b42 a43 (fun n44 => ldI σ30 .i64 b42 (a43 + 1) (fun n45 => 
    ldI σ30 .i64 b42 (a43 + 2) (fun n46 => ldB σ30 b42 (a43 + 3) (fun t47 => ldI σ30 .i64 b42 (a43 + 4) (fun n48 => 
    ldI σ30 .i64 b42 (a43 + 5) (fun n49 => ix A9 l9 n28 6 (fun b50 a51 => st σ30 b50 a51 (.int .i64 n36) (fun σ52 => 
    st σ52 b50 (a51 + 1) (.int .i64 n37) (fun σ53 => st σ53 b50 (a51 + 2) (.int .i64 n38) (fun σ54 => st σ54 b50 (a51 + 3) (.bool t39) (fun σ55 => 
    st σ55 b50 (a51 + 4) (.int .i64 n40) (fun σ56 => st σ56 b50 (a51 + 5) (.int .i64 n41) (fun σ57 => ix A9 l9 n32 6 (fun b58 a59 => 
    st σ57 b58 a59 (.int .i64 n44) (fun σ60 => st σ60 b58 (a59 + 1) (.int .i64 n45) (fun σ61 => st σ61 b58 (a59 + 2) (.int .i64 n46) (fun σ62 => 
    st σ62 b58 (a59 + 3) (.bool t47) (fun σ63 => st σ63 b58 (a59 + 4) (.int .i64 n48) (fun σ64 => st σ64 b58 (a59 + 5) (.int .i64 n49) (fun σ65 => 
    wk .i64 (n28 - 1) (fun n66 => bk σ65 n27 (fun m67 σ68 => I26 m67 n66 σ68))))))))))))))))))))))))))))))))) (fun J31 => 
    cut (α := Bool → Hp → Prop) (fun t72 σ70 => ∀ _ : Nat → Value, bc t72 (J31 σ70) (J20 σ70)) (fun J71 => 
    bc (decide ((0 : Int) < n28)) (ix A9 l9 n28 6 (fun b73 a74 => ldI σ25 .i64 b73 a74 (fun n75 => ldI σ25 .i64 b73 (a74 + 1) (fun n76 => 
    ldI σ25 .i64 b73 (a74 + 2) (fun n77 => ldB σ25 b73 (a74 + 3) (fun t78 => ldI σ25 .i64 b73 (a74 + 4) (fun n79 => 
    ldI σ25 .i64 b73 (a74 + 5) (fun n80 => wk .i64 (n28 - 1) (fun n81 => ix A9 l9 n81 6 (fun b82 a83 => ldI σ25 .i64 b82 a83 (fun n84 => 
    ldI σ25 .i64 b82 (a83 + 1) (fun n85 => ldI σ25 .i64 b82 (a83 + 2) (fun n86 => ldB σ25 b82 (a83 + 3) (fun t87 => 
    ldI σ25 .i64 b82 (a83 + 4) (fun n88 => ldI σ25 .i64 b82 (a83 + 5) (fun n89 => cl Try.prog (.func (.func 48) #[] #[]) #[(.agg #[(.int .i64 n75), (.int .i64 n76), (.int .i64 n77), (.bool t78), (.int .i64 n79), (.int .i64 n80)]), (.agg #[(.int .i64 n84), (.int .i64 n85), (.int .i64 n86), (.bool t87), (.int .i64 n88), (.int .i64 n89)])] σ25 (fun v90 σ91 => 
    ∃ t92 : Bool, (v90 = (.bool t92) ∧ J71 t92 σ91)))))))))))))))))) (J71 false σ25))))) (J12 σ14)))))))))
def M_ref07_Play_an : MAn := (.seq (.txt []) (.seq (.txt []) (.seq (.seq (.txt []) (.cond (.seq (.txt []) .leaf) .leaf)) (.seq (.txt []) (.cut ⟨[true], 1, [], [(7, true)]⟩ (.seq (.txt []) (.block (.loop ⟨[true], 1, [.slot 8 (.sc (.int .i64))], [(7, true)]⟩ (.seq (.seq (.txt []) (.cond .leaf .leaf)) (.cut ⟨[true], 1, [], [(7, true), (8, true)]⟩ (.block (.seq (.txt []) (.block (.loop ⟨[true], 1, [.slot 9 (.sc (.int .i64))], [(7, true), (8, true)]⟩ (.cut ⟨[true], 1, [], [(7, true), (8, true), (9, true)]⟩ (.cut ⟨[true], 1, [.slot 42 (.sc (.bool))], [(7, true), (8, true), (9, true)]⟩ (.plan [12] (.take 0 ⟨[], false, []⟩ (.take 1 ⟨[], false, []⟩ (.take 2 ⟨[], true, []⟩ (.take 3 ⟨[], false, []⟩ (.take 4 ⟨[], false, []⟩ (.take 5 ⟨[], false, []⟩ (.take 6 ⟨[], false, []⟩ (.take 7 ⟨[], false, []⟩ (.take 8 ⟨[], false, []⟩ (.take 9 ⟨[], false, []⟩ (.take 10 ⟨[], false, []⟩ (.take 11 ⟨[], false, []⟩ (.alt 12 false ⟨[], false, []⟩ (.take 13 ⟨[], false, []⟩ .done) .done)))))))))))))) (.cond .leaf .leaf)) (.seq (.block (.plan [15, 17] (.take 0 ⟨[], false, []⟩ (.take 1 ⟨[], false, []⟩ (.take 2 ⟨[], false, []⟩ (.take 3 ⟨[], false, []⟩ (.take 4 ⟨[], false, []⟩ (.take 5 ⟨[], false, []⟩ (.take 6 ⟨[], false, []⟩ (.take 7 ⟨[], false, []⟩ (.take 8 ⟨[], false, []⟩ (.take 9 ⟨[], false, []⟩ (.take 10 ⟨[], false, []⟩ (.take 11 ⟨[], false, []⟩ (.take 12 ⟨[], false, []⟩ (.take 13 ⟨[], false, []⟩ (.take 14 ⟨[], false, []⟩ (.alt 15 false ⟨[], false, []⟩ (.take 16 ⟨[], false, []⟩ (.alt 17 false ⟨[], false, []⟩ .done .done)) .done)))))))))))))))))) (.txt []))))))) (.txt [])))))) (.seq (.txt []) .leaf))))))
set_option maxRecDepth 100000 in
theorem M_ref07_Play_ok (σ : Hp) (f_Rides_A : Option Addr) (f_Rides_n : Nat) (f_Rides_c : Nat) (f_Walk : Int) (l_A : Option Addr) (l_n : Nat) (l_c : Nat) (R : Value → Hp → Prop) (h : M_ref07_Play σ f_Rides_A f_Rides_n f_Rides_c f_Walk l_A l_n l_c R) : FCalls Try.prog 26 #[(.agg #[(.slice f_Rides_A f_Rides_n f_Rides_c), (.int .i64 f_Walk)]), (.slice l_A l_n l_c)] σ R :=
  fcalls_of_M mixed_Q1 M_ref07_Play_an Try.func26 rfl (by kernel_rfl) (by kernel_rfl) (M := M_ref07_Play σ f_Rides_A f_Rides_n f_Rides_c f_Walk l_A l_n l_c R) (by kernel_rfl) h
theorem M_ref07_Play_enter : enterB Try.prog 26 = true := by kernel_rfl

abbrev N_law07_sameVisits : FuncId := 27
/-- waltzer/waltzerlaw07.sameVisits -/
def M_law07_sameVisits (σ : Hp) (a_A : Option Addr) (a_n : Nat) (_ : Nat) (b_A : Option Addr) (b_n : Nat) (_ : Nat) (R : Value → Hp → Prop) : Prop :=
  bc (!decide (((a_n : Nat) : Int) = ((b_n : Nat) : Int))) (rt σ R (.bool false)) (cut (α := Hp → Prop) (fun  σ2 => 
    ∀ _ : Nat → Value, rt σ2 R (.bool true)) (fun J3 => ∃ I6 : Nat → Int → Hp → Prop, (∃ n70, I6 n70 0 σ) ∧ 
    ∀ n7 : Nat, ∀ n8 : Int, ∀ σ5 : Hp, I6 n7 n8 σ5 → ∀ _ : Nat → Value, bc (decide (n8 < ((a_n : Nat) : Int))) (ix a_A a_n n8 6 (fun b9 a10 => 
    ldI σ5 .i64 b9 a10 (fun n11 => ldI σ5 .i64 b9 (a10 + 1) (fun n12 => ldI σ5 .i64 b9 (a10 + 2) (fun n13 => 
    ldB σ5 b9 (a10 + 3) (fun t14 => ldI σ5 .i64 b9 (a10 + 4) (fun n15 => ldI σ5 .i64 b9 (a10 + 5) (fun n16 => 
    ix b_A b_n n8 6 (fun b17 a18 => ldI σ5 .i64 b17 a18 (fun n19 => ldI σ5 .i64 b17 (a18 + 1) (fun n20 => 
    ldI σ5 .i64 b17 (a18 + 2) (fun n21 => ldB σ5 b17 (a18 + 3) (fun t22 => ldI σ5 .i64 b17 (a18 + 4) (fun n23 => 
    ldI σ5 .i64 b17 (a18 + 5) (fun n24 => bc (!(decide (n11 = n19) && (decide (n12 = n20) && (decide (n13 = n21) && ((t14 == t22) && (decide (n15 = n23) && decide (n16 = n24))))))) (rt σ5 R (.bool false)) (wk .i64 (n8 + 1) (fun n25 => 
    bk σ5 n7 (fun m26 σ27 => I6 m26 n25 σ27)))))))))))))))))) (J3 σ5)))
def M_law07_sameVisits_an : MAn := (.seq (.txt []) (.seq (.seq (.txt []) (.cond (.seq (.txt []) .leaf) .leaf)) (.cut ⟨[], 0, [], []⟩ (.seq (.txt []) (.block (.loop ⟨[], 0, [.slot 5 (.sc (.int .i64))], [(0, true), (1, true)]⟩ (.seq (.seq (.txt []) (.cond .leaf .leaf)) (.seq (.block (.seq (.plan [] (.take 0 ⟨[], false, []⟩ (.take 1 ⟨[], false, []⟩ (.take 2 ⟨[], false, []⟩ (.take 3 ⟨[], false, []⟩ (.take 4 ⟨[], false, []⟩ (.take 5 ⟨[], false, []⟩ (.take 6 ⟨[], false, []⟩ (.take 7 ⟨[], false, []⟩ (.take 8 ⟨[], false, []⟩ .done)))))))))) (.cond (.seq (.txt []) .leaf) .leaf))) (.txt [])))))) (.seq (.txt []) .leaf))))
set_option maxRecDepth 100000 in
theorem M_law07_sameVisits_ok (σ : Hp) (a_A : Option Addr) (a_n : Nat) (a_c : Nat) (b_A : Option Addr) (b_n : Nat) (b_c : Nat) (R : Value → Hp → Prop) (h : M_law07_sameVisits σ a_A a_n a_c b_A b_n b_c R) : FCalls Try.prog 27 #[(.slice a_A a_n a_c), (.slice b_A b_n b_c)] σ R :=
  fcalls_of_M mixed_Q1 M_law07_sameVisits_an Try.func27 rfl (by kernel_rfl) (by kernel_rfl) (M := M_law07_sameVisits σ a_A a_n a_c b_A b_n b_c R) (by kernel_rfl) h
theorem M_law07_sameVisits_enter : enterB Try.prog 27 = true := by kernel_rfl

abbrev N_law07_sameGroups : FuncId := 28
/-- waltzer/waltzerlaw07.sameGroups -/
def M_law07_sameGroups (σ : Hp) (a_A : Option Addr) (a_n : Nat) (_ : Nat) (b_A : Option Addr) (b_n : Nat) (_ : Nat) (R : Value → Hp → Prop) : Prop :=
  bc (!decide (((a_n : Nat) : Int) = ((b_n : Nat) : Int))) (rt σ R (.bool false)) (cut (α := Hp → Prop) (fun  σ2 => 
    ∀ _ : Nat → Value, rt σ2 R (.bool true)) (fun J3 => ∃ I6 : Nat → Int → Hp → Prop, (∃ n70, I6 n70 0 σ) ∧ 
    ∀ n7 : Nat, ∀ n8 : Int, ∀ σ5 : Hp, I6 n7 n8 σ5 → ∀ _ : Nat → Value, bc (decide (n8 < ((a_n : Nat) : Int))) (cut (α := Hp → Prop) (fun  σ10 => 
    ∀ _ : Nat → Value, wk .i64 (n8 + 1) (fun n12 => bk σ10 n7 (fun m13 σ14 => I6 m13 n12 σ14))) (fun J11 => 
    cut (α := Option Addr → Option Addr → Hp → Prop) (fun p18 p19 σ16 => ∀ _ : Nat → Value, cut (α := Bool → Hp → Prop) (fun t23 σ21 => 
    ∀ _ : Nat → Value, bc t23 (rt σ21 R (.bool false)) (J11 σ21)) (fun J22 => dr p18 (fun b24 o25 => ldI σ16 .i64 b24 o25 (fun n26 => 
    dr p19 (fun b27 o28 => ldI σ16 .i64 b27 o28 (fun n29 => bc (!decide (n26 = n29)) (J22 true σ16) (dr p18 (fun b30 o31 => 
    ldI σ16 .i64 b30 (o31 + 1) (fun n32 => dr p19 (fun b33 o34 => ldI σ16 .i64 b33 (o34 + 1) (fun n35 => 
    bc (!decide (n32 = n35)) (J22 true σ16) (dr p18 (fun b36 o37 => ldI σ16 .i64 b36 (o37 + 2) (fun n38 => 
    dr p19 (fun b39 o40 => ldI σ16 .i64 b39 (o40 + 2) (fun n41 => bc (!decide (n38 = n41)) (J22 true σ16) (dr p18 (fun b42 o43 => 
    ldI σ16 .i64 b42 (o43 + 4) (fun n44 => dr p19 (fun b45 o46 => ldI σ16 .i64 b45 (o46 + 4) (fun n47 => 
    bc (!decide (n44 = n47)) (J22 true σ16) (dr p18 (fun b48 o49 => ldS σ16 b48 (o49 + 3) (fun A50 l50 c50 => 
    dr p19 (fun b51 o52 => ldS σ16 b51 (o52 + 3) (fun A53 l53 c53 => cl Try.prog (.func (.func 20) #[] #[]) #[(.slice A50 l50 c50), (.slice A53 l53 c53)] σ16 (fun v54 σ55 => 
    ∃ t56 : Bool, (v54 = (.bool t56) ∧ J22 (!t56) σ55)))))))))))))))))))))))))))) (fun J17 => ix a_A a_n n8 5 (fun b57 a58 => 
    ldI σ5 .i64 b57 a58 (fun n59 => ldI σ5 .i64 b57 (a58 + 1) (fun n60 => ldI σ5 .i64 b57 (a58 + 2) (fun n61 => 
    ldS σ5 b57 (a58 + 3) (fun A62 l62 c62 => ldI σ5 .i64 b57 (a58 + 4) (fun n63 => ix b_A b_n n8 5 (fun b64 a65 => 
    ((ldI σ5 .i64 b64 a65 (fun n66 => ldI σ5 .i64 b64 (a65 + 1) (fun n67 => ldI σ5 .i64 b64 (a65 + 2) (fun n68 => 
    ldS σ5 b64 (a65 + 3) (fun A69 l69 c69 => ldI σ5 .i64 b64 (a65 + 4) (fun n70 => ((bx σ5 (.cells #[(.int .i64 n59), (.int .i64 n60), (.int .i64 n61), (.slice A62 l62 c62), (.int .i64 n63)] 44) (fun b71 σ72 => 
    bx σ72 (.cells #[(.int .i64 n66), (.int .i64 n67), (.int .i64 n68), (.slice A69 l69 c69), (.int .i64 n70)] 44) (fun b73 σ74 => 
    J17 (some ⟨b71, 0, none⟩) (some ⟨b73, 0, none⟩) σ74))) ∧ (bx σ5 (.cells #[(.int .i64 n59), (.int .i64 n60), (.int .i64 n61), (.slice A62 l62 c62), (.int .i64 n63)] 44) (fun b75 σ76 => 
    bx σ76 (.cells #[(.int .i64 n66), (.int .i64 n67), (.int .i64 n68), (.slice A69 l69 c69), (.int .i64 n70)] 44) (fun b77 σ78 => 
    J17 (some ⟨b75, 0, none⟩) (some ⟨b77, 0, none⟩) σ78)))))))))) ∧ ((ldI σ5 .i64 b64 a65 (fun n79 => ldI σ5 .i64 b64 (a65 + 1) (fun n80 => 
    ldI σ5 .i64 b64 (a65 + 2) (fun n81 => ldS σ5 b64 (a65 + 3) (fun A82 l82 c82 => ldI σ5 .i64 b64 (a65 + 4) (fun n83 => 
    bx σ5 (.cells #[(.int .i64 n59), (.int .i64 n60), (.int .i64 n61), (.slice A62 l62 c62), (.int .i64 n63)] 44) (fun b84 σ85 => 
    bx σ85 (.cells #[(.int .i64 n79), (.int .i64 n80), (.int .i64 n81), (.slice A82 l82 c82), (.int .i64 n83)] 44) (fun b86 σ87 => 
    J17 (some ⟨b84, 0, none⟩) (some ⟨b86, 0, none⟩) σ87)))))))) ∧ ((ldI σ5 .i64 b64 a65 (fun n88 => ldI σ5 .i64 b64 (a65 + 1) (fun n89 => 
    ldI σ5 .i64 b64 (a65 + 2) (fun n90 => ldS σ5 b64 (a65 + 3) (fun A91 l91 c91 => ldI σ5 .i64 b64 (a65 + 4) (fun n92 => 
    bx σ5 (.cells #[(.int .i64 n59), (.int .i64 n60), (.int .i64 n61), (.slice A62 l62 c62), (.int .i64 n63)] 44) (fun b93 σ94 => 
    bx σ94 (.cells #[(.int .i64 n88), (.int .i64 n89), (.int .i64 n90), (.slice A91 l91 c91), (.int .i64 n92)] 44) (fun b95 σ96 => 
    J17 (some ⟨b93, 0, none⟩) (some ⟨b95, 0, none⟩) σ96)))))))) ∧ (ldI σ5 .i64 b64 a65 (fun n97 => ldI σ5 .i64 b64 (a65 + 1) (fun n98 => 
    ldI σ5 .i64 b64 (a65 + 2) (fun n99 => ldS σ5 b64 (a65 + 3) (fun A100 l100 c100 => ldI σ5 .i64 b64 (a65 + 4) (fun n101 => 
    bx σ5 (.cells #[(.int .i64 n59), (.int .i64 n60), (.int .i64 n61), (.slice A62 l62 c62), (.int .i64 n63)] 44) (fun b102 σ103 => 
    bx σ103 (.cells #[(.int .i64 n97), (.int .i64 n98), (.int .i64 n99), (.slice A100 l100 c100), (.int .i64 n101)] 44) (fun b104 σ105 => 
    J17 (some ⟨b102, 0, none⟩) (some ⟨b104, 0, none⟩) σ105)))))))))) ∧ ((ldI σ5 .i64 b64 a65 (fun n106 => 
    ldI σ5 .i64 b64 (a65 + 1) (fun n107 => ldI σ5 .i64 b64 (a65 + 2) (fun n108 => ldS σ5 b64 (a65 + 3) (fun A109 l109 c109 => 
    ldI σ5 .i64 b64 (a65 + 4) (fun n110 => bx σ5 (.cells #[(.int .i64 n59), (.int .i64 n60), (.int .i64 n61), (.slice A62 l62 c62), (.int .i64 n63)] 44) (fun b111 σ112 => 
    bx σ112 (.cells #[(.int .i64 n106), (.int .i64 n107), (.int .i64 n108), (.slice A109 l109 c109), (.int .i64 n110)] 44) (fun b113 σ114 => 
    J17 (some ⟨b111, 0, none⟩) (some ⟨b113, 0, none⟩) σ114)))))))) ∧ ((ldI σ5 .i64 b64 a65 (fun n115 => ldI σ5 .i64 b64 (a65 + 1) (fun n116 => 
    ldI σ5 .i64 b64 (a65 + 2) (fun n117 => ldS σ5 b64 (a65 + 3) (fun A118 l118 c118 => ldI σ5 .i64 b64 (a65 + 4) (fun n119 => 
    bx σ5 (.cells #[(.int .i64 n59), (.int .i64 n60), (.int .i64 n61), (.slice A62 l62 c62), (.int .i64 n63)] 44) (fun b120 σ121 => 
    bx σ121 (.cells #[(.int .i64 n115), (.int .i64 n116), (.int .i64 n117), (.slice A118 l118 c118), (.int .i64 n119)] 44) (fun b122 σ123 => 
    J17 (some ⟨b120, 0, none⟩) (some ⟨b122, 0, none⟩) σ123)))))))) ∧ (ldI σ5 .i64 b64 a65 (fun n124 => ldI σ5 .i64 b64 (a65 + 1) (fun n125 => 
    ldI σ5 .i64 b64 (a65 + 2) (fun n126 => ldS σ5 b64 (a65 + 3) (fun A127 l127 c127 => ldI σ5 .i64 b64 (a65 + 4) (fun n128 => 
    bx σ5 (.cells #[(.int .i64 n59), (.int .i64 n60), (.int .i64 n61), (.slice A62 l62 c62), (.int .i64 n63)] 44) (fun b129 σ130 => 
    bx σ130 (.cells #[(.int .i64 n124), (.int .i64 n125), (.int .i64 n126), (.slice A127 l127 c127), (.int .i64 n128)] 44) (fun b131 σ132 => 
    J17 (some ⟨b129, 0, none⟩) (some ⟨b131, 0, none⟩) σ132))))))))))))))))))))) (J3 σ5)))
def M_law07_sameGroups_an : MAn := (.seq (.txt []) (.seq (.seq (.txt []) (.cond (.seq (.txt []) .leaf) .leaf)) (.cut ⟨[], 0, [], []⟩ (.seq (.txt []) (.block (.loop ⟨[], 0, [.slot 5 (.sc (.int .i64))], [(0, true), (1, true)]⟩ (.seq (.seq (.txt []) (.cond .leaf .leaf)) (.cut ⟨[], 0, [], [(0, true), (1, true), (5, true)]⟩ (.block (.cut ⟨[], 0, [.slot 6 (.sc (.ptr)), .slot 7 (.sc (.ptr))], [(0, true), (1, true), (5, true)]⟩ (.plan [10, 11] (.take 0 ⟨[], false, []⟩ (.take 1 ⟨[], false, []⟩ (.take 2 ⟨[], false, []⟩ (.take 3 ⟨[], false, []⟩ (.take 4 ⟨[], false, []⟩ (.take 5 ⟨[], false, []⟩ (.take 6 ⟨[], false, []⟩ (.alt 7 true ⟨[], false, []⟩ (.alt 8 true ⟨[], false, []⟩ (.alt 9 true ⟨[], false, []⟩ (.alt 10 false ⟨[], false, []⟩ (.alt 11 false ⟨[], false, []⟩ .done .done) .done) .done) (.alt 9 true ⟨[], false, []⟩ (.alt 8 true ⟨[], false, []⟩ (.alt 10 false ⟨[], false, []⟩ (.alt 11 false ⟨[], false, []⟩ .done .done) .done) .done) .done)) (.alt 8 true ⟨[], false, []⟩ (.alt 7 true ⟨[], false, []⟩ (.alt 9 true ⟨[], false, []⟩ (.alt 10 false ⟨[], false, []⟩ (.alt 11 false ⟨[], false, []⟩ .done .done) .done) .done) (.alt 9 true ⟨[], false, []⟩ (.alt 7 true ⟨[], false, []⟩ (.alt 10 false ⟨[], false, []⟩ (.alt 11 false ⟨[], false, []⟩ .done .done) .done) (.alt 10 false ⟨[], false, []⟩ (.take 7 ⟨[], false, []⟩ (.alt 11 false ⟨[], false, []⟩ .done .done)) .done)) .done)) (.alt 9 true ⟨[], false, []⟩ (.alt 7 true ⟨[], false, []⟩ (.alt 8 true ⟨[], false, []⟩ (.alt 10 false ⟨[], false, []⟩ (.alt 11 false ⟨[], false, []⟩ .done .done) .done) .done) (.alt 8 true ⟨[], false, []⟩ (.alt 7 true ⟨[], false, []⟩ (.alt 10 false ⟨[], false, []⟩ (.alt 11 false ⟨[], false, []⟩ .done .done) .done) (.alt 10 false ⟨[], false, []⟩ (.take 7 ⟨[], false, []⟩ (.alt 11 false ⟨[], false, []⟩ .done .done)) .done)) .done)) .done))))))))))) (.cut ⟨[], 0, [.slot 60 (.sc (.bool))], [(0, true), (1, true), (5, true)]⟩ (.txt [⟨[], false, []⟩, ⟨[], false, []⟩, ⟨[], false, []⟩, ⟨[], false, []⟩, ⟨[], false, []⟩, ⟨[], true, []⟩, ⟨[], false, []⟩, ⟨[], false, []⟩, ⟨[], false, []⟩, ⟨[], false, []⟩, ⟨[], false, []⟩, ⟨[], false, []⟩, ⟨[], true, []⟩, ⟨[], false, []⟩, ⟨[], false, []⟩, ⟨[], false, []⟩, ⟨[], false, []⟩, ⟨[], false, []⟩, ⟨[], false, []⟩, ⟨[], true, []⟩, ⟨[], false, []⟩, ⟨[], false, []⟩, ⟨[], false, []⟩, ⟨[], false, []⟩, ⟨[], false, []⟩, ⟨[], false, []⟩, ⟨[], true, []⟩]) (.cond (.seq (.txt []) .leaf) .leaf)))) (.txt [])))))) (.seq (.txt []) .leaf))))
set_option maxRecDepth 100000 in
theorem M_law07_sameGroups_ok (σ : Hp) (a_A : Option Addr) (a_n : Nat) (a_c : Nat) (b_A : Option Addr) (b_n : Nat) (b_c : Nat) (R : Value → Hp → Prop) (h : M_law07_sameGroups σ a_A a_n a_c b_A b_n b_c R) : FCalls Try.prog 28 #[(.slice a_A a_n a_c), (.slice b_A b_n b_c)] σ R :=
  fcalls_of_M mixed_Q1 M_law07_sameGroups_an Try.func28 rfl (by kernel_rfl) (by kernel_rfl) (M := M_law07_sameGroups σ a_A a_n a_c b_A b_n b_c R) (by kernel_rfl) h
theorem M_law07_sameGroups_enter : enterB Try.prog 28 = true := by kernel_rfl

abbrev N_law07_play : FuncId := 29
/-- waltzer/waltzerlaw07.play -/
def M_law07_play (σ : Hp) (f_Rides_A : Option Addr) (f_Rides_n : Nat) (f_Rides_c : Nat) (f_Walk : Int) (l_A : Option Addr) (l_n : Nat) (l_c : Nat) (R : Value → Hp → Prop) : Prop :=
  cl Try.prog (.func (.func 15) #[] #[]) #[(.agg #[(.slice f_Rides_A f_Rides_n f_Rides_c), (.int .i64 f_Walk)])] σ (fun v1 σ2 => 
    ∃ A3 : Option Addr, ∃ l3 : Nat, ∃ c3 : Nat, ∃ n4 : Int, (v1 = (.agg #[(.slice A3 l3 c3), (.int .i64 n4)]) ∧ 
    cl Try.prog (.func (.func 16) #[] #[]) #[(.slice l_A l_n l_c)] σ2 (fun v5 σ6 => ∃ A7 : Option Addr, ∃ l7 : Nat, ∃ c7 : Nat, (v5 = (.slice A7 l7 c7) ∧ 
    cl Try.prog (.func (.func 25) #[] #[]) #[(.agg #[(.slice A3 l3 c3), (.int .i64 n4)]), (.slice A7 l7 c7)] σ6 (fun v8 σ9 => 
    ∃ A10 : Option Addr, ∃ l10 : Nat, ∃ c10 : Nat, ∃ n11 : Int, (v8 = (.tuple #[(.slice A10 l10 c10), (.int .i64 n11)]) ∧ 
    rt σ9 R (.tuple #[(.slice A10 l10 c10), (.int .i64 n11)])))))))
def M_law07_play_an : MAn := (.seq (.txt []) (.seq (.txt []) .leaf))
set_option maxRecDepth 100000 in
theorem M_law07_play_ok (σ : Hp) (f_Rides_A : Option Addr) (f_Rides_n : Nat) (f_Rides_c : Nat) (f_Walk : Int) (l_A : Option Addr) (l_n : Nat) (l_c : Nat) (R : Value → Hp → Prop) (h : M_law07_play σ f_Rides_A f_Rides_n f_Rides_c f_Walk l_A l_n l_c R) : FCalls Try.prog 29 #[(.agg #[(.slice f_Rides_A f_Rides_n f_Rides_c), (.int .i64 f_Walk)]), (.slice l_A l_n l_c)] σ R :=
  fcalls_of_M mixed_Q1 M_law07_play_an Try.func29 rfl (by kernel_rfl) (by kernel_rfl) (M := M_law07_play σ f_Rides_A f_Rides_n f_Rides_c f_Walk l_A l_n l_c R) (by kernel_rfl) h
theorem M_law07_play_enter : enterB Try.prog 29 = true := by kernel_rfl

abbrev N_law07_Example : FuncId := 30
/-- waltzer/waltzerlaw07.Example -/
def M_law07_Example (σ : Hp) (R : Value → Hp → Prop) : Prop :=
  exl 46 [.int .i64, .int .i64, .int .i64, .int .i64, .bool] ([(4, 2, 3, 1, false), (2, 5, 2, 0, false)] : List (Int × Int × Int × Int × Bool)) σ (fun A1 l1 c1 σ2 => 
    exl 3 [.int .i64] ([0, 1] : List Int) σ2 (fun A3 l3 c3 σ4 => exl 3 [.int .i64] ([0, 1] : List Int) σ4 (fun A5 l5 c5 σ6 => 
    exl 44 [.int .i64, .int .i64, .int .i64, .slc, .int .i64] ([(0, 3, 20, (A3, l3, c3), 100), (0, 2, 30, (A5, l5, c5), 100)] : List (Int × Int × Int × (Option Addr × Nat × Nat) × Int)) σ6 (fun A7 l7 c7 σ8 => 
    rt σ8 R (.tuple #[(.agg #[(.slice A1 l1 c1), (.int .i64 1)]), (.slice A7 l7 c7)])))))
def M_law07_Example_an : MAn := (.seq (.txt []) (.seq (.txt []) (.seq (.txt []) .leaf)))
set_option maxRecDepth 100000 in
theorem M_law07_Example_ok (σ : Hp) (R : Value → Hp → Prop) (h : M_law07_Example σ  R) : FCalls Try.prog 30 #[] σ R :=
  fcalls_of_M mixed_Q1 M_law07_Example_an Try.func30 rfl (by kernel_rfl) (by kernel_rfl) (M := M_law07_Example σ  R) (by kernel_rfl) h
theorem M_law07_Example_enter : enterB Try.prog 30 = true := by kernel_rfl

abbrev N_queue_evening : FuncId := 31
/-- waltzer/queue.evening -/
def M_queue_evening (σ : Hp) (f_Rides_A : Option Addr) (f_Rides_n : Nat) (f_Rides_c : Nat) (f_Walk : Int) (R : Value → Hp → Prop) : Prop :=
  cut (α := Hp → Prop) (fun  σ2 => ∀ _ : Nat → Value, rt σ2 R (.int .i64 0)) (fun J3 => cut (α := Bool → Hp → Prop) (fun t7 σ5 => 
    ∀ _ : Nat → Value, bc t7 (rt σ5 R (.int .i64 70)) (J3 σ5)) (fun J6 => bc (decide ((8 : Int) < ((f_Rides_n : Nat) : Int))) (J6 true σ) (cl Try.prog (.func (.func 34) #[] #[]) #[(.int .i64 f_Walk), (.int .i64 0), (.int .i64 100)] σ (fun v8 σ9 => 
    ∃ t10 : Bool, (v8 = (.bool t10) ∧ bc (!t10) (J6 true σ9) (cl Try.prog (.func (.func 50) #[] #[]) #[(.slice f_Rides_A f_Rides_n f_Rides_c), (.func (.func 49) #[] #[])] σ9 (fun v11 σ12 => 
    ∃ t13 : Bool, (v11 = (.bool t13) ∧ J6 t13 σ12))))))))
def M_queue_evening_an : MAn := (.seq (.txt []) (.seq (.txt []) (.cut ⟨[true], 1, [], []⟩ (.cut ⟨[true], 1, [.slot 19 (.sc (.bool))], []⟩ (.txt [⟨[], false, []⟩, ⟨[], false, []⟩, ⟨[], false, []⟩, ⟨[], false, []⟩, ⟨[], true, []⟩, ⟨[], false, []⟩, ⟨[], false, []⟩, ⟨[], false, []⟩, ⟨[], false, []⟩, ⟨[], false, []⟩, ⟨[], true, []⟩]) (.cond (.seq (.txt []) .leaf) .leaf)) (.seq (.txt []) .leaf))))
set_option maxRecDepth 100000 in
theorem M_queue_evening_ok (σ : Hp) (f_Rides_A : Option Addr) (f_Rides_n : Nat) (f_Rides_c : Nat) (f_Walk : Int) (R : Value → Hp → Prop) (h : M_queue_evening σ f_Rides_A f_Rides_n f_Rides_c f_Walk R) : FCalls Try.prog 31 #[(.agg #[(.slice f_Rides_A f_Rides_n f_Rides_c), (.int .i64 f_Walk)])] σ R :=
  fcalls_of_M mixed_Q1 M_queue_evening_an Try.func31 rfl (by kernel_rfl) (by kernel_rfl) (M := M_queue_evening σ f_Rides_A f_Rides_n f_Rides_c f_Walk R) (by kernel_rfl) h
theorem M_queue_evening_enter : enterB Try.prog 31 = true := by kernel_rfl

abbrev N_queue_Check_1 : FuncId := 32
/-- waltzer/queue.Check$1 -/
def M_queue_Check_1 (σ : Hp) (g_At : Int) (g_Size : Int) (g_Tokens : Int) (g_Wants_A : Option Addr) (g_Wants_n : Nat) (g_Wants_c : Nat) (g_Patience : Int) (cap0 : Option Addr) (R : Value → Hp → Prop) : Prop :=
  cl Try.prog (.func (.func 34) #[] #[]) #[(.int .i64 g_At), (.int .i64 0), (.int .i64 2000)] σ (fun v1 σ2 => 
    ∃ t3 : Bool, (v1 = (.bool t3) ∧ bc (!t3) (rt σ2 R (.bool true)) (cl Try.prog (.func (.func 34) #[] #[]) #[(.int .i64 g_Size), (.int .i64 1), (.int .i64 40)] σ2 (fun v4 σ5 => 
    ∃ t6 : Bool, (v4 = (.bool t6) ∧ bc (!t6) (rt σ5 R (.bool true)) (cl Try.prog (.func (.func 34) #[] #[]) #[(.int .i64 g_Tokens), (.int .i64 0), (.int .i64 10000)] σ5 (fun v7 σ8 => 
    ∃ t9 : Bool, (v7 = (.bool t9) ∧ bc (!t9) (rt σ8 R (.bool true)) (cl Try.prog (.func (.func 34) #[] #[]) #[(.int .i64 g_Patience), (.int .i64 0), (.int .i64 2000)] σ8 (fun v10 σ11 => 
    ∃ t12 : Bool, (v10 = (.bool t12) ∧ bc (!t12) (rt σ11 R (.bool true)) (bc (decide ((10 : Int) < ((g_Wants_n : Nat) : Int))) (rt σ11 R (.bool true)) (cl Try.prog (.func (.func 35) #[] #[]) #[(.slice g_Wants_A g_Wants_n g_Wants_c), (.func (.func 33) #[] #[(.pointer cap0)])] σ11 (fun v13 σ14 => 
    ∃ t15 : Bool, (v13 = (.bool t15) ∧ rt σ14 R (.bool t15))))))))))))))))
def M_queue_Check_1_an : MAn := (.seq (.txt []) (.seq (.txt []) (.seq (.txt [⟨[], false, []⟩, ⟨[], false, []⟩, ⟨[], false, []⟩, ⟨[], false, []⟩, ⟨[], true, []⟩, ⟨[], false, []⟩, ⟨[], false, []⟩, ⟨[], false, []⟩, ⟨[], false, []⟩, ⟨[], false, []⟩, ⟨[], true, []⟩, ⟨[], false, []⟩, ⟨[], false, []⟩, ⟨[], false, []⟩, ⟨[], false, []⟩, ⟨[], false, []⟩, ⟨[], true, []⟩, ⟨[], false, []⟩, ⟨[], false, []⟩, ⟨[], false, []⟩, ⟨[], false, []⟩, ⟨[], false, []⟩, ⟨[], true, []⟩, ⟨[], false, []⟩, ⟨[], false, []⟩, ⟨[], false, []⟩, ⟨[], false, []⟩, ⟨[], false, []⟩, ⟨[], true, []⟩]) .leaf)))
set_option maxRecDepth 100000 in
theorem M_queue_Check_1_ok (σ : Hp) (g_At : Int) (g_Size : Int) (g_Tokens : Int) (g_Wants_A : Option Addr) (g_Wants_n : Nat) (g_Wants_c : Nat) (g_Patience : Int) (cap0 : Option Addr) (R : Value → Hp → Prop) (h : M_queue_Check_1 σ g_At g_Size g_Tokens g_Wants_A g_Wants_n g_Wants_c g_Patience cap0 R) : FCalls Try.prog 32 #[(.agg #[(.int .i64 g_At), (.int .i64 g_Size), (.int .i64 g_Tokens), (.slice g_Wants_A g_Wants_n g_Wants_c), (.int .i64 g_Patience)]), (.pointer cap0)] σ R :=
  fcalls_of_M mixed_Q1 M_queue_Check_1_an Try.func32 rfl (by kernel_rfl) (by kernel_rfl) (M := M_queue_Check_1 σ g_At g_Size g_Tokens g_Wants_A g_Wants_n g_Wants_c g_Patience cap0 R) (by kernel_rfl) h
theorem M_queue_Check_1_enter : enterB Try.prog 32 = true := by kernel_rfl

abbrev N_queue_Check_1_1 : FuncId := 33
/-- waltzer/queue.Check$1$1 -/
def M_queue_Check_1_1 (σ : Hp) (n : Int) (cap0 : Option Addr) (R : Value → Hp → Prop) : Prop :=
  dr cap0 (fun b1 o2 => ldS σ b1 o2 (fun _ l3 _ => wk .i64 (((l3 : Nat) : Int) - 1) (fun n4 => cl Try.prog (.func (.func 34) #[] #[]) #[(.int .i64 n), (.int .i64 0), (.int .i64 n4)] σ (fun v5 σ6 => 
    ∃ t7 : Bool, (v5 = (.bool t7) ∧ rt σ6 R (.bool (!t7)))))))
def M_queue_Check_1_1_an : MAn := (.seq (.txt []) (.seq (.txt []) .leaf))
set_option maxRecDepth 100000 in
theorem M_queue_Check_1_1_ok (σ : Hp) (n : Int) (cap0 : Option Addr) (R : Value → Hp → Prop) (h : M_queue_Check_1_1 σ n cap0 R) : FCalls Try.prog 33 #[(.int .i64 n), (.pointer cap0)] σ R :=
  fcalls_of_M mixed_Q1 M_queue_Check_1_1_an Try.func33 rfl (by kernel_rfl) (by kernel_rfl) (M := M_queue_Check_1_1 σ n cap0 R) (by kernel_rfl) h
theorem M_queue_Check_1_1_enter : enterB Try.prog 33 = true := by kernel_rfl

abbrev N_queue_within : FuncId := 34
/-- waltzer/queue.within -/
def M_queue_within (σ : Hp) (n : Int) (low : Int) (high : Int) (R : Value → Hp → Prop) : Prop :=
  bc (decide (low ≤ n)) (rt σ R (.bool (decide (n ≤ high)))) (rt σ R (.bool false))
def M_queue_within_an : MAn := (.seq (.txt []) (.seq (.txt [⟨[], false, []⟩, ⟨[], false, []⟩, ⟨[], false, []⟩, ⟨[], true, []⟩]) .leaf))
set_option maxRecDepth 100000 in
theorem M_queue_within_ok (σ : Hp) (n : Int) (low : Int) (high : Int) (R : Value → Hp → Prop) (h : M_queue_within σ n low high R) : FCalls Try.prog 34 #[(.int .i64 n), (.int .i64 low), (.int .i64 high)] σ R :=
  fcalls_of_M mixed_Q1 M_queue_within_an Try.func34 rfl (by kernel_rfl) (by kernel_rfl) (M := M_queue_within σ n low high R) (by kernel_rfl) h
theorem M_queue_within_enter : enterB Try.prog 34 = true := by kernel_rfl

abbrev N_slices_ContainsFunc_int : FuncId := 35
/-- slices.ContainsFunc[[]int,int] -/
def M_slices_ContainsFunc_int (σ : Hp) (s_A : Option Addr) (s_n : Nat) (s_c : Nat) (f : Value) (R : Value → Hp → Prop) : Prop :=
  cl Try.prog (.func (.func 51) #[] #[]) #[(.slice s_A s_n s_c), f] σ (fun v1 σ2 => ∃ n3 : Int, (v1 = (.int .i64 n3) ∧ 
    rt σ2 R (.bool (decide ((0 : Int) ≤ n3)))))
def M_slices_ContainsFunc_int_an : MAn := (.seq (.txt []) (.seq (.txt []) .leaf))
set_option maxRecDepth 100000 in
theorem M_slices_ContainsFunc_int_ok (σ : Hp) (s_A : Option Addr) (s_n : Nat) (s_c : Nat) (f : Value) (R : Value → Hp → Prop) (h : M_slices_ContainsFunc_int σ s_A s_n s_c f R) : FCalls Try.prog 35 #[(.slice s_A s_n s_c), f] σ R :=
  fcalls_of_M mixed_Q1 M_slices_ContainsFunc_int_an Try.func35 rfl (by kernel_rfl) (by kernel_rfl) (M := M_slices_ContainsFunc_int σ s_A s_n s_c f R) (by kernel_rfl) h
theorem M_slices_ContainsFunc_int_enter : enterB Try.prog 35 = true := by kernel_rfl

abbrev N_slices_ContainsFunc_api_Group : FuncId := 36
/-- slices.ContainsFunc[[]waltzer/api.Group,waltzer/api.Group] -/
def M_slices_ContainsFunc_api_Group (σ : Hp) (s_A : Option Addr) (s_n : Nat) (s_c : Nat) (f : Value) (R : Value → Hp → Prop) : Prop :=
  cl Try.prog (.func (.func 52) #[] #[]) #[(.slice s_A s_n s_c), f] σ (fun v1 σ2 => ∃ n3 : Int, (v1 = (.int .i64 n3) ∧ 
    rt σ2 R (.bool (decide ((0 : Int) ≤ n3)))))
def M_slices_ContainsFunc_api_Group_an : MAn := (.seq (.txt []) (.seq (.txt []) .leaf))
set_option maxRecDepth 100000 in
theorem M_slices_ContainsFunc_api_Group_ok (σ : Hp) (s_A : Option Addr) (s_n : Nat) (s_c : Nat) (f : Value) (R : Value → Hp → Prop) (h : M_slices_ContainsFunc_api_Group σ s_A s_n s_c f R) : FCalls Try.prog 36 #[(.slice s_A s_n s_c), f] σ R :=
  fcalls_of_M mixed_Q1 M_slices_ContainsFunc_api_Group_an Try.func36 rfl (by kernel_rfl) (by kernel_rfl) (M := M_slices_ContainsFunc_api_Group σ s_A s_n s_c f R) (by kernel_rfl) h
theorem M_slices_ContainsFunc_api_Group_enter : enterB Try.prog 36 = true := by kernel_rfl

abbrev N_ref07_checkEvening : FuncId := 37
/-- waltzer/waltzerref07.checkEvening -/
def M_ref07_checkEvening (σ : Hp) (f_Rides_A : Option Addr) (f_Rides_n : Nat) (_ : Nat) (f_Walk : Int) (R : Value → Hp → Prop) : Prop :=
  cut (α := Hp → Prop) (fun  σ2 => ∀ _ : Nat → Value, cut (α := Hp → Prop) (fun  σ5 => ∀ _ : Nat → Value, 
    rt σ5 R (.int .i64 0)) (fun J6 => ∃ I9 : Nat → Int → Hp → Prop, (∃ n100, I9 n100 0 σ2) ∧ ∀ n10 : Nat, ∀ n11 : Int, ∀ σ8 : Hp, I9 n10 n11 σ8 → ∀ _ : Nat → Value, bc (decide (n11 < ((f_Rides_n : Nat) : Int))) (cut (α := Hp → Prop) (fun  σ13 => 
    ∀ _ : Nat → Value, wk .i64 (n11 + 1) (fun n15 => bk σ13 n10 (fun m16 σ17 => I9 m16 n15 σ17))) (fun J14 => 
    ix f_Rides_A f_Rides_n n11 5 (fun b18 a19 => ldI σ8 .i64 b18 a19 (fun n20 => ldI σ8 .i64 b18 (a19 + 1) (fun n21 => 
    ldI σ8 .i64 b18 (a19 + 2) (fun n22 => ldI σ8 .i64 b18 (a19 + 3) (fun n23 => ldB σ8 b18 (a19 + 4) (fun _ => 
    cut (α := Bool → Hp → Prop) (fun t28 σ26 => ∀ _ : Nat → Value, bc t28 (rt σ26 R (.int .i64 70)) (J14 σ26)) (fun J27 => 
    cl Try.prog (.func (.func 38) #[] #[]) #[(.int .i64 n20), (.int .i64 1), (.int .i64 40)] σ8 (fun v29 σ30 => 
    ∃ t31 : Bool, (v29 = (.bool t31) ∧ bc (!t31) (J27 true σ30) (cl Try.prog (.func (.func 38) #[] #[]) #[(.int .i64 n21), (.int .i64 0), (.int .i64 100)] σ30 (fun v32 σ33 => 
    ∃ t34 : Bool, (v32 = (.bool t34) ∧ bc (!t34) (J27 true σ33) (cl Try.prog (.func (.func 38) #[] #[]) #[(.int .i64 n22), (.int .i64 1), (.int .i64 100)] σ33 (fun v35 σ36 => 
    ∃ t37 : Bool, (v35 = (.bool t37) ∧ bc (!t37) (J27 true σ36) (cl Try.prog (.func (.func 38) #[] #[]) #[(.int .i64 n23), (.int .i64 0), (.int .i64 100)] σ36 (fun v38 σ39 => 
    ∃ t40 : Bool, (v38 = (.bool t40) ∧ J27 (!t40) σ39)))))))))))))))))))) (J6 σ8))) (fun J3 => cut (α := Bool → Hp → Prop) (fun t44 σ42 => 
    ∀ _ : Nat → Value, bc t44 (rt σ42 R (.int .i64 70)) (J3 σ42)) (fun J43 => bc (decide ((8 : Int) < ((f_Rides_n : Nat) : Int))) (J43 true σ) (cl Try.prog (.func (.func 38) #[] #[]) #[(.int .i64 f_Walk), (.int .i64 0), (.int .i64 100)] σ (fun v45 σ46 => 
    ∃ t47 : Bool, (v45 = (.bool t47) ∧ J43 (!t47) σ46)))))
def M_ref07_checkEvening_an : MAn := (.seq (.txt []) (.cut ⟨[true], 1, [.slot 1 (.hb 0 0)], []⟩ (.cut ⟨[true], 1, [.slot 1 (.hb 0 0), .slot 14 (.sc (.bool))], []⟩ (.txt [⟨[], false, []⟩, ⟨[], false, []⟩, ⟨[], false, []⟩, ⟨[], false, []⟩, ⟨[], true, []⟩]) (.cond (.seq (.txt []) .leaf) .leaf)) (.cut ⟨[true], 1, [], []⟩ (.seq (.txt []) (.block (.loop ⟨[true], 1, [.slot 1 (.hb 0 0), .slot 3 (.sc (.int .i64))], []⟩ (.seq (.seq (.txt []) (.cond .leaf .leaf)) (.cut ⟨[true], 1, [.slot 1 (.hb 0 0)], [(3, true)]⟩ (.block (.seq (.txt []) (.cut ⟨[true, true], 2, [.slot 1 (.hb 0 0), .slot 48 (.sc (.bool))], [(3, true)]⟩ (.txt [⟨[], false, []⟩, ⟨[], false, []⟩, ⟨[], false, []⟩, ⟨[], false, []⟩, ⟨[], true, []⟩, ⟨[], false, []⟩, ⟨[], false, []⟩, ⟨[], false, []⟩, ⟨[], false, []⟩, ⟨[], false, []⟩, ⟨[], true, []⟩, ⟨[], false, []⟩, ⟨[], false, []⟩, ⟨[], false, []⟩, ⟨[], false, []⟩, ⟨[], false, []⟩, ⟨[], true, []⟩]) (.cond (.seq (.txt []) .leaf) .leaf)))) (.txt [])))))) (.seq (.txt []) .leaf))))
set_option maxRecDepth 100000 in
theorem M_ref07_checkEvening_ok (σ : Hp) (f_Rides_A : Option Addr) (f_Rides_n : Nat) (f_Rides_c : Nat) (f_Walk : Int) (R : Value → Hp → Prop) (h : M_ref07_checkEvening σ f_Rides_A f_Rides_n f_Rides_c f_Walk R) : FCalls Try.prog 37 #[(.agg #[(.slice f_Rides_A f_Rides_n f_Rides_c), (.int .i64 f_Walk)])] σ R :=
  fcalls_of_M mixed_Q1 M_ref07_checkEvening_an Try.func37 rfl (by kernel_rfl) (by kernel_rfl) (M := M_ref07_checkEvening σ f_Rides_A f_Rides_n f_Rides_c f_Walk R) (by kernel_rfl) h
theorem M_ref07_checkEvening_enter : enterB Try.prog 37 = true := by kernel_rfl

abbrev N_ref07_from : FuncId := 38
/-- waltzer/waltzerref07.from -/
def M_ref07_from (σ : Hp) (n : Int) (low : Int) (high : Int) (R : Value → Hp → Prop) : Prop :=
  bc (decide (low ≤ n)) (rt σ R (.bool (decide (n ≤ high)))) (rt σ R (.bool false))
def M_ref07_from_an : MAn := (.seq (.txt []) (.seq (.txt [⟨[], false, []⟩, ⟨[], false, []⟩, ⟨[], false, []⟩, ⟨[], true, []⟩]) .leaf))
set_option maxRecDepth 100000 in
theorem M_ref07_from_ok (σ : Hp) (n : Int) (low : Int) (high : Int) (R : Value → Hp → Prop) (h : M_ref07_from σ n low high R) : FCalls Try.prog 38 #[(.int .i64 n), (.int .i64 low), (.int .i64 high)] σ R :=
  fcalls_of_M mixed_Q1 M_ref07_from_an Try.func38 rfl (by kernel_rfl) (by kernel_rfl) (M := M_ref07_from σ n low high R) (by kernel_rfl) h
theorem M_ref07_from_enter : enterB Try.prog 38 = true := by kernel_rfl

abbrev N_queue_of__queue_party : FuncId := 39
/-- waltzer/queue.of[*waltzer/queue.party] -/
def M_queue_of__queue_party (σ : Hp) (f_Rides_A : Option Addr) (f_Rides_n : Nat) (f_Rides_c : Nat) (f_Walk : Int) (l_A : Option Addr) (l_n : Nat) (l_c : Nat) (elements : Value) (number : Value) (R : Value → Hp → Prop) : Prop :=
  cl Try.prog (.func (.func 14) #[] #[]) #[(.agg #[(.slice f_Rides_A f_Rides_n f_Rides_c), (.int .i64 f_Walk)]), (.slice l_A l_n l_c)] σ (fun v1 σ2 => 
    ∃ n3 : Int, (v1 = (.int .i64 n3) ∧ bc (!decide (n3 = 0)) (rt σ2 R (.tuple #[(.slice none 0 0), (.int .i64 n3)])) (cut (α := List Int → Hp → Prop) (fun xs7 σ5 => 
    ∀ _ : Nat → Value, exl 3 [.int .i64] xs7 σ5 (fun A8 l8 c8 σ9 => rt σ9 R (.tuple #[(.slice A8 l8 c8), (.int .i64 0)]))) (fun J6 => 
    cl Try.prog (.func (.func 47) #[] #[]) #[(.agg #[(.slice f_Rides_A f_Rides_n f_Rides_c), (.int .i64 f_Walk)]), (.slice l_A l_n l_c)] σ2 (fun v10 σ11 => 
    ∃ p12 : Option Addr, (v10 = (.pointer p12) ∧ cl Try.prog elements #[(.pointer p12)] σ11 (fun v13 σ14 => 
    ∃ A15 : Option Addr, ∃ l15 : Nat, ∃ c15 : Nat, (v13 = (.slice A15 l15 c15) ∧ ∃ I18 : Nat → List Int → Int → Hp → Prop, (∃ n190, adp 3 [.int .i64] none 0 0 σ14 (fun (xs20 : List Int) σ21 => 
    I18 n190 xs20 0 σ21)) ∧ ∀ n19 : Nat, ∀ xs22 : List Int, ∀ n23 : Int, ∀ σ17 : Hp, I18 n19 xs22 n23 σ17 → ∀ _ : Nat → Value, bc (decide (n23 < ((l15 : Nat) : Int))) (ix A15 l15 n23 1 (fun b24 a25 => 
    ldP σ17 b24 a25 (fun p26 => cl Try.prog number #[(.pointer p26)] σ17 (fun v27 σ28 => ∃ n29 : Int, (v27 = (.int .i64 n29) ∧ 
    roomy (List.length xs22 + List.length ([n29] : List Int)) (wk .i64 (n23 + 1) (fun n30 => bk σ28 n19 (fun m31 σ32 => 
    I18 m31 (xs22 ++ ([n29] : List Int)) n30 σ32)))))))) (J6 xs22 σ17)))))))))
def M_queue_of__queue_party_an : MAn := (.seq (.txt []) (.seq (.seq (.txt []) (.seq (.txt []) (.cond (.seq (.txt []) .leaf) .leaf))) (.cut ⟨[true], 2, [.slot 8 (.lst 1 3 [.int .i64])], []⟩ (.seq (.txt []) (.block (.loop ⟨[true], 2, [.slot 8 (.lst 1 3 [.int .i64]), .slot 25 (.sc (.int .i64))], [(3, false), (23, true), (24, true)]⟩ (.seq (.txt []) (.seq (.cond .leaf .leaf) (.seq (.block (.seq (.txt []) (.txt []))) (.txt []))))))) (.seq (.txt []) .leaf))))
set_option maxRecDepth 100000 in
theorem M_queue_of__queue_party_ok (σ : Hp) (f_Rides_A : Option Addr) (f_Rides_n : Nat) (f_Rides_c : Nat) (f_Walk : Int) (l_A : Option Addr) (l_n : Nat) (l_c : Nat) (elements : Value) (number : Value) (R : Value → Hp → Prop) (h : M_queue_of__queue_party σ f_Rides_A f_Rides_n f_Rides_c f_Walk l_A l_n l_c elements number R) : FCalls Try.prog 39 #[(.agg #[(.slice f_Rides_A f_Rides_n f_Rides_c), (.int .i64 f_Walk)]), (.slice l_A l_n l_c), elements, number] σ R :=
  fcalls_of_M mixed_Q1 M_queue_of__queue_party_an Try.func39 rfl (by kernel_rfl) (by kernel_rfl) (M := M_queue_of__queue_party σ f_Rides_A f_Rides_n f_Rides_c f_Walk l_A l_n l_c elements number R) (by kernel_rfl) h
theorem M_queue_of__queue_party_enter : enterB Try.prog 39 = true := by kernel_rfl

abbrev N_queue_parties : FuncId := 40
/-- waltzer/queue.parties -/
def M_queue_parties (σ : Hp) (n : Option Addr) (R : Value → Hp → Prop) : Prop :=
  dr n (fun b1 o2 => ldS σ b1 (o2 + 2) (fun A3 l3 c3 => rt σ R (.slice A3 l3 c3)))
def M_queue_parties_an : MAn := (.seq (.txt []) (.seq (.txt []) .leaf))
set_option maxRecDepth 100000 in
theorem M_queue_parties_ok (σ : Hp) (n : Option Addr) (R : Value → Hp → Prop) (h : M_queue_parties σ n R) : FCalls Try.prog 40 #[(.pointer n)] σ R :=
  fcalls_of_M mixed_Q1 M_queue_parties_an Try.func40 rfl (by kernel_rfl) (by kernel_rfl) (M := M_queue_parties σ n R) (by kernel_rfl) h
theorem M_queue_parties_enter : enterB Try.prog 40 = true := by kernel_rfl

abbrev N_queue_Home_1 : FuncId := 41
/-- waltzer/queue.Home$1 -/
def M_queue_Home_1 (σ : Hp) (p : Option Addr) (R : Value → Hp → Prop) : Prop :=
  dr p (fun b1 o2 => ldI σ .i64 b1 (o2 + 8) (fun n3 => rt σ R (.int .i64 n3)))
def M_queue_Home_1_an : MAn := (.seq (.txt []) (.seq (.txt []) .leaf))
set_option maxRecDepth 100000 in
theorem M_queue_Home_1_ok (σ : Hp) (p : Option Addr) (R : Value → Hp → Prop) (h : M_queue_Home_1 σ p R) : FCalls Try.prog 41 #[(.pointer p)] σ R :=
  fcalls_of_M mixed_Q1 M_queue_Home_1_an Try.func41 rfl (by kernel_rfl) (by kernel_rfl) (M := M_queue_Home_1 σ p R) (by kernel_rfl) h
theorem M_queue_Home_1_enter : enterB Try.prog 41 = true := by kernel_rfl

abbrev N_queue_of__queue_booth : FuncId := 43
/-- waltzer/queue.of[*waltzer/queue.booth] -/
def M_queue_of__queue_booth (σ : Hp) (f_Rides_A : Option Addr) (f_Rides_n : Nat) (f_Rides_c : Nat) (f_Walk : Int) (l_A : Option Addr) (l_n : Nat) (l_c : Nat) (elements : Value) (number : Value) (R : Value → Hp → Prop) : Prop :=
  cl Try.prog (.func (.func 14) #[] #[]) #[(.agg #[(.slice f_Rides_A f_Rides_n f_Rides_c), (.int .i64 f_Walk)]), (.slice l_A l_n l_c)] σ (fun v1 σ2 => 
    ∃ n3 : Int, (v1 = (.int .i64 n3) ∧ bc (!decide (n3 = 0)) (rt σ2 R (.tuple #[(.slice none 0 0), (.int .i64 n3)])) (cut (α := List Int → Hp → Prop) (fun xs7 σ5 => 
    ∀ _ : Nat → Value, exl 3 [.int .i64] xs7 σ5 (fun A8 l8 c8 σ9 => rt σ9 R (.tuple #[(.slice A8 l8 c8), (.int .i64 0)]))) (fun J6 => 
    cl Try.prog (.func (.func 47) #[] #[]) #[(.agg #[(.slice f_Rides_A f_Rides_n f_Rides_c), (.int .i64 f_Walk)]), (.slice l_A l_n l_c)] σ2 (fun v10 σ11 => 
    ∃ p12 : Option Addr, (v10 = (.pointer p12) ∧ cl Try.prog elements #[(.pointer p12)] σ11 (fun v13 σ14 => 
    ∃ A15 : Option Addr, ∃ l15 : Nat, ∃ c15 : Nat, (v13 = (.slice A15 l15 c15) ∧ ∃ I18 : Nat → List Int → Int → Hp → Prop, (∃ n190, adp 3 [.int .i64] none 0 0 σ14 (fun (xs20 : List Int) σ21 => 
    I18 n190 xs20 0 σ21)) ∧ ∀ n19 : Nat, ∀ xs22 : List Int, ∀ n23 : Int, ∀ σ17 : Hp, I18 n19 xs22 n23 σ17 → ∀ _ : Nat → Value, bc (decide (n23 < ((l15 : Nat) : Int))) (ix A15 l15 n23 1 (fun b24 a25 => 
    ldP σ17 b24 a25 (fun p26 => cl Try.prog number #[(.pointer p26)] σ17 (fun v27 σ28 => ∃ n29 : Int, (v27 = (.int .i64 n29) ∧ 
    roomy (List.length xs22 + List.length ([n29] : List Int)) (wk .i64 (n23 + 1) (fun n30 => bk σ28 n19 (fun m31 σ32 => 
    I18 m31 (xs22 ++ ([n29] : List Int)) n30 σ32)))))))) (J6 xs22 σ17)))))))))
def M_queue_of__queue_booth_an : MAn := (.seq (.txt []) (.seq (.seq (.txt []) (.seq (.txt []) (.cond (.seq (.txt []) .leaf) .leaf))) (.cut ⟨[true], 2, [.slot 8 (.lst 1 3 [.int .i64])], []⟩ (.seq (.txt []) (.block (.loop ⟨[true], 2, [.slot 8 (.lst 1 3 [.int .i64]), .slot 25 (.sc (.int .i64))], [(3, false), (23, true), (24, true)]⟩ (.seq (.txt []) (.seq (.cond .leaf .leaf) (.seq (.block (.seq (.txt []) (.txt []))) (.txt []))))))) (.seq (.txt []) .leaf))))
set_option maxRecDepth 100000 in
theorem M_queue_of__queue_booth_ok (σ : Hp) (f_Rides_A : Option Addr) (f_Rides_n : Nat) (f_Rides_c : Nat) (f_Walk : Int) (l_A : Option Addr) (l_n : Nat) (l_c : Nat) (elements : Value) (number : Value) (R : Value → Hp → Prop) (h : M_queue_of__queue_booth σ f_Rides_A f_Rides_n f_Rides_c f_Walk l_A l_n l_c elements number R) : FCalls Try.prog 43 #[(.agg #[(.slice f_Rides_A f_Rides_n f_Rides_c), (.int .i64 f_Walk)]), (.slice l_A l_n l_c), elements, number] σ R :=
  fcalls_of_M mixed_Q1 M_queue_of__queue_booth_an Try.func43 rfl (by kernel_rfl) (by kernel_rfl) (M := M_queue_of__queue_booth σ f_Rides_A f_Rides_n f_Rides_c f_Walk l_A l_n l_c elements number R) (by kernel_rfl) h
theorem M_queue_of__queue_booth_enter : enterB Try.prog 43 = true := by kernel_rfl

abbrev N_queue_rides : FuncId := 44
/-- waltzer/queue.rides -/
def M_queue_rides (σ : Hp) (n : Option Addr) (R : Value → Hp → Prop) : Prop :=
  dr n (fun b1 o2 => ldS σ b1 (o2 + 1) (fun A3 l3 c3 => rt σ R (.slice A3 l3 c3)))
def M_queue_rides_an : MAn := (.seq (.txt []) (.seq (.txt []) .leaf))
set_option maxRecDepth 100000 in
theorem M_queue_rides_ok (σ : Hp) (n : Option Addr) (R : Value → Hp → Prop) (h : M_queue_rides σ n R) : FCalls Try.prog 44 #[(.pointer n)] σ R :=
  fcalls_of_M mixed_Q1 M_queue_rides_an Try.func44 rfl (by kernel_rfl) (by kernel_rfl) (M := M_queue_rides σ n R) (by kernel_rfl) h
theorem M_queue_rides_enter : enterB Try.prog 44 = true := by kernel_rfl

abbrev N_queue_Takes_1 : FuncId := 45
/-- waltzer/queue.Takes$1 -/
def M_queue_Takes_1 (σ : Hp) (r : Option Addr) (R : Value → Hp → Prop) : Prop :=
  dr r (fun b1 o2 => ldI σ .i64 b1 (o2 + 9) (fun n3 => rt σ R (.int .i64 n3)))
def M_queue_Takes_1_an : MAn := (.seq (.txt []) (.seq (.txt []) .leaf))
set_option maxRecDepth 100000 in
theorem M_queue_Takes_1_ok (σ : Hp) (r : Option Addr) (R : Value → Hp → Prop) (h : M_queue_Takes_1 σ r R) : FCalls Try.prog 45 #[(.pointer r)] σ R :=
  fcalls_of_M mixed_Q1 M_queue_Takes_1_an Try.func45 rfl (by kernel_rfl) (by kernel_rfl) (M := M_queue_Takes_1 σ r R) (by kernel_rfl) h
theorem M_queue_Takes_1_enter : enterB Try.prog 45 = true := by kernel_rfl

abbrev N_queue_Held_1 : FuncId := 46
/-- waltzer/queue.Held$1 -/
def M_queue_Held_1 (σ : Hp) (p : Option Addr) (R : Value → Hp → Prop) : Prop :=
  dr p (fun b1 o2 => ldI σ .i64 b1 (o2 + 6) (fun n3 => rt σ R (.int .i64 n3)))
def M_queue_Held_1_an : MAn := (.seq (.txt []) (.seq (.txt []) .leaf))
set_option maxRecDepth 100000 in
theorem M_queue_Held_1_ok (σ : Hp) (p : Option Addr) (R : Value → Hp → Prop) (h : M_queue_Held_1 σ p R) : FCalls Try.prog 46 #[(.pointer p)] σ R :=
  fcalls_of_M mixed_Q1 M_queue_Held_1_an Try.func46 rfl (by kernel_rfl) (by kernel_rfl) (M := M_queue_Held_1 σ p R) (by kernel_rfl) h
theorem M_queue_Held_1_enter : enterB Try.prog 46 = true := by kernel_rfl

abbrev N_ref07_before : FuncId := 48
/-- waltzer/waltzerref07.before -/
def M_ref07_before (σ : Hp) (a_Group : Int) (a_Want : Int) (_ : Int) (_ : Bool) (_ : Int) (a_Left : Int) (b_Group : Int) (b_Want : Int) (_ : Int) (_ : Bool) (_ : Int) (b_Left : Int) (R : Value → Hp → Prop) : Prop :=
  bc (!decide (a_Left = b_Left)) (rt σ R (.bool (decide (a_Left < b_Left)))) (bc (!decide (a_Group = b_Group)) (rt σ R (.bool (decide (a_Group < b_Group)))) (rt σ R (.bool (decide (a_Want < b_Want)))))
def M_ref07_before_an : MAn := (.seq (.txt []) (.seq (.seq (.txt []) (.cond (.seq (.txt []) .leaf) .leaf)) (.seq (.seq (.txt []) (.cond (.seq (.txt []) .leaf) .leaf)) (.seq (.txt []) .leaf))))
set_option maxRecDepth 100000 in
theorem M_ref07_before_ok (σ : Hp) (a_Group : Int) (a_Want : Int) (a_Ride : Int) (a_On : Bool) (a_Came : Int) (a_Left : Int) (b_Group : Int) (b_Want : Int) (b_Ride : Int) (b_On : Bool) (b_Came : Int) (b_Left : Int) (R : Value → Hp → Prop) (h : M_ref07_before σ a_Group a_Want a_Ride a_On a_Came a_Left b_Group b_Want b_Ride b_On b_Came b_Left R) : FCalls Try.prog 48 #[(.agg #[(.int .i64 a_Group), (.int .i64 a_Want), (.int .i64 a_Ride), (.bool a_On), (.int .i64 a_Came), (.int .i64 a_Left)]), (.agg #[(.int .i64 b_Group), (.int .i64 b_Want), (.int .i64 b_Ride), (.bool b_On), (.int .i64 b_Came), (.int .i64 b_Left)])] σ R :=
  fcalls_of_M mixed_Q1 M_ref07_before_an Try.func48 rfl (by kernel_rfl) (by kernel_rfl) (M := M_ref07_before σ a_Group a_Want a_Ride a_On a_Came a_Left b_Group b_Want b_Ride b_On b_Came b_Left R) (by kernel_rfl) h
theorem M_ref07_before_enter : enterB Try.prog 48 = true := by kernel_rfl

abbrev N_queue_evening_1 : FuncId := 49
/-- waltzer/queue.evening$1 -/
def M_queue_evening_1 (σ : Hp) (b_Seats : Int) (b_Price : Int) (b_Cycle : Int) (b_Pause : Int) (_ : Bool) (R : Value → Hp → Prop) : Prop :=
  cl Try.prog (.func (.func 34) #[] #[]) #[(.int .i64 b_Seats), (.int .i64 1), (.int .i64 40)] σ (fun v1 σ2 => 
    ∃ t3 : Bool, (v1 = (.bool t3) ∧ bc (!t3) (rt σ2 R (.bool true)) (cl Try.prog (.func (.func 34) #[] #[]) #[(.int .i64 b_Price), (.int .i64 0), (.int .i64 100)] σ2 (fun v4 σ5 => 
    ∃ t6 : Bool, (v4 = (.bool t6) ∧ bc (!t6) (rt σ5 R (.bool true)) (cl Try.prog (.func (.func 34) #[] #[]) #[(.int .i64 b_Cycle), (.int .i64 1), (.int .i64 100)] σ5 (fun v7 σ8 => 
    ∃ t9 : Bool, (v7 = (.bool t9) ∧ bc (!t9) (rt σ8 R (.bool true)) (cl Try.prog (.func (.func 34) #[] #[]) #[(.int .i64 b_Pause), (.int .i64 0), (.int .i64 100)] σ8 (fun v10 σ11 => 
    ∃ t12 : Bool, (v10 = (.bool t12) ∧ rt σ11 R (.bool (!t12)))))))))))))
def M_queue_evening_1_an : MAn := (.seq (.txt []) (.seq (.txt [⟨[], false, []⟩, ⟨[], false, []⟩, ⟨[], false, []⟩, ⟨[], false, []⟩, ⟨[], true, []⟩, ⟨[], false, []⟩, ⟨[], false, []⟩, ⟨[], false, []⟩, ⟨[], false, []⟩, ⟨[], false, []⟩, ⟨[], true, []⟩, ⟨[], false, []⟩, ⟨[], false, []⟩, ⟨[], false, []⟩, ⟨[], false, []⟩, ⟨[], false, []⟩, ⟨[], true, []⟩]) .leaf))
set_option maxRecDepth 100000 in
theorem M_queue_evening_1_ok (σ : Hp) (b_Seats : Int) (b_Price : Int) (b_Cycle : Int) (b_Pause : Int) (b_Fill : Bool) (R : Value → Hp → Prop) (h : M_queue_evening_1 σ b_Seats b_Price b_Cycle b_Pause b_Fill R) : FCalls Try.prog 49 #[(.agg #[(.int .i64 b_Seats), (.int .i64 b_Price), (.int .i64 b_Cycle), (.int .i64 b_Pause), (.bool b_Fill)])] σ R :=
  fcalls_of_M mixed_Q1 M_queue_evening_1_an Try.func49 rfl (by kernel_rfl) (by kernel_rfl) (M := M_queue_evening_1 σ b_Seats b_Price b_Cycle b_Pause b_Fill R) (by kernel_rfl) h
theorem M_queue_evening_1_enter : enterB Try.prog 49 = true := by kernel_rfl

abbrev N_slices_ContainsFunc_api_Booth : FuncId := 50
/-- slices.ContainsFunc[[]waltzer/api.Booth,waltzer/api.Booth] -/
def M_slices_ContainsFunc_api_Booth (σ : Hp) (s_A : Option Addr) (s_n : Nat) (s_c : Nat) (f : Value) (R : Value → Hp → Prop) : Prop :=
  cl Try.prog (.func (.func 61) #[] #[]) #[(.slice s_A s_n s_c), f] σ (fun v1 σ2 => ∃ n3 : Int, (v1 = (.int .i64 n3) ∧ 
    rt σ2 R (.bool (decide ((0 : Int) ≤ n3)))))
def M_slices_ContainsFunc_api_Booth_an : MAn := (.seq (.txt []) (.seq (.txt []) .leaf))
set_option maxRecDepth 100000 in
theorem M_slices_ContainsFunc_api_Booth_ok (σ : Hp) (s_A : Option Addr) (s_n : Nat) (s_c : Nat) (f : Value) (R : Value → Hp → Prop) (h : M_slices_ContainsFunc_api_Booth σ s_A s_n s_c f R) : FCalls Try.prog 50 #[(.slice s_A s_n s_c), f] σ R :=
  fcalls_of_M mixed_Q1 M_slices_ContainsFunc_api_Booth_an Try.func50 rfl (by kernel_rfl) (by kernel_rfl) (M := M_slices_ContainsFunc_api_Booth σ s_A s_n s_c f R) (by kernel_rfl) h
theorem M_slices_ContainsFunc_api_Booth_enter : enterB Try.prog 50 = true := by kernel_rfl

abbrev N_slices_IndexFunc_int : FuncId := 51
/-- slices.IndexFunc[[]int,int] -/
def M_slices_IndexFunc_int (σ : Hp) (s_A : Option Addr) (s_n : Nat) (_ : Nat) (f : Value) (R : Value → Hp → Prop) : Prop :=
  cut (α := Hp → Prop) (fun  σ2 => ∀ _ : Nat → Value, rt σ2 R (.int .i64 (-1))) (fun J3 => ∃ I6 : Nat → Int → Hp → Prop, (∃ n70, I6 n70 0 σ) ∧ 
    ∀ n7 : Nat, ∀ n8 : Int, ∀ σ5 : Hp, I6 n7 n8 σ5 → ∀ _ : Nat → Value, bc (decide (n8 < ((s_n : Nat) : Int))) (ix s_A s_n n8 1 (fun b9 a10 => 
    ldI σ5 .i64 b9 a10 (fun n11 => cl Try.prog f #[(.int .i64 n11)] σ5 (fun v12 σ13 => ∃ t14 : Bool, (v12 = (.bool t14) ∧ 
    bc t14 (rt σ13 R (.int .i64 n8)) (wk .i64 (n8 + 1) (fun n15 => bk σ13 n7 (fun m16 σ17 => I6 m16 n15 σ17)))))))) (J3 σ5))
def M_slices_IndexFunc_int_an : MAn := (.seq (.txt []) (.cut ⟨[], 0, [], []⟩ (.seq (.txt []) (.block (.loop ⟨[], 0, [.slot 8 (.sc (.int .i64))], [(0, true), (1, false), (7, true)]⟩ (.seq (.txt []) (.seq (.cond .leaf .leaf) (.seq (.block (.seq (.txt []) (.seq (.txt []) (.cond (.seq (.txt []) .leaf) .leaf)))) (.txt []))))))) (.seq (.txt []) .leaf)))
set_option maxRecDepth 100000 in
theorem M_slices_IndexFunc_int_ok (σ : Hp) (s_A : Option Addr) (s_n : Nat) (s_c : Nat) (f : Value) (R : Value → Hp → Prop) (h : M_slices_IndexFunc_int σ s_A s_n s_c f R) : FCalls Try.prog 51 #[(.slice s_A s_n s_c), f] σ R :=
  fcalls_of_M mixed_Q1 M_slices_IndexFunc_int_an Try.func51 rfl (by kernel_rfl) (by kernel_rfl) (M := M_slices_IndexFunc_int σ s_A s_n s_c f R) (by kernel_rfl) h
theorem M_slices_IndexFunc_int_enter : enterB Try.prog 51 = true := by kernel_rfl

abbrev N_slices_IndexFunc_api_Group : FuncId := 52
/-- slices.IndexFunc[[]waltzer/api.Group,waltzer/api.Group] -/
def M_slices_IndexFunc_api_Group (σ : Hp) (s_A : Option Addr) (s_n : Nat) (_ : Nat) (f : Value) (R : Value → Hp → Prop) : Prop :=
  cut (α := Hp → Prop) (fun  σ2 => ∀ _ : Nat → Value, rt σ2 R (.int .i64 (-1))) (fun J3 => ∃ I6 : Nat → Int → Hp → Prop, (∃ n70, I6 n70 0 σ) ∧ 
    ∀ n7 : Nat, ∀ n8 : Int, ∀ σ5 : Hp, I6 n7 n8 σ5 → ∀ _ : Nat → Value, bc (decide (n8 < ((s_n : Nat) : Int))) (ix s_A s_n n8 5 (fun b9 a10 => 
    ldI σ5 .i64 b9 a10 (fun n11 => ldI σ5 .i64 b9 (a10 + 1) (fun n12 => ldI σ5 .i64 b9 (a10 + 2) (fun n13 => 
    ldS σ5 b9 (a10 + 3) (fun A14 l14 c14 => ldI σ5 .i64 b9 (a10 + 4) (fun n15 => cl Try.prog f #[(.agg #[(.int .i64 n11), (.int .i64 n12), (.int .i64 n13), (.slice A14 l14 c14), (.int .i64 n15)])] σ5 (fun v16 σ17 => 
    ∃ t18 : Bool, (v16 = (.bool t18) ∧ bc t18 (rt σ17 R (.int .i64 n8)) (wk .i64 (n8 + 1) (fun n19 => bk σ17 n7 (fun m20 σ21 => 
    I6 m20 n19 σ21)))))))))))) (J3 σ5))
def M_slices_IndexFunc_api_Group_an : MAn := (.seq (.txt []) (.cut ⟨[], 0, [], []⟩ (.seq (.txt []) (.block (.loop ⟨[], 0, [.slot 8 (.sc (.int .i64))], [(0, true), (1, false), (7, true)]⟩ (.seq (.txt []) (.seq (.cond .leaf .leaf) (.seq (.block (.seq (.txt []) (.seq (.txt []) (.cond (.seq (.txt []) .leaf) .leaf)))) (.txt []))))))) (.seq (.txt []) .leaf)))
set_option maxRecDepth 100000 in
theorem M_slices_IndexFunc_api_Group_ok (σ : Hp) (s_A : Option Addr) (s_n : Nat) (s_c : Nat) (f : Value) (R : Value → Hp → Prop) (h : M_slices_IndexFunc_api_Group σ s_A s_n s_c f R) : FCalls Try.prog 52 #[(.slice s_A s_n s_c), f] σ R :=
  fcalls_of_M mixed_Q1 M_slices_IndexFunc_api_Group_an Try.func52 rfl (by kernel_rfl) (by kernel_rfl) (M := M_slices_IndexFunc_api_Group σ s_A s_n s_c f R) (by kernel_rfl) h
theorem M_slices_IndexFunc_api_Group_enter : enterB Try.prog 52 = true := by kernel_rfl

abbrev N_cmp_Or_int : FuncId := 60
/-- cmp.Or[int] -/
def M_cmp_Or_int (σ : Hp) (vals_A : Option Addr) (vals_n : Nat) (_ : Nat) (R : Value → Hp → Prop) : Prop :=
  cut (α := Hp → Prop) (fun  σ2 => ∀ _ : Nat → Value, rt σ2 R (.int .i64 0)) (fun J3 => ∃ I6 : Nat → Int → Hp → Prop, (∃ n70, I6 n70 0 σ) ∧ 
    ∀ n7 : Nat, ∀ n8 : Int, ∀ σ5 : Hp, I6 n7 n8 σ5 → ∀ _ : Nat → Value, bc (decide (n8 < ((vals_n : Nat) : Int))) (ix vals_A vals_n n8 1 (fun b9 a10 => 
    ldI σ5 .i64 b9 a10 (fun n11 => bc (!decide (n11 = 0)) (rt σ5 R (.int .i64 n11)) (wk .i64 (n8 + 1) (fun n12 => 
    bk σ5 n7 (fun m13 σ14 => I6 m13 n12 σ14)))))) (J3 σ5))
def M_cmp_Or_int_an : MAn := (.seq (.txt []) (.seq (.txt []) (.cut ⟨[], 0, [], [(3, true)]⟩ (.seq (.txt []) (.block (.loop ⟨[], 0, [.slot 8 (.sc (.int .i64))], [(3, true), (6, true), (7, true)]⟩ (.seq (.txt []) (.seq (.cond .leaf .leaf) (.seq (.block (.seq (.txt []) (.seq (.txt []) (.cond (.seq (.txt []) .leaf) .leaf)))) (.txt []))))))) (.seq (.txt []) .leaf))))
set_option maxRecDepth 100000 in
theorem M_cmp_Or_int_ok (σ : Hp) (vals_A : Option Addr) (vals_n : Nat) (vals_c : Nat) (R : Value → Hp → Prop) (h : M_cmp_Or_int σ vals_A vals_n vals_c R) : FCalls Try.prog 60 #[(.slice vals_A vals_n vals_c)] σ R :=
  fcalls_of_M mixed_Q1 M_cmp_Or_int_an Try.func60 rfl (by kernel_rfl) (by kernel_rfl) (M := M_cmp_Or_int σ vals_A vals_n vals_c R) (by kernel_rfl) h
theorem M_cmp_Or_int_enter : enterB Try.prog 60 = true := by kernel_rfl

abbrev N_slices_IndexFunc_api_Booth : FuncId := 61
/-- slices.IndexFunc[[]waltzer/api.Booth,waltzer/api.Booth] -/
def M_slices_IndexFunc_api_Booth (σ : Hp) (s_A : Option Addr) (s_n : Nat) (_ : Nat) (f : Value) (R : Value → Hp → Prop) : Prop :=
  cut (α := Hp → Prop) (fun  σ2 => ∀ _ : Nat → Value, rt σ2 R (.int .i64 (-1))) (fun J3 => ∃ I6 : Nat → Int → Hp → Prop, (∃ n70, I6 n70 0 σ) ∧ 
    ∀ n7 : Nat, ∀ n8 : Int, ∀ σ5 : Hp, I6 n7 n8 σ5 → ∀ _ : Nat → Value, bc (decide (n8 < ((s_n : Nat) : Int))) (ix s_A s_n n8 5 (fun b9 a10 => 
    ldI σ5 .i64 b9 a10 (fun n11 => ldI σ5 .i64 b9 (a10 + 1) (fun n12 => ldI σ5 .i64 b9 (a10 + 2) (fun n13 => 
    ldI σ5 .i64 b9 (a10 + 3) (fun n14 => ldB σ5 b9 (a10 + 4) (fun t15 => cl Try.prog f #[(.agg #[(.int .i64 n11), (.int .i64 n12), (.int .i64 n13), (.int .i64 n14), (.bool t15)])] σ5 (fun v16 σ17 => 
    ∃ t18 : Bool, (v16 = (.bool t18) ∧ bc t18 (rt σ17 R (.int .i64 n8)) (wk .i64 (n8 + 1) (fun n19 => bk σ17 n7 (fun m20 σ21 => 
    I6 m20 n19 σ21)))))))))))) (J3 σ5))
def M_slices_IndexFunc_api_Booth_an : MAn := (.seq (.txt []) (.cut ⟨[], 0, [], []⟩ (.seq (.txt []) (.block (.loop ⟨[], 0, [.slot 8 (.sc (.int .i64))], [(0, true), (1, false), (7, true)]⟩ (.seq (.txt []) (.seq (.cond .leaf .leaf) (.seq (.block (.seq (.txt []) (.seq (.txt []) (.cond (.seq (.txt []) .leaf) .leaf)))) (.txt []))))))) (.seq (.txt []) .leaf)))
set_option maxRecDepth 100000 in
theorem M_slices_IndexFunc_api_Booth_ok (σ : Hp) (s_A : Option Addr) (s_n : Nat) (s_c : Nat) (f : Value) (R : Value → Hp → Prop) (h : M_slices_IndexFunc_api_Booth σ s_A s_n s_c f R) : FCalls Try.prog 61 #[(.slice s_A s_n s_c), f] σ R :=
  fcalls_of_M mixed_Q1 M_slices_IndexFunc_api_Booth_an Try.func61 rfl (by kernel_rfl) (by kernel_rfl) (M := M_slices_IndexFunc_api_Booth σ s_A s_n s_c f R) (by kernel_rfl) h
theorem M_slices_IndexFunc_api_Booth_enter : enterB Try.prog 61 = true := by kernel_rfl

abbrev N_queue_play_1 : FuncId := 59
/-- waltzer/queue.play$1 -/
def M_queue_play_1 (σ : Hp) (a_Group : Int) (a_Want : Int) (_ : Int) (_ : Bool) (_ : Int) (a_Left : Int) (b_Group : Int) (b_Want : Int) (_ : Int) (_ : Bool) (_ : Int) (b_Left : Int) (R : Value → Hp → Prop) : Prop :=
  wk .i64 (a_Left - b_Left) (fun n1 => wk .i64 (a_Group - b_Group) (fun n2 => wk .i64 (a_Want - b_Want) (fun n3 => 
    exl 3 [.int .i64] ([n1, n2, n3] : List Int) σ (fun A4 l4 c4 σ5 => cl Try.prog (.func (.func 60) #[] #[]) #[(.slice A4 l4 c4)] σ5 (fun v6 σ7 => 
    ∃ n8 : Int, (v6 = (.int .i64 n8) ∧ rt σ7 R (.int .i64 n8)))))))
def M_queue_play_1_an : MAn := (.seq (.txt []) (.seq (.txt []) .leaf))
set_option maxRecDepth 100000 in
theorem M_queue_play_1_ok (σ : Hp) (a_Group : Int) (a_Want : Int) (a_Ride : Int) (a_On : Bool) (a_Came : Int) (a_Left : Int) (b_Group : Int) (b_Want : Int) (b_Ride : Int) (b_On : Bool) (b_Came : Int) (b_Left : Int) (R : Value → Hp → Prop) (h : M_queue_play_1 σ a_Group a_Want a_Ride a_On a_Came a_Left b_Group b_Want b_Ride b_On b_Came b_Left R) : FCalls Try.prog 59 #[(.agg #[(.int .i64 a_Group), (.int .i64 a_Want), (.int .i64 a_Ride), (.bool a_On), (.int .i64 a_Came), (.int .i64 a_Left)]), (.agg #[(.int .i64 b_Group), (.int .i64 b_Want), (.int .i64 b_Ride), (.bool b_On), (.int .i64 b_Came), (.int .i64 b_Left)])] σ R :=
  fcalls_of_M mixed_Q1 M_queue_play_1_an Try.func59 rfl (by kernel_rfl) (by kernel_rfl) (M := M_queue_play_1 σ a_Group a_Want a_Ride a_On a_Came a_Left b_Group b_Want b_Ride b_On b_Came b_Left R) (by kernel_rfl) h
theorem M_queue_play_1_enter : enterB Try.prog 59 = true := by kernel_rfl

abbrev N_queue_night_leave_1 : FuncId := 70
/-- (*waltzer/queue.night).leave$1 -/
def M_queue_night_leave_1 (σ : Hp) (s_group : Int) (s_came : Int) (cap0 : Option Addr) (cap1 : Option Addr) (R : Value → Hp → Prop) : Prop :=
  dr cap0 (fun b1 o2 => ldP σ b1 o2 (fun p3 => dr p3 (fun b4 o5 => ldI σ .i64 b4 (o5 + 3) (fun n6 => wk .i64 (n6 - s_came) (fun n7 => 
    dr cap0 (fun b8 o9 => ldP σ b8 o9 (fun p10 => dr p10 (fun b11 o12 => ldS σ b11 (o12 + 2) (fun A13 l13 _ => 
    ix A13 l13 s_group 1 (fun b14 a15 => ldP σ b14 a15 (fun p16 => dr p16 (fun b17 o18 => ldI σ .i64 b17 (o18 + 4) (fun n19 => 
    cut (α := Hp → Prop) (fun  σ21 => ∀ _ : Nat → Value, rt σ21 R (.bool (decide (n19 < n7)))) (fun J22 => 
    bc (decide (n19 < n7)) (dr cap1 (fun b23 o24 => ldS σ b23 o24 (fun A25 l25 c25 => adp 90 [.int .i64, .int .i64] A25 l25 c25 σ (fun (xs26 : List (Int × Int)) σ27 => 
    roomy (List.length xs26 + List.length ([(s_group, s_came)] : List (Int × Int))) (exl 90 [.int .i64, .int .i64] (xs26 ++ ([(s_group, s_came)] : List (Int × Int))) σ27 (fun A28 l28 c28 σ29 => 
    dr cap1 (fun b30 o31 => st σ29 b30 o31 (.slice A28 l28 c28) (fun σ32 => J22 σ32)))))))) (J22 σ)))))))))))))))
def M_queue_night_leave_1_an : MAn := (.seq (.txt []) (.seq (.plan [] (.take 0 ⟨[], false, []⟩ (.take 1 ⟨[], false, []⟩ (.take 2 ⟨[], false, []⟩ (.take 3 ⟨[], false, []⟩ (.take 4 ⟨[], false, []⟩ (.take 5 ⟨[], false, []⟩ (.take 6 ⟨[], false, []⟩ (.take 7 ⟨[], false, []⟩ (.take 8 ⟨[], false, []⟩ (.take 9 ⟨[], false, []⟩ (.take 10 ⟨[], false, []⟩ (.take 11 ⟨[], false, []⟩ (.take 12 ⟨[], false, []⟩ (.take 13 ⟨[], false, []⟩ (.take 14 ⟨[], false, []⟩ (.take 15 ⟨[], false, []⟩ (.take 16 ⟨[], false, []⟩ (.take 17 ⟨[], false, []⟩ (.take 18 ⟨[], false, []⟩ (.take 19 ⟨[], false, []⟩ (.take 20 ⟨[], false, []⟩ .done)))))))))))))))))))))) (.cut ⟨[true], 1, [], [(5, true)]⟩ (.seq (.txt []) (.cond (.txt []) .leaf)) (.seq (.txt []) .leaf))))
set_option maxRecDepth 100000 in
theorem M_queue_night_leave_1_ok (σ : Hp) (s_group : Int) (s_came : Int) (cap0 : Option Addr) (cap1 : Option Addr) (R : Value → Hp → Prop) (h : M_queue_night_leave_1 σ s_group s_came cap0 cap1 R) : FCalls Try.prog 70 #[(.agg #[(.int .i64 s_group), (.int .i64 s_came)]), (.pointer cap0), (.pointer cap1)] σ R :=
  fcalls_of_M mixed_Q1 M_queue_night_leave_1_an Try.func70 rfl (by kernel_rfl) (by kernel_rfl) (M := M_queue_night_leave_1 σ s_group s_came cap0 cap1 R) (by kernel_rfl) h
theorem M_queue_night_leave_1_enter : enterB Try.prog 70 = true := by kernel_rfl

abbrev N_queue_night_leave_2 : FuncId := 72
/-- (*waltzer/queue.night).leave$2 -/
def M_queue_night_leave_2 (σ : Hp) (a_group : Int) (_ : Int) (b_group : Int) (_ : Int) (R : Value → Hp → Prop) : Prop :=
  wk .i64 (a_group - b_group) (fun n1 => rt σ R (.int .i64 n1))
def M_queue_night_leave_2_an : MAn := (.seq (.txt []) (.seq (.txt []) .leaf))
set_option maxRecDepth 100000 in
theorem M_queue_night_leave_2_ok (σ : Hp) (a_group : Int) (a_came : Int) (b_group : Int) (b_came : Int) (R : Value → Hp → Prop) (h : M_queue_night_leave_2 σ a_group a_came b_group b_came R) : FCalls Try.prog 72 #[(.agg #[(.int .i64 a_group), (.int .i64 a_came)]), (.agg #[(.int .i64 b_group), (.int .i64 b_came)])] σ R :=
  fcalls_of_M mixed_Q1 M_queue_night_leave_2_an Try.func72 rfl (by kernel_rfl) (by kernel_rfl) (M := M_queue_night_leave_2 σ a_group a_came b_group b_came R) (by kernel_rfl) h
theorem M_queue_night_leave_2_enter : enterB Try.prog 72 = true := by kernel_rfl

end Go.Proofs.Ytgcefaikdplbkaa
