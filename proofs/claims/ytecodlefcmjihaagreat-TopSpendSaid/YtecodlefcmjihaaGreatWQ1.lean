/- Trimmed by wip/trim.py to what this claim rests on. -/
import Derived.Test.YtecodlefcmjihaaGreatWB11
namespace Go.Proofs.YtecodlefcmjihaaGreat
open Go.RowKit
theorem AN : Tryz.prog.follows .mixedOrders = true := by kernel_rfl
abbrev QD : FuncId := 6
def IZ (σ : Hp) (_ : Option Addr) (f_Rides_n : Nat) (_ : Nat) (_ : Int) (l_A : Option Addr) (l_n : Nat) (_ : Nat) (R : Value → Hp → Prop) : Prop :=
  cut (α := Hp → Prop) (fun  σ2 => ∀ _ : Nat → Value, cut (α := Hp → Prop) (fun  σ5 => ∀ _ : Nat → Value, 
    rt σ5 R (.bool false)) (fun J6 => ∃ I9 : Nat → Int → Hp → Prop, (∃ n100, I9 n100 0 σ2) ∧ ∀ n10 : Nat, ∀ n11 : Int, ∀ σ8 : Hp, I9 n10 n11 σ8 → ∀ _ : Nat → Value, bc (decide (n11 < ((l_n : Nat) : Int))) (ix l_A l_n n11 5 (fun b12 a13 => 
    ldS σ8 b12 (a13 + 3) (fun _ l14 _ => bc (decide ((20 : Int) < ((l14 : Nat) : Int))) (rt σ8 R (.bool true)) (wk .i64 (n11 + 1) (fun n15 => 
    bk σ8 n10 (fun m16 σ17 => I9 m16 n15 σ17)))))) (J6 σ8))) (fun J3 => cut (α := Bool → Hp → Prop) (fun t21 σ19 => 
    ∀ _ : Nat → Value, bc t21 (rt σ19 R (.bool true)) (J3 σ19)) (fun J20 => bc (decide ((10 : Int) < ((f_Rides_n : Nat) : Int))) (J20 true σ) (J20 (decide ((70 : Int) < ((l_n : Nat) : Int))) σ)))
def NZ : MAn := (.seq (.txt []) (.cut ⟨[true], 1, [], [(1, true)]⟩ (.cut ⟨[true], 1, [.slot 14 (.sc (.bool))], [(1, true)]⟩ (.txt [⟨[], false, []⟩, ⟨[], false, []⟩, ⟨[], false, []⟩, ⟨[], false, []⟩, ⟨[], true, []⟩]) (.cond (.seq (.txt []) .leaf) .leaf)) (.cut ⟨[true], 1, [], []⟩ (.seq (.txt []) (.block (.loop ⟨[true], 1, [.slot 5 (.sc (.int .i64))], [(1, true)]⟩ (.seq (.seq (.txt []) (.cond .leaf .leaf)) (.seq (.block (.seq (.txt []) (.cond (.seq (.txt []) .leaf) .leaf))) (.txt [])))))) (.seq (.txt []) .leaf))))
set_option maxRecDepth 100000 in
theorem Of (σ : Hp) (f_Rides_A : Option Addr) (f_Rides_n : Nat) (f_Rides_c : Nat) (f_Walk : Int) (l_A : Option Addr) (l_n : Nat) (l_c : Nat) (R : Value → Hp → Prop) (h : IZ σ f_Rides_A f_Rides_n f_Rides_c f_Walk l_A l_n l_c R) : Al Tryz.prog 6 #[(.agg #[(.slice f_Rides_A f_Rides_n f_Rides_c), (.int .i64 f_Walk)]), (.slice l_A l_n l_c)] σ R :=
  Am AN NZ Tryz.func6 rfl (by kernel_rfl) (by kernel_rfl) (M := IZ σ f_Rides_A f_Rides_n f_Rides_c f_Walk l_A l_n l_c R) (by kernel_rfl) h
theorem Lg : AA Tryz.prog 6 = true := by kernel_rfl
abbrev OI : FuncId := 21
def Gx (σ : Hp) (f_Rides_A : Option Addr) (f_Rides_n : Nat) (f_Rides_c : Nat) (f_Walk : Int) (l_A : Option Addr) (l_n : Nat) (l_c : Nat) (R : Value → Hp → Prop) : Prop :=
  cl Tryz.prog (.func (.func 43) #[] #[]) #[(.agg #[(.slice f_Rides_A f_Rides_n f_Rides_c), (.int .i64 f_Walk)])] σ (fun v1 σ2 => 
    ∃ n3 : Int, (v1 = (.int .i64 n3) ∧ bc (!decide (n3 = 0)) (rt σ2 R (.int .i64 n3)) (bx σ2 (.cells #[(.slice f_Rides_A f_Rides_n f_Rides_c), (.int .i64 f_Walk)] 24) (fun b4 σ5 => 
    cut (α := Hp → Prop) (fun  σ7 => ∀ _ : Nat → Value, rt σ7 R (.int .i64 0)) (fun J8 => cut (α := Bool → Hp → Prop) (fun t12 σ10 => 
    ∀ _ : Nat → Value, bc t12 (rt σ10 R (.int .i64 71)) (J8 σ10)) (fun J11 => bc (decide ((60 : Int) < ((l_n : Nat) : Int))) (J11 true σ5) (cl Tryz.prog (.func (.func 47) #[] #[]) #[(.slice l_A l_n l_c), (.func (.func 44) #[] #[(.pointer (some ⟨b4, 0, none⟩))])] σ5 (fun v13 σ14 => 
    ∃ t15 : Bool, (v13 = (.bool t15) ∧ J11 t15 σ14)))))))))
def Mz : MAn := (.seq (.txt []) (.seq (.seq (.txt []) (.seq (.txt []) (.cond (.seq (.txt []) .leaf) .leaf))) (.seq (.txt []) (.cut ⟨[false], 1, [], []⟩ (.cut ⟨[false], 1, [.slot 20 (.sc (.bool))], []⟩ (.txt [⟨[], false, []⟩, ⟨[], false, []⟩, ⟨[], false, []⟩, ⟨[], true, []⟩]) (.cond (.seq (.txt []) .leaf) .leaf)) (.seq (.txt []) .leaf)))))
set_option maxRecDepth 100000 in
theorem Mk (σ : Hp) (f_Rides_A : Option Addr) (f_Rides_n : Nat) (f_Rides_c : Nat) (f_Walk : Int) (l_A : Option Addr) (l_n : Nat) (l_c : Nat) (R : Value → Hp → Prop) (h : Gx σ f_Rides_A f_Rides_n f_Rides_c f_Walk l_A l_n l_c R) : Al Tryz.prog 21 #[(.agg #[(.slice f_Rides_A f_Rides_n f_Rides_c), (.int .i64 f_Walk)]), (.slice l_A l_n l_c)] σ R :=
  Am AN Mz Tryz.func21 rfl (by kernel_rfl) (by kernel_rfl) (M := Gx σ f_Rides_A f_Rides_n f_Rides_c f_Walk l_A l_n l_c R) (by kernel_rfl) h
theorem CU : AA Tryz.prog 21 = true := by kernel_rfl
abbrev P5 : FuncId := 9
def Hf (σ : Hp) (f_Rides_A : Option Addr) (f_Rides_n : Nat) (_ : Nat) (f_Walk : Int) (R : Value → Hp → Prop) : Prop :=
  (((∃ ys1 : List (Int × Int × Int × Int × Bool), RdS [.int .i64, .int .i64, .int .i64, .int .i64, .bool] σ f_Rides_A f_Rides_n ys1 ∧ 
    B1 (List.length ([] : List (Int × Int × Int × Int × Bool)) + List.length ys1) (exl 49 [.int .i64, .int .i64, .int .i64, .int .i64, .bool] (([] : List (Int × Int × Int × Int × Bool)) ++ ys1) σ (fun A2 l2 c2 σ3 => 
    rt σ3 R (.agg #[(.slice A2 l2 c2), (.int .i64 f_Walk)])))) ∧ (∃ ys4 : List (Int × Int × Int × Int × Bool), RdS [.int .i64, .int .i64, .int .i64, .int .i64, .bool] σ f_Rides_A f_Rides_n ys4 ∧ 
    B1 (List.length ([] : List (Int × Int × Int × Int × Bool)) + List.length ys4) (exl 49 [.int .i64, .int .i64, .int .i64, .int .i64, .bool] (([] : List (Int × Int × Int × Int × Bool)) ++ ys4) σ (fun A5 l5 c5 σ6 => 
    rt σ6 R (.agg #[(.slice A5 l5 c5), (.int .i64 f_Walk)]))))) ∧ (∃ ys7 : List (Int × Int × Int × Int × Bool), RdS [.int .i64, .int .i64, .int .i64, .int .i64, .bool] σ f_Rides_A f_Rides_n ys7 ∧ 
    B1 (List.length ([] : List (Int × Int × Int × Int × Bool)) + List.length ys7) (exl 49 [.int .i64, .int .i64, .int .i64, .int .i64, .bool] (([] : List (Int × Int × Int × Int × Bool)) ++ ys7) σ (fun A8 l8 c8 σ9 => 
    rt σ9 R (.agg #[(.slice A8 l8 c8), (.int .i64 f_Walk)])))))
def AI : OA := ⟨[], false, []⟩
def MY : MAn := (.seq (.txt []) (.seq (.plan [3, 7] (.take 1 AI (.take 2 AI (.take 4 AI (.alt 0 true AI (.alt 3 false AI (.take 5 AI (.take 6 AI (.alt 7 false AI .done .done))) (.alt 5 true AI (.alt 3 false AI (.take 6 AI (.alt 7 false AI .done .done)) .done) .done)) (.alt 5 true AI (.alt 0 true AI (.alt 3 false AI (.take 6 AI (.alt 7 false AI .done .done)) .done) .done) .done)))))) .leaf))
set_option maxRecDepth 100000 in
theorem M9 (σ : Hp) (f_Rides_A : Option Addr) (f_Rides_n : Nat) (f_Rides_c : Nat) (f_Walk : Int) (R : Value → Hp → Prop) (h : Hf σ f_Rides_A f_Rides_n f_Rides_c f_Walk R) : Al Tryz.prog 9 #[(.agg #[(.slice f_Rides_A f_Rides_n f_Rides_c), (.int .i64 f_Walk)])] σ R :=
  Am AN MY Tryz.func9 rfl (by kernel_rfl) (by kernel_rfl) (M := Hf σ f_Rides_A f_Rides_n f_Rides_c f_Walk R) (by kernel_rfl) h
theorem FI : AA Tryz.prog 9 = true := by kernel_rfl
abbrev Kv : FuncId := 10
def Dq (σ : Hp) (l_A : Option Addr) (l_n : Nat) (_ : Nat) (R : Value → Hp → Prop) : Prop :=
  ∃ ys1 : List (Int × Int × Int × (Option Addr × Nat × Nat) × Int), RdS [.int .i64, .int .i64, .int .i64, .slc, .int .i64] σ l_A l_n ys1 ∧ 
    B1 (List.length ([] : List (Int × Int × Int × (Option Addr × Nat × Nat) × Int)) + List.length ys1) (cut (α := Option Addr → Nat → Nat → Hp → Prop) (fun A5 l5 c5 σ3 => 
    ∀ _ : Nat → Value, rt σ3 R (.slice A5 l5 c5)) (fun J4 => ∃ I8 : Nat → Option Addr → Nat → Nat → Int → Hp → Prop, (∃ n90, exl 43 [.int .i64, .int .i64, .int .i64, .slc, .int .i64] (([] : List (Int × Int × Int × (Option Addr × Nat × Nat) × Int)) ++ ys1) σ (fun A10 l10 c10 σ11 => 
    I8 n90 A10 l10 c10 0 σ11)) ∧ ∀ n9 : Nat, ∀ A12 : Option Addr, ∀ l12 : Nat, ∀ c12 : Nat, ∀ n13 : Int, ∀ σ7 : Hp, I8 n9 A12 l12 c12 n13 σ7 → ∀ _ : Nat → Value, bc (decide (n13 < ((l12 : Nat) : Int))) (ix A12 l12 n13 5 (fun b14 a15 => 
    ldS σ7 b14 (a15 + 3) (fun A16 l16 _ => ∃ ys17 : List Int, RdS [.int .i64] σ7 A16 l16 ys17 ∧ B1 (List.length ([] : List Int) + List.length ys17) (ix A12 l12 n13 5 (fun b18 a19 => 
    exl 3 [.int .i64] (([] : List Int) ++ ys17) σ7 (fun A20 l20 c20 σ21 => st σ21 b18 (a19 + 3) (.slice A20 l20 c20) (fun σ22 => 
    wk .i64 (n13 + 1) (fun n23 => bk σ22 n9 (fun m24 σ25 => I8 m24 A12 l12 c12 n23 σ25))))))))) (J4 A12 l12 c12 σ7)))
def Iq : MAn := (.seq (.txt []) (.seq (.txt []) (.cut ⟨[false], 1, [.slot 3 (.sc (.slc))], []⟩ (.seq (.txt []) (.block (.loop ⟨[false], 1, [.slot 3 (.sc (.slc)), .slot 4 (.sc (.int .i64))], []⟩ (.seq (.seq (.txt []) (.cond .leaf .leaf)) (.seq (.block (.txt [])) (.txt [])))))) (.seq (.txt []) .leaf))))
set_option maxRecDepth 100000 in
theorem Ii (σ : Hp) (l_A : Option Addr) (l_n : Nat) (l_c : Nat) (R : Value → Hp → Prop) (h : Dq σ l_A l_n l_c R) : Al Tryz.prog 10 #[(.slice l_A l_n l_c)] σ R :=
  Am AN Iq Tryz.func10 rfl (by kernel_rfl) (by kernel_rfl) (M := Dq σ l_A l_n l_c R) (by kernel_rfl) h
theorem C1 : AA Tryz.prog 10 = true := by kernel_rfl
abbrev JU : FuncId := 14
def Gm (σ : Hp) (f_Rides_A : Option Addr) (f_Rides_n : Nat) (f_Rides_c : Nat) (f_Walk : Int) (l_A : Option Addr) (l_n : Nat) (l_c : Nat) (R : Value → Hp → Prop) : Prop :=
  cl Tryz.prog (.func (.func 28) #[] #[]) #[(.agg #[(.slice f_Rides_A f_Rides_n f_Rides_c), (.int .i64 f_Walk)]), (.slice l_A l_n l_c), (.func (.func 29) #[] #[]), (.func (.func 30) #[] #[])] σ (fun v1 σ2 => 
    ∃ A3 : Option Addr, ∃ l3 : Nat, ∃ c3 : Nat, ∃ n4 : Int, (v1 = (.tuple #[(.slice A3 l3 c3), (.int .i64 n4)]) ∧ 
    rt σ2 R (.tuple #[(.slice A3 l3 c3), (.int .i64 n4)])))
def Md : MAn := (.seq (.txt []) (.seq (.txt []) .leaf))
set_option maxRecDepth 100000 in
theorem L1 (σ : Hp) (f_Rides_A : Option Addr) (f_Rides_n : Nat) (f_Rides_c : Nat) (f_Walk : Int) (l_A : Option Addr) (l_n : Nat) (l_c : Nat) (R : Value → Hp → Prop) (h : Gm σ f_Rides_A f_Rides_n f_Rides_c f_Walk l_A l_n l_c R) : Al Tryz.prog 14 #[(.agg #[(.slice f_Rides_A f_Rides_n f_Rides_c), (.int .i64 f_Walk)]), (.slice l_A l_n l_c)] σ R :=
  Am AN Md Tryz.func14 rfl (by kernel_rfl) (by kernel_rfl) (M := Gm σ f_Rides_A f_Rides_n f_Rides_c f_Walk l_A l_n l_c R) (by kernel_rfl) h
abbrev K4 : FuncId := 13
def HO (σ : Hp) (f_Rides_A : Option Addr) (f_Rides_n : Nat) (f_Rides_c : Nat) (f_Walk : Int) (l_A : Option Addr) (l_n : Nat) (l_c : Nat) (R : Value → Hp → Prop) : Prop :=
  cl Tryz.prog (.func (.func 25) #[] #[]) #[(.agg #[(.slice f_Rides_A f_Rides_n f_Rides_c), (.int .i64 f_Walk)]), (.slice l_A l_n l_c), (.func (.func 26) #[] #[]), (.func (.func 27) #[] #[])] σ (fun v1 σ2 => 
    ∃ A3 : Option Addr, ∃ l3 : Nat, ∃ c3 : Nat, ∃ n4 : Int, (v1 = (.tuple #[(.slice A3 l3 c3), (.int .i64 n4)]) ∧ 
    rt σ2 R (.tuple #[(.slice A3 l3 c3), (.int .i64 n4)])))
def M5 : MAn := (.seq (.txt []) (.seq (.txt []) .leaf))
set_option maxRecDepth 100000 in
theorem Nf (σ : Hp) (f_Rides_A : Option Addr) (f_Rides_n : Nat) (f_Rides_c : Nat) (f_Walk : Int) (l_A : Option Addr) (l_n : Nat) (l_c : Nat) (R : Value → Hp → Prop) (h : HO σ f_Rides_A f_Rides_n f_Rides_c f_Walk l_A l_n l_c R) : Al Tryz.prog 13 #[(.agg #[(.slice f_Rides_A f_Rides_n f_Rides_c), (.int .i64 f_Walk)]), (.slice l_A l_n l_c)] σ R :=
  Am AN M5 Tryz.func13 rfl (by kernel_rfl) (by kernel_rfl) (M := HO σ f_Rides_A f_Rides_n f_Rides_c f_Walk l_A l_n l_c R) (by kernel_rfl) h
theorem JY : AA Tryz.prog 13 = true := by kernel_rfl
abbrev Lv : FuncId := 8
def HG (σ : Hp) (f_Rides_A : Option Addr) (f_Rides_n : Nat) (f_Rides_c : Nat) (f_Walk : Int) (l_A : Option Addr) (l_n : Nat) (l_c : Nat) (R : Value → Hp → Prop) : Prop :=
  cl Tryz.prog (.func (.func 21) #[] #[]) #[(.agg #[(.slice f_Rides_A f_Rides_n f_Rides_c), (.int .i64 f_Walk)]), (.slice l_A l_n l_c)] σ (fun v1 σ2 => 
    ∃ n3 : Int, (v1 = (.int .i64 n3) ∧ bc (!decide (n3 = 0)) (rt σ2 R (.tuple #[(.slice none 0 0), (.int .i64 n3)])) (cl Tryz.prog (.func (.func 22) #[] #[]) #[(.agg #[(.slice f_Rides_A f_Rides_n f_Rides_c), (.int .i64 f_Walk)]), (.slice l_A l_n l_c)] σ2 (fun v4 σ5 => 
    ∃ p6 : Option Addr, (v4 = (.pointer p6) ∧ dr p6 (fun b7 o8 => ldS σ5 b7 (o8 + 4) (fun A9 l9 c9 => rt σ5 R (.tuple #[(.slice A9 l9 c9), (.int .i64 0)]))))))))
def MX : MAn := (.seq (.txt []) (.seq (.seq (.txt []) (.seq (.txt []) (.cond (.seq (.txt []) .leaf) .leaf))) (.seq (.txt []) .leaf)))
set_option maxRecDepth 100000 in
theorem Nm (σ : Hp) (f_Rides_A : Option Addr) (f_Rides_n : Nat) (f_Rides_c : Nat) (f_Walk : Int) (l_A : Option Addr) (l_n : Nat) (l_c : Nat) (R : Value → Hp → Prop) (h : HG σ f_Rides_A f_Rides_n f_Rides_c f_Walk l_A l_n l_c R) : Al Tryz.prog 8 #[(.agg #[(.slice f_Rides_A f_Rides_n f_Rides_c), (.int .i64 f_Walk)]), (.slice l_A l_n l_c)] σ R :=
  Am AN MX Tryz.func8 rfl (by kernel_rfl) (by kernel_rfl) (M := HG σ f_Rides_A f_Rides_n f_Rides_c f_Walk l_A l_n l_c R) (by kernel_rfl) h
theorem Kh : AA Tryz.prog 8 = true := by kernel_rfl
abbrev Nd : FuncId := 43
def EQ (σ : Hp) (f_Rides_A : Option Addr) (f_Rides_n : Nat) (f_Rides_c : Nat) (f_Walk : Int) (R : Value → Hp → Prop) : Prop :=
  cut (α := Hp → Prop) (fun  σ2 => ∀ _ : Nat → Value, rt σ2 R (.int .i64 0)) (fun J3 => cut (α := Bool → Hp → Prop) (fun t7 σ5 => 
    ∀ _ : Nat → Value, bc t7 (rt σ5 R (.int .i64 70)) (J3 σ5)) (fun J6 => bc (decide ((8 : Int) < ((f_Rides_n : Nat) : Int))) (J6 true σ) (cl Tryz.prog (.func (.func 46) #[] #[]) #[(.int .i64 f_Walk), (.int .i64 0), (.int .i64 100)] σ (fun v8 σ9 => 
    ∃ t10 : Bool, (v8 = (.bool t10) ∧ bc (!t10) (J6 true σ9) (cl Tryz.prog (.func (.func 80) #[] #[]) #[(.slice f_Rides_A f_Rides_n f_Rides_c), (.func (.func 79) #[] #[])] σ9 (fun v11 σ12 => 
    ∃ t13 : Bool, (v11 = (.bool t13) ∧ J6 t13 σ12))))))))
def AT : OA := ⟨[], false, []⟩
def J1 : MAn := (.seq (.txt []) (.seq (.txt []) (.cut ⟨[true], 1, [], []⟩ (.cut ⟨[true], 1, [.slot 19 (.sc (.bool))], []⟩ (.txt [AT, AT, AT, AT, ⟨[], true, []⟩, AT, AT, AT, AT, AT, ⟨[], true, []⟩]) (.cond (.seq (.txt []) .leaf) .leaf)) (.seq (.txt []) .leaf))))
set_option maxRecDepth 100000 in
theorem Kg (σ : Hp) (f_Rides_A : Option Addr) (f_Rides_n : Nat) (f_Rides_c : Nat) (f_Walk : Int) (R : Value → Hp → Prop) (h : EQ σ f_Rides_A f_Rides_n f_Rides_c f_Walk R) : Al Tryz.prog 43 #[(.agg #[(.slice f_Rides_A f_Rides_n f_Rides_c), (.int .i64 f_Walk)])] σ R :=
  Am AN J1 Tryz.func43 rfl (by kernel_rfl) (by kernel_rfl) (M := EQ σ f_Rides_A f_Rides_n f_Rides_c f_Walk R) (by kernel_rfl) h
theorem H3 : AA Tryz.prog 43 = true := by kernel_rfl
abbrev M3 : FuncId := 44
def ER (σ : Hp) (g_At : Int) (g_Size : Int) (g_Tokens : Int) (g_Wants_A : Option Addr) (g_Wants_n : Nat) (g_Wants_c : Nat) (g_Patience : Int) (cap0 : Option Addr) (R : Value → Hp → Prop) : Prop :=
  cl Tryz.prog (.func (.func 46) #[] #[]) #[(.int .i64 g_At), (.int .i64 0), (.int .i64 2000)] σ (fun v1 σ2 => 
    ∃ t3 : Bool, (v1 = (.bool t3) ∧ bc (!t3) (rt σ2 R (.bool true)) (cl Tryz.prog (.func (.func 46) #[] #[]) #[(.int .i64 g_Size), (.int .i64 1), (.int .i64 40)] σ2 (fun v4 σ5 => 
    ∃ t6 : Bool, (v4 = (.bool t6) ∧ bc (!t6) (rt σ5 R (.bool true)) (cl Tryz.prog (.func (.func 46) #[] #[]) #[(.int .i64 g_Tokens), (.int .i64 0), (.int .i64 10000)] σ5 (fun v7 σ8 => 
    ∃ t9 : Bool, (v7 = (.bool t9) ∧ bc (!t9) (rt σ8 R (.bool true)) (cl Tryz.prog (.func (.func 46) #[] #[]) #[(.int .i64 g_Patience), (.int .i64 0), (.int .i64 2000)] σ8 (fun v10 σ11 => 
    ∃ t12 : Bool, (v10 = (.bool t12) ∧ bc (!t12) (rt σ11 R (.bool true)) (bc (decide ((10 : Int) < ((g_Wants_n : Nat) : Int))) (rt σ11 R (.bool true)) (cl Tryz.prog (.func (.func 34) #[] #[]) #[(.slice g_Wants_A g_Wants_n g_Wants_c), (.func (.func 45) #[] #[(.pointer cap0)])] σ11 (fun v13 σ14 => 
    ∃ t15 : Bool, (v13 = (.bool t15) ∧ rt σ14 R (.bool t15))))))))))))))))
def Ax : OA := ⟨[], false, []⟩
def JW : MAn := (.seq (.txt []) (.seq (.txt []) (.seq (.txt [Ax, Ax, Ax, Ax, ⟨[], true, []⟩, Ax, Ax, Ax, Ax, Ax, ⟨[], true, []⟩, Ax, Ax, Ax, Ax, Ax, ⟨[], true, []⟩, Ax, Ax, Ax, Ax, Ax, ⟨[], true, []⟩, Ax, Ax, Ax, Ax, Ax, ⟨[], true, []⟩]) .leaf)))
set_option maxRecDepth 100000 in
theorem JX (σ : Hp) (g_At : Int) (g_Size : Int) (g_Tokens : Int) (g_Wants_A : Option Addr) (g_Wants_n : Nat) (g_Wants_c : Nat) (g_Patience : Int) (cap0 : Option Addr) (R : Value → Hp → Prop) (h : ER σ g_At g_Size g_Tokens g_Wants_A g_Wants_n g_Wants_c g_Patience cap0 R) : Al Tryz.prog 44 #[(.agg #[(.int .i64 g_At), (.int .i64 g_Size), (.int .i64 g_Tokens), (.slice g_Wants_A g_Wants_n g_Wants_c), (.int .i64 g_Patience)]), (.pointer cap0)] σ R :=
  Am AN JW Tryz.func44 rfl (by kernel_rfl) (by kernel_rfl) (M := ER σ g_At g_Size g_Tokens g_Wants_A g_Wants_n g_Wants_c g_Patience cap0 R) (by kernel_rfl) h
theorem Ir : AA Tryz.prog 44 = true := by kernel_rfl
def DS (σ : Hp) (n : Int) (cap0 : Option Addr) (R : Value → Hp → Prop) : Prop :=
  dr cap0 (fun b1 o2 => ldS σ b1 o2 (fun _ l3 _ => wk .i64 (((l3 : Nat) : Int) - 1) (fun n4 => cl Tryz.prog (.func (.func 46) #[] #[]) #[(.int .i64 n), (.int .i64 0), (.int .i64 n4)] σ (fun v5 σ6 => 
    ∃ t7 : Bool, (v5 = (.bool t7) ∧ rt σ6 R (.bool (!t7)))))))
def IY : MAn := (.seq (.txt []) (.seq (.txt []) .leaf))
set_option maxRecDepth 100000 in
theorem IA (σ : Hp) (n : Int) (cap0 : Option Addr) (R : Value → Hp → Prop) (h : DS σ n cap0 R) : Al Tryz.prog 45 #[(.int .i64 n), (.pointer cap0)] σ R :=
  Am AN IY Tryz.func45 rfl (by kernel_rfl) (by kernel_rfl) (M := DS σ n cap0 R) (by kernel_rfl) h
theorem GN : AA Tryz.prog 45 = true := by kernel_rfl
abbrev Iv : FuncId := 46
def Fp (σ : Hp) (n : Int) (low : Int) (high : Int) (R : Value → Hp → Prop) : Prop :=
  bc (decide (low ≤ n)) (rt σ R (.bool (decide (n ≤ high)))) (rt σ R (.bool false))
def Lr : MAn := (.seq (.txt []) (.seq (.txt [⟨[], false, []⟩, ⟨[], false, []⟩, ⟨[], false, []⟩, ⟨[], true, []⟩]) .leaf))
set_option maxRecDepth 100000 in
theorem KD (σ : Hp) (n : Int) (low : Int) (high : Int) (R : Value → Hp → Prop) (h : Fp σ n low high R) : Al Tryz.prog 46 #[(.int .i64 n), (.int .i64 low), (.int .i64 high)] σ R :=
  Am AN Lr Tryz.func46 rfl (by kernel_rfl) (by kernel_rfl) (M := Fp σ n low high R) (by kernel_rfl) h
theorem IV : AA Tryz.prog 46 = true := by kernel_rfl
abbrev F0 : FuncId := 34
def B2 (σ : Hp) (s_A : Option Addr) (s_n : Nat) (s_c : Nat) (f : Value) (R : Value → Hp → Prop) : Prop :=
  cl Tryz.prog (.func (.func 58) #[] #[]) #[(.slice s_A s_n s_c), f] σ (fun v1 σ2 => ∃ n3 : Int, (v1 = (.int .i64 n3) ∧ 
    rt σ2 R (.bool (decide ((0 : Int) ≤ n3)))))
def ET : MAn := (.seq (.txt []) (.seq (.txt []) .leaf))
set_option maxRecDepth 100000 in
theorem EI (σ : Hp) (s_A : Option Addr) (s_n : Nat) (s_c : Nat) (f : Value) (R : Value → Hp → Prop) (h : B2 σ s_A s_n s_c f R) : Al Tryz.prog 34 #[(.slice s_A s_n s_c), f] σ R :=
  Am AN ET Tryz.func34 rfl (by kernel_rfl) (by kernel_rfl) (M := B2 σ s_A s_n s_c f R) (by kernel_rfl) h
theorem Bw : AA Tryz.prog 34 = true := by kernel_rfl
abbrev D9 : FuncId := 47
def Bu (σ : Hp) (s_A : Option Addr) (s_n : Nat) (s_c : Nat) (f : Value) (R : Value → Hp → Prop) : Prop :=
  cl Tryz.prog (.func (.func 81) #[] #[]) #[(.slice s_A s_n s_c), f] σ (fun v1 σ2 => ∃ n3 : Int, (v1 = (.int .i64 n3) ∧ 
    rt σ2 R (.bool (decide ((0 : Int) ≤ n3)))))
def Dp : MAn := (.seq (.txt []) (.seq (.txt []) .leaf))
set_option maxRecDepth 100000 in
theorem DA (σ : Hp) (s_A : Option Addr) (s_n : Nat) (s_c : Nat) (f : Value) (R : Value → Hp → Prop) (h : Bu σ s_A s_n s_c f R) : Al Tryz.prog 47 #[(.slice s_A s_n s_c), f] σ R :=
  Am AN Dp Tryz.func47 rfl (by kernel_rfl) (by kernel_rfl) (M := Bu σ s_A s_n s_c f R) (by kernel_rfl) h
theorem CQ : AA Tryz.prog 47 = true := by kernel_rfl
abbrev GX : FuncId := 25
def Ce (σ : Hp) (f_Rides_A : Option Addr) (f_Rides_n : Nat) (f_Rides_c : Nat) (f_Walk : Int) (l_A : Option Addr) (l_n : Nat) (l_c : Nat) (elements : Value) (number : Value) (R : Value → Hp → Prop) : Prop :=
  cl Tryz.prog (.func (.func 21) #[] #[]) #[(.agg #[(.slice f_Rides_A f_Rides_n f_Rides_c), (.int .i64 f_Walk)]), (.slice l_A l_n l_c)] σ (fun v1 σ2 => 
    ∃ n3 : Int, (v1 = (.int .i64 n3) ∧ bc (!decide (n3 = 0)) (rt σ2 R (.tuple #[(.slice none 0 0), (.int .i64 n3)])) (cut (α := List Int → Hp → Prop) (fun xs7 σ5 => 
    ∀ _ : Nat → Value, exl 3 [.int .i64] xs7 σ5 (fun A8 l8 c8 σ9 => rt σ9 R (.tuple #[(.slice A8 l8 c8), (.int .i64 0)]))) (fun J6 => 
    cl Tryz.prog (.func (.func 22) #[] #[]) #[(.agg #[(.slice f_Rides_A f_Rides_n f_Rides_c), (.int .i64 f_Walk)]), (.slice l_A l_n l_c)] σ2 (fun v10 σ11 => 
    ∃ p12 : Option Addr, (v10 = (.pointer p12) ∧ cl Tryz.prog elements #[(.pointer p12)] σ11 (fun v13 σ14 => 
    ∃ A15 : Option Addr, ∃ l15 : Nat, ∃ c15 : Nat, (v13 = (.slice A15 l15 c15) ∧ ∃ I18 : Nat → List Int → Int → Hp → Prop, (∃ n190, adp 3 [.int .i64] none 0 0 σ14 (fun (xs20 : List Int) σ21 => 
    I18 n190 xs20 0 σ21)) ∧ ∀ n19 : Nat, ∀ xs22 : List Int, ∀ n23 : Int, ∀ σ17 : Hp, I18 n19 xs22 n23 σ17 → ∀ _ : Nat → Value, bc (decide (n23 < ((l15 : Nat) : Int))) (ix A15 l15 n23 1 (fun b24 a25 => 
    ldP σ17 b24 a25 (fun p26 => cl Tryz.prog number #[(.pointer p26)] σ17 (fun v27 σ28 => ∃ n29 : Int, (v27 = (.int .i64 n29) ∧ 
    B1 (List.length xs22 + List.length ([n29] : List Int)) (wk .i64 (n23 + 1) (fun n30 => bk σ28 n19 (fun m31 σ32 => 
    I18 m31 (xs22 ++ ([n29] : List Int)) n30 σ32)))))))) (J6 xs22 σ17)))))))))
def FS : MAn := (.seq (.txt []) (.seq (.seq (.txt []) (.seq (.txt []) (.cond (.seq (.txt []) .leaf) .leaf))) (.cut ⟨[true], 2, [.slot 8 (.lst 1 3 [.int .i64])], []⟩ (.seq (.txt []) (.block (.loop ⟨[true], 2, [.slot 8 (.lst 1 3 [.int .i64]), .slot 25 (.sc (.int .i64))], [(3, false), (23, true), (24, true)]⟩ (.seq (.txt []) (.seq (.cond .leaf .leaf) (.seq (.block (.seq (.txt []) (.txt []))) (.txt []))))))) (.seq (.txt []) .leaf))))
set_option maxRecDepth 100000 in
theorem Fz (σ : Hp) (f_Rides_A : Option Addr) (f_Rides_n : Nat) (f_Rides_c : Nat) (f_Walk : Int) (l_A : Option Addr) (l_n : Nat) (l_c : Nat) (elements : Value) (number : Value) (R : Value → Hp → Prop) (h : Ce σ f_Rides_A f_Rides_n f_Rides_c f_Walk l_A l_n l_c elements number R) : Al Tryz.prog 25 #[(.agg #[(.slice f_Rides_A f_Rides_n f_Rides_c), (.int .i64 f_Walk)]), (.slice l_A l_n l_c), elements, number] σ R :=
  Am AN FS Tryz.func25 rfl (by kernel_rfl) (by kernel_rfl) (M := Ce σ f_Rides_A f_Rides_n f_Rides_c f_Walk l_A l_n l_c elements number R) (by kernel_rfl) h
theorem EF : AA Tryz.prog 25 = true := by kernel_rfl
abbrev MW : FuncId := 26
def EZ (σ : Hp) (n : Option Addr) (R : Value → Hp → Prop) : Prop :=
  dr n (fun b1 o2 => ldS σ b1 (o2 + 2) (fun A3 l3 c3 => rt σ R (.slice A3 l3 c3)))
def Kw : MAn := (.seq (.txt []) (.seq (.txt []) .leaf))
set_option maxRecDepth 100000 in
theorem JZ (σ : Hp) (n : Option Addr) (R : Value → Hp → Prop) (h : EZ σ n R) : Al Tryz.prog 26 #[(.pointer n)] σ R :=
  Am AN Kw Tryz.func26 rfl (by kernel_rfl) (by kernel_rfl) (M := EZ σ n R) (by kernel_rfl) h
theorem H6 : AA Tryz.prog 26 = true := by kernel_rfl
abbrev GT : FuncId := 28
def Cc (σ : Hp) (f_Rides_A : Option Addr) (f_Rides_n : Nat) (f_Rides_c : Nat) (f_Walk : Int) (l_A : Option Addr) (l_n : Nat) (l_c : Nat) (elements : Value) (number : Value) (R : Value → Hp → Prop) : Prop :=
  cl Tryz.prog (.func (.func 21) #[] #[]) #[(.agg #[(.slice f_Rides_A f_Rides_n f_Rides_c), (.int .i64 f_Walk)]), (.slice l_A l_n l_c)] σ (fun v1 σ2 => 
    ∃ n3 : Int, (v1 = (.int .i64 n3) ∧ bc (!decide (n3 = 0)) (rt σ2 R (.tuple #[(.slice none 0 0), (.int .i64 n3)])) (cut (α := List Int → Hp → Prop) (fun xs7 σ5 => 
    ∀ _ : Nat → Value, exl 3 [.int .i64] xs7 σ5 (fun A8 l8 c8 σ9 => rt σ9 R (.tuple #[(.slice A8 l8 c8), (.int .i64 0)]))) (fun J6 => 
    cl Tryz.prog (.func (.func 22) #[] #[]) #[(.agg #[(.slice f_Rides_A f_Rides_n f_Rides_c), (.int .i64 f_Walk)]), (.slice l_A l_n l_c)] σ2 (fun v10 σ11 => 
    ∃ p12 : Option Addr, (v10 = (.pointer p12) ∧ cl Tryz.prog elements #[(.pointer p12)] σ11 (fun v13 σ14 => 
    ∃ A15 : Option Addr, ∃ l15 : Nat, ∃ c15 : Nat, (v13 = (.slice A15 l15 c15) ∧ ∃ I18 : Nat → List Int → Int → Hp → Prop, (∃ n190, adp 3 [.int .i64] none 0 0 σ14 (fun (xs20 : List Int) σ21 => 
    I18 n190 xs20 0 σ21)) ∧ ∀ n19 : Nat, ∀ xs22 : List Int, ∀ n23 : Int, ∀ σ17 : Hp, I18 n19 xs22 n23 σ17 → ∀ _ : Nat → Value, bc (decide (n23 < ((l15 : Nat) : Int))) (ix A15 l15 n23 1 (fun b24 a25 => 
    ldP σ17 b24 a25 (fun p26 => cl Tryz.prog number #[(.pointer p26)] σ17 (fun v27 σ28 => ∃ n29 : Int, (v27 = (.int .i64 n29) ∧ 
    B1 (List.length xs22 + List.length ([n29] : List Int)) (wk .i64 (n23 + 1) (fun n30 => bk σ28 n19 (fun m31 σ32 => 
    I18 m31 (xs22 ++ ([n29] : List Int)) n30 σ32)))))))) (J6 xs22 σ17)))))))))
def Fy : MAn := (.seq (.txt []) (.seq (.seq (.txt []) (.seq (.txt []) (.cond (.seq (.txt []) .leaf) .leaf))) (.cut ⟨[true], 2, [.slot 8 (.lst 1 3 [.int .i64])], []⟩ (.seq (.txt []) (.block (.loop ⟨[true], 2, [.slot 8 (.lst 1 3 [.int .i64]), .slot 25 (.sc (.int .i64))], [(3, false), (23, true), (24, true)]⟩ (.seq (.txt []) (.seq (.cond .leaf .leaf) (.seq (.block (.seq (.txt []) (.txt []))) (.txt []))))))) (.seq (.txt []) .leaf))))
set_option maxRecDepth 100000 in
theorem FJ (σ : Hp) (f_Rides_A : Option Addr) (f_Rides_n : Nat) (f_Rides_c : Nat) (f_Walk : Int) (l_A : Option Addr) (l_n : Nat) (l_c : Nat) (elements : Value) (number : Value) (R : Value → Hp → Prop) (h : Cc σ f_Rides_A f_Rides_n f_Rides_c f_Walk l_A l_n l_c elements number R) : Al Tryz.prog 28 #[(.agg #[(.slice f_Rides_A f_Rides_n f_Rides_c), (.int .i64 f_Walk)]), (.slice l_A l_n l_c), elements, number] σ R :=
  Am AN Fy Tryz.func28 rfl (by kernel_rfl) (by kernel_rfl) (M := Cc σ f_Rides_A f_Rides_n f_Rides_c f_Walk l_A l_n l_c elements number R) (by kernel_rfl) h
theorem EA : AA Tryz.prog 28 = true := by kernel_rfl
abbrev OG : FuncId := 29
def Gu (σ : Hp) (n : Option Addr) (R : Value → Hp → Prop) : Prop :=
  dr n (fun b1 o2 => ldS σ b1 (o2 + 1) (fun A3 l3 c3 => rt σ R (.slice A3 l3 c3)))
def LP : MAn := (.seq (.txt []) (.seq (.txt []) .leaf))
set_option maxRecDepth 100000 in
theorem L8 (σ : Hp) (n : Option Addr) (R : Value → Hp → Prop) (h : Gu σ n R) : Al Tryz.prog 29 #[(.pointer n)] σ R :=
  Am AN LP Tryz.func29 rfl (by kernel_rfl) (by kernel_rfl) (M := Gu σ n R) (by kernel_rfl) h
theorem JM : AA Tryz.prog 29 = true := by kernel_rfl
abbrev Nl : FuncId := 30
def EU (σ : Hp) (r : Option Addr) (R : Value → Hp → Prop) : Prop :=
  dr r (fun b1 o2 => ldI σ .i64 b1 (o2 + 9) (fun n3 => rt σ R (.int .i64 n3)))
def Ku : MAn := (.seq (.txt []) (.seq (.txt []) .leaf))
set_option maxRecDepth 100000 in
theorem Kt (σ : Hp) (r : Option Addr) (R : Value → Hp → Prop) (h : EU σ r R) : Al Tryz.prog 30 #[(.pointer r)] σ R :=
  Am AN Ku Tryz.func30 rfl (by kernel_rfl) (by kernel_rfl) (M := EU σ r R) (by kernel_rfl) h
theorem H9 : AA Tryz.prog 30 = true := by kernel_rfl
abbrev N8 : FuncId := 27
def Fu (σ : Hp) (p : Option Addr) (R : Value → Hp → Prop) : Prop :=
  dr p (fun b1 o2 => ldI σ .i64 b1 (o2 + 6) (fun n3 => rt σ R (.int .i64 n3)))
def KO : MAn := (.seq (.txt []) (.seq (.txt []) .leaf))
set_option maxRecDepth 100000 in
theorem KR (σ : Hp) (p : Option Addr) (R : Value → Hp → Prop) (h : Fu σ p R) : Al Tryz.prog 27 #[(.pointer p)] σ R :=
  Am AN KO Tryz.func27 rfl (by kernel_rfl) (by kernel_rfl) (M := Fu σ p R) (by kernel_rfl) h
theorem IL : AA Tryz.prog 27 = true := by kernel_rfl
abbrev Lu : FuncId := 79
def DV (σ : Hp) (b_Seats : Int) (b_Price : Int) (b_Cycle : Int) (b_Pause : Int) (_ : Bool) (R : Value → Hp → Prop) : Prop :=
  cl Tryz.prog (.func (.func 46) #[] #[]) #[(.int .i64 b_Seats), (.int .i64 1), (.int .i64 40)] σ (fun v1 σ2 => 
    ∃ t3 : Bool, (v1 = (.bool t3) ∧ bc (!t3) (rt σ2 R (.bool true)) (cl Tryz.prog (.func (.func 46) #[] #[]) #[(.int .i64 b_Price), (.int .i64 0), (.int .i64 100)] σ2 (fun v4 σ5 => 
    ∃ t6 : Bool, (v4 = (.bool t6) ∧ bc (!t6) (rt σ5 R (.bool true)) (cl Tryz.prog (.func (.func 46) #[] #[]) #[(.int .i64 b_Cycle), (.int .i64 1), (.int .i64 100)] σ5 (fun v7 σ8 => 
    ∃ t9 : Bool, (v7 = (.bool t9) ∧ bc (!t9) (rt σ8 R (.bool true)) (cl Tryz.prog (.func (.func 46) #[] #[]) #[(.int .i64 b_Pause), (.int .i64 0), (.int .i64 100)] σ8 (fun v10 σ11 => 
    ∃ t12 : Bool, (v10 = (.bool t12) ∧ rt σ11 R (.bool (!t12)))))))))))))
def AF : OA := ⟨[], false, []⟩
def IR : MAn := (.seq (.txt []) (.seq (.txt [AF, AF, AF, AF, ⟨[], true, []⟩, AF, AF, AF, AF, AF, ⟨[], true, []⟩, AF, AF, AF, AF, AF, ⟨[], true, []⟩]) .leaf))
set_option maxRecDepth 100000 in
theorem IE (σ : Hp) (b_Seats : Int) (b_Price : Int) (b_Cycle : Int) (b_Pause : Int) (b_Fill : Bool) (R : Value → Hp → Prop) (h : DV σ b_Seats b_Price b_Cycle b_Pause b_Fill R) : Al Tryz.prog 79 #[(.agg #[(.int .i64 b_Seats), (.int .i64 b_Price), (.int .i64 b_Cycle), (.int .i64 b_Pause), (.bool b_Fill)])] σ R :=
  Am AN IR Tryz.func79 rfl (by kernel_rfl) (by kernel_rfl) (M := DV σ b_Seats b_Price b_Cycle b_Pause b_Fill R) (by kernel_rfl) h
theorem GZ : AA Tryz.prog 79 = true := by kernel_rfl
abbrev Ec : FuncId := 80
def Bv (σ : Hp) (s_A : Option Addr) (s_n : Nat) (s_c : Nat) (f : Value) (R : Value → Hp → Prop) : Prop :=
  cl Tryz.prog (.func (.func 108) #[] #[]) #[(.slice s_A s_n s_c), f] σ (fun v1 σ2 => ∃ n3 : Int, (v1 = (.int .i64 n3) ∧ 
    rt σ2 R (.bool (decide ((0 : Int) ≤ n3)))))
def Df : MAn := (.seq (.txt []) (.seq (.txt []) .leaf))
set_option maxRecDepth 100000 in
theorem Dk (σ : Hp) (s_A : Option Addr) (s_n : Nat) (s_c : Nat) (f : Value) (R : Value → Hp → Prop) (h : Bv σ s_A s_n s_c f R) : Al Tryz.prog 80 #[(.slice s_A s_n s_c), f] σ R :=
  Am AN Df Tryz.func80 rfl (by kernel_rfl) (by kernel_rfl) (M := Bv σ s_A s_n s_c f R) (by kernel_rfl) h
theorem CN : AA Tryz.prog 80 = true := by kernel_rfl
abbrev HL : FuncId := 58
def Ch (σ : Hp) (s_A : Option Addr) (s_n : Nat) (_ : Nat) (f : Value) (R : Value → Hp → Prop) : Prop :=
  cut (α := Hp → Prop) (fun  σ2 => ∀ _ : Nat → Value, rt σ2 R (.int .i64 (-1))) (fun J3 => ∃ I6 : Nat → Int → Hp → Prop, (∃ n70, I6 n70 0 σ) ∧ 
    ∀ n7 : Nat, ∀ n8 : Int, ∀ σ5 : Hp, I6 n7 n8 σ5 → ∀ _ : Nat → Value, bc (decide (n8 < ((s_n : Nat) : Int))) (ix s_A s_n n8 1 (fun b9 a10 => 
    ldI σ5 .i64 b9 a10 (fun n11 => cl Tryz.prog f #[(.int .i64 n11)] σ5 (fun v12 σ13 => ∃ t14 : Bool, (v12 = (.bool t14) ∧ 
    bc t14 (rt σ13 R (.int .i64 n8)) (wk .i64 (n8 + 1) (fun n15 => bk σ13 n7 (fun m16 σ17 => I6 m16 n15 σ17)))))))) (J3 σ5))
def F4 : MAn := (.seq (.txt []) (.cut ⟨[], 0, [], []⟩ (.seq (.txt []) (.block (.loop ⟨[], 0, [.slot 8 (.sc (.int .i64))], [(0, true), (1, false), (7, true)]⟩ (.seq (.txt []) (.seq (.cond .leaf .leaf) (.seq (.block (.seq (.txt []) (.seq (.txt []) (.cond (.seq (.txt []) .leaf) .leaf)))) (.txt []))))))) (.seq (.txt []) .leaf)))
set_option maxRecDepth 100000 in
theorem F1 (σ : Hp) (s_A : Option Addr) (s_n : Nat) (s_c : Nat) (f : Value) (R : Value → Hp → Prop) (h : Ch σ s_A s_n s_c f R) : Al Tryz.prog 58 #[(.slice s_A s_n s_c), f] σ R :=
  Am AN F4 Tryz.func58 rfl (by kernel_rfl) (by kernel_rfl) (M := Ch σ s_A s_n s_c f R) (by kernel_rfl) h
theorem ES : AA Tryz.prog 58 = true := by kernel_rfl
abbrev EY : FuncId := 81
def BR (σ : Hp) (s_A : Option Addr) (s_n : Nat) (_ : Nat) (f : Value) (R : Value → Hp → Prop) : Prop :=
  cut (α := Hp → Prop) (fun  σ2 => ∀ _ : Nat → Value, rt σ2 R (.int .i64 (-1))) (fun J3 => ∃ I6 : Nat → Int → Hp → Prop, (∃ n70, I6 n70 0 σ) ∧ 
    ∀ n7 : Nat, ∀ n8 : Int, ∀ σ5 : Hp, I6 n7 n8 σ5 → ∀ _ : Nat → Value, bc (decide (n8 < ((s_n : Nat) : Int))) (ix s_A s_n n8 5 (fun b9 a10 => 
    ldI σ5 .i64 b9 a10 (fun n11 => ldI σ5 .i64 b9 (a10 + 1) (fun n12 => ldI σ5 .i64 b9 (a10 + 2) (fun n13 => 
    ldS σ5 b9 (a10 + 3) (fun A14 l14 c14 => ldI σ5 .i64 b9 (a10 + 4) (fun n15 => cl Tryz.prog f #[(.agg #[(.int .i64 n11), (.int .i64 n12), (.int .i64 n13), (.slice A14 l14 c14), (.int .i64 n15)])] σ5 (fun v16 σ17 => 
    ∃ t18 : Bool, (v16 = (.bool t18) ∧ bc t18 (rt σ17 R (.int .i64 n8)) (wk .i64 (n8 + 1) (fun n19 => bk σ17 n7 (fun m20 σ21 => 
    I6 m20 n19 σ21)))))))))))) (J3 σ5))
def Eg : MAn := (.seq (.txt []) (.cut ⟨[], 0, [], []⟩ (.seq (.txt []) (.block (.loop ⟨[], 0, [.slot 8 (.sc (.int .i64))], [(0, true), (1, false), (7, true)]⟩ (.seq (.txt []) (.seq (.cond .leaf .leaf) (.seq (.block (.seq (.txt []) (.seq (.txt []) (.cond (.seq (.txt []) .leaf) .leaf)))) (.txt []))))))) (.seq (.txt []) .leaf)))
set_option maxRecDepth 100000 in
theorem Ea (σ : Hp) (s_A : Option Addr) (s_n : Nat) (s_c : Nat) (f : Value) (R : Value → Hp → Prop) (h : BR σ s_A s_n s_c f R) : Al Tryz.prog 81 #[(.slice s_A s_n s_c), f] σ R :=
  Am AN Eg Tryz.func81 rfl (by kernel_rfl) (by kernel_rfl) (M := BR σ s_A s_n s_c f R) (by kernel_rfl) h
theorem Dx : AA Tryz.prog 81 = true := by kernel_rfl
abbrev Pv : FuncId := 54
def Ht (σ : Hp) (vals_A : Option Addr) (vals_n : Nat) (_ : Nat) (R : Value → Hp → Prop) : Prop :=
  cut (α := Hp → Prop) (fun  σ2 => ∀ _ : Nat → Value, rt σ2 R (.int .i64 0)) (fun J3 => ∃ I6 : Nat → Int → Hp → Prop, (∃ n70, I6 n70 0 σ) ∧ 
    ∀ n7 : Nat, ∀ n8 : Int, ∀ σ5 : Hp, I6 n7 n8 σ5 → ∀ _ : Nat → Value, bc (decide (n8 < ((vals_n : Nat) : Int))) (ix vals_A vals_n n8 1 (fun b9 a10 => 
    ldI σ5 .i64 b9 a10 (fun n11 => bc (!decide (n11 = 0)) (rt σ5 R (.int .i64 n11)) (wk .i64 (n8 + 1) (fun n12 => 
    bk σ5 n7 (fun m13 σ14 => I6 m13 n12 σ14)))))) (J3 σ5))
def Nj : MAn := (.seq (.txt []) (.seq (.txt []) (.cut ⟨[], 0, [], [(3, true)]⟩ (.seq (.txt []) (.block (.loop ⟨[], 0, [.slot 8 (.sc (.int .i64))], [(3, true), (6, true), (7, true)]⟩ (.seq (.txt []) (.seq (.cond .leaf .leaf) (.seq (.block (.seq (.txt []) (.seq (.txt []) (.cond (.seq (.txt []) .leaf) .leaf)))) (.txt []))))))) (.seq (.txt []) .leaf))))
set_option maxRecDepth 100000 in
theorem Ni (σ : Hp) (vals_A : Option Addr) (vals_n : Nat) (vals_c : Nat) (R : Value → Hp → Prop) (h : Ht σ vals_A vals_n vals_c R) : Al Tryz.prog 54 #[(.slice vals_A vals_n vals_c)] σ R :=
  Am AN Nj Tryz.func54 rfl (by kernel_rfl) (by kernel_rfl) (M := Ht σ vals_A vals_n vals_c R) (by kernel_rfl) h
theorem Km : AA Tryz.prog 54 = true := by kernel_rfl
abbrev EV : FuncId := 108
def BS (σ : Hp) (s_A : Option Addr) (s_n : Nat) (_ : Nat) (f : Value) (R : Value → Hp → Prop) : Prop :=
  cut (α := Hp → Prop) (fun  σ2 => ∀ _ : Nat → Value, rt σ2 R (.int .i64 (-1))) (fun J3 => ∃ I6 : Nat → Int → Hp → Prop, (∃ n70, I6 n70 0 σ) ∧ 
    ∀ n7 : Nat, ∀ n8 : Int, ∀ σ5 : Hp, I6 n7 n8 σ5 → ∀ _ : Nat → Value, bc (decide (n8 < ((s_n : Nat) : Int))) (ix s_A s_n n8 5 (fun b9 a10 => 
    ldI σ5 .i64 b9 a10 (fun n11 => ldI σ5 .i64 b9 (a10 + 1) (fun n12 => ldI σ5 .i64 b9 (a10 + 2) (fun n13 => 
    ldI σ5 .i64 b9 (a10 + 3) (fun n14 => ldB σ5 b9 (a10 + 4) (fun t15 => cl Tryz.prog f #[(.agg #[(.int .i64 n11), (.int .i64 n12), (.int .i64 n13), (.int .i64 n14), (.bool t15)])] σ5 (fun v16 σ17 => 
    ∃ t18 : Bool, (v16 = (.bool t18) ∧ bc t18 (rt σ17 R (.int .i64 n8)) (wk .i64 (n8 + 1) (fun n19 => bk σ17 n7 (fun m20 σ21 => 
    I6 m20 n19 σ21)))))))))))) (J3 σ5))
def Ef : MAn := (.seq (.txt []) (.cut ⟨[], 0, [], []⟩ (.seq (.txt []) (.block (.loop ⟨[], 0, [.slot 8 (.sc (.int .i64))], [(0, true), (1, false), (7, true)]⟩ (.seq (.txt []) (.seq (.cond .leaf .leaf) (.seq (.block (.seq (.txt []) (.seq (.txt []) (.cond (.seq (.txt []) .leaf) .leaf)))) (.txt []))))))) (.seq (.txt []) .leaf)))
set_option maxRecDepth 100000 in
theorem Ed (σ : Hp) (s_A : Option Addr) (s_n : Nat) (s_c : Nat) (f : Value) (R : Value → Hp → Prop) (h : BS σ s_A s_n s_c f R) : Al Tryz.prog 108 #[(.slice s_A s_n s_c), f] σ R :=
  Am AN Ef Tryz.func108 rfl (by kernel_rfl) (by kernel_rfl) (M := BS σ s_A s_n s_c f R) (by kernel_rfl) h
theorem Dm : AA Tryz.prog 108 = true := by kernel_rfl
abbrev DQ : FuncId := 53
def FE (σ : Hp) (a_Group : Int) (a_Want : Int) (_ : Int) (_ : Bool) (_ : Int) (a_Left : Int) (b_Group : Int) (b_Want : Int) (_ : Int) (_ : Bool) (_ : Int) (b_Left : Int) (R : Value → Hp → Prop) : Prop :=
  wk .i64 (a_Left - b_Left) (fun n1 => wk .i64 (a_Group - b_Group) (fun n2 => wk .i64 (a_Want - b_Want) (fun n3 => 
    exl 3 [.int .i64] ([n1, n2, n3] : List Int) σ (fun A4 l4 c4 σ5 => cl Tryz.prog (.func (.func 54) #[] #[]) #[(.slice A4 l4 c4)] σ5 (fun v6 σ7 => 
    ∃ n8 : Int, (v6 = (.int .i64 n8) ∧ rt σ7 R (.int .i64 n8)))))))
def KC : MAn := (.seq (.txt []) (.seq (.txt []) .leaf))
set_option maxRecDepth 100000 in
theorem KW (σ : Hp) (a_Group : Int) (a_Want : Int) (a_Ride : Int) (a_On : Bool) (a_Came : Int) (a_Left : Int) (b_Group : Int) (b_Want : Int) (b_Ride : Int) (b_On : Bool) (b_Came : Int) (b_Left : Int) (R : Value → Hp → Prop) (h : FE σ a_Group a_Want a_Ride a_On a_Came a_Left b_Group b_Want b_Ride b_On b_Came b_Left R) : Al Tryz.prog 53 #[(.agg #[(.int .i64 a_Group), (.int .i64 a_Want), (.int .i64 a_Ride), (.bool a_On), (.int .i64 a_Came), (.int .i64 a_Left)]), (.agg #[(.int .i64 b_Group), (.int .i64 b_Want), (.int .i64 b_Ride), (.bool b_On), (.int .i64 b_Came), (.int .i64 b_Left)])] σ R :=
  Am AN KC Tryz.func53 rfl (by kernel_rfl) (by kernel_rfl) (M := FE σ a_Group a_Want a_Ride a_On a_Came a_Left b_Group b_Want b_Ride b_On b_Came b_Left R) (by kernel_rfl) h
abbrev Ik : FuncId := 86
def Ct (σ : Hp) (s_group : Int) (s_came : Int) (cap0 : Option Addr) (cap1 : Option Addr) (R : Value → Hp → Prop) : Prop :=
  dr cap0 (fun b1 o2 => ldP σ b1 o2 (fun p3 => dr p3 (fun b4 o5 => ldI σ .i64 b4 (o5 + 3) (fun n6 => wk .i64 (n6 - s_came) (fun n7 => 
    dr cap0 (fun b8 o9 => ldP σ b8 o9 (fun p10 => dr p10 (fun b11 o12 => ldS σ b11 (o12 + 2) (fun A13 l13 _ => 
    ix A13 l13 s_group 1 (fun b14 a15 => ldP σ b14 a15 (fun p16 => dr p16 (fun b17 o18 => ldI σ .i64 b17 (o18 + 4) (fun n19 => 
    cut (α := Hp → Prop) (fun  σ21 => ∀ _ : Nat → Value, rt σ21 R (.bool (decide (n19 < n7)))) (fun J22 => 
    bc (decide (n19 < n7)) (dr cap1 (fun b23 o24 => ldS σ b23 o24 (fun A25 l25 c25 => adp 128 [.int .i64, .int .i64] A25 l25 c25 σ (fun (xs26 : List (Int × Int)) σ27 => 
    B1 (List.length xs26 + List.length ([(s_group, s_came)] : List (Int × Int))) (exl 128 [.int .i64, .int .i64] (xs26 ++ ([(s_group, s_came)] : List (Int × Int))) σ27 (fun A28 l28 c28 σ29 => 
    dr cap1 (fun b30 o31 => st σ29 b30 o31 (.slice A28 l28 c28) (fun σ32 => J22 σ32)))))))) (J22 σ)))))))))))))))
def Ar : OA := ⟨[], false, []⟩
def GA : MAn := (.seq (.txt []) (.seq (.plan [] (.take 0 Ar (.take 1 Ar (.take 2 Ar (.take 3 Ar (.take 4 Ar (.take 5 Ar (.take 6 Ar (.take 7 Ar (.take 8 Ar (.take 9 Ar (.take 10 Ar (.take 11 Ar (.take 12 Ar (.take 13 Ar (.take 14 Ar (.take 15 Ar (.take 16 Ar (.take 17 Ar (.take 18 Ar (.take 19 Ar (.take 20 Ar .done)))))))))))))))))))))) (.cut ⟨[true], 1, [], [(5, true)]⟩ (.seq (.txt []) (.cond (.txt []) .leaf)) (.seq (.txt []) .leaf))))
set_option maxRecDepth 100000 in
theorem Gy (σ : Hp) (s_group : Int) (s_came : Int) (cap0 : Option Addr) (cap1 : Option Addr) (R : Value → Hp → Prop) (h : Ct σ s_group s_came cap0 cap1 R) : Al Tryz.prog 86 #[(.agg #[(.int .i64 s_group), (.int .i64 s_came)]), (.pointer cap0), (.pointer cap1)] σ R :=
  Am AN GA Tryz.func86 rfl (by kernel_rfl) (by kernel_rfl) (M := Ct σ s_group s_came cap0 cap1 R) (by kernel_rfl) h
theorem Fa : AA Tryz.prog 86 = true := by kernel_rfl
abbrev Cw : FuncId := 88
def Cv (σ : Hp) (a_group : Int) (_ : Int) (b_group : Int) (_ : Int) (R : Value → Hp → Prop) : Prop :=
  wk .i64 (a_group - b_group) (fun n1 => rt σ R (.int .i64 n1))
def GC : MAn := (.seq (.txt []) (.seq (.txt []) .leaf))
set_option maxRecDepth 100000 in
theorem Gz (σ : Hp) (a_group : Int) (a_came : Int) (b_group : Int) (b_came : Int) (R : Value → Hp → Prop) (h : Cv σ a_group a_came b_group b_came R) : Al Tryz.prog 88 #[(.agg #[(.int .i64 a_group), (.int .i64 a_came)]), (.agg #[(.int .i64 b_group), (.int .i64 b_came)])] σ R :=
  Am AN GC Tryz.func88 rfl (by kernel_rfl) (by kernel_rfl) (M := Cv σ a_group a_came b_group b_came R) (by kernel_rfl) h
end Go.Proofs.YtecodlefcmjihaaGreat
