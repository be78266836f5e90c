/- Trimmed by wip/trim.py to what this claim rests on. -/
import Derived.Test.YtecodlefcmjihaaGreatWB11
namespace Go.Proofs.YtecodlefcmjihaaGreat
open Go.RowKit
theorem Bd : Tryz.prog.follows .mixedOrders = true := by kernel_rfl
abbrev HZ : FuncId := 33
def EL (σ : Hp) (n : Int) (low : Int) (high : Int) (R : Value → Hp → Prop) : Prop :=
  bc (decide (low ≤ n)) (rt σ R (.bool (decide (n ≤ high)))) (rt σ R (.bool false))
def Kf : MAn := (.seq (.txt []) (.seq (.txt [⟨[], false, []⟩, ⟨[], false, []⟩, ⟨[], false, []⟩, ⟨[], true, []⟩]) .leaf))
set_option maxRecDepth 100000 in
theorem Kr (σ : Hp) (n : Int) (low : Int) (high : Int) (R : Value → Hp → Prop) (h : EL σ n low high R) : Al Tryz.prog 33 #[(.int .i64 n), (.int .i64 low), (.int .i64 high)] σ R :=
  Am Bd Kf Tryz.func33 rfl (by kernel_rfl) (by kernel_rfl) (M := EL σ n low high R) (by kernel_rfl) h
theorem H1 : AA Tryz.prog 33 = true := by kernel_rfl
abbrev IC : FuncId := 17
def Fh (σ : Hp) (a0_Purses : Int) (a0_Boxes : Int) (a0_Stock_A : Option Addr) (a0_Stock_n : Nat) (a0_Stock_c : Nat) (a0_Cash_A : Option Addr) (a0_Cash_n : Nat) (a0_Cash_c : Nat) (a0_Bundles_A : Option Addr) (a0_Bundles_n : Nat) (a0_Bundles_c : Nat) (a0_Refund : Int) (a0_Band : Int) (a0_Hours : Int) (R : Value → Hp → Prop) : Prop :=
  cut (α := Bool → Hp → Prop) (fun t4 σ2 => ∀ _ : Nat → Value, cut (α := Bool → Hp → Prop) (fun t8 σ6 => 
    ∀ _ : Nat → Value, cut (α := Bool → Hp → Prop) (fun t12 σ10 => ∀ _ : Nat → Value, bc t12 (rt σ10 R (.int .i64 10)) (rt σ10 R (.int .i64 0))) (fun J11 => 
    bc t8 (J11 true σ6) (bx σ6 (.cells #[(.int .i64 a0_Purses), (.int .i64 a0_Boxes), (.slice a0_Stock_A a0_Stock_n a0_Stock_c), (.slice a0_Cash_A a0_Cash_n a0_Cash_c), (.slice a0_Bundles_A a0_Bundles_n a0_Bundles_c), (.int .i64 a0_Refund), (.int .i64 a0_Band), (.int .i64 a0_Hours)] 37) (fun b13 σ14 => 
    cl Tryz.prog (.func (.func 35) #[] #[]) #[(.slice a0_Bundles_A a0_Bundles_n a0_Bundles_c), (.func (.func 36) #[] #[(.pointer (some ⟨b13, 0, none⟩))])] σ14 (fun v15 σ16 => 
    ∃ t17 : Bool, (v15 = (.bool t17) ∧ J11 t17 σ16)))))) (fun J7 => bc t4 (J7 true σ2) (cl Tryz.prog (.func (.func 31) #[] #[]) #[(.int .i64 0), (.int .i64 100000)] σ2 (fun v18 σ19 => 
    ∃ v20 : Value, (v18 = v20 ∧ (Hp.Sub σ2 σ19 ∧ cl Tryz.prog (.func (.func 34) #[] #[]) #[(.slice a0_Stock_A a0_Stock_n a0_Stock_c), v20] σ19 (fun v21 σ22 => 
    ∃ t23 : Bool, (v21 = (.bool t23) ∧ bc t23 (J7 true σ22) (cl Tryz.prog (.func (.func 31) #[] #[]) #[(.int .i64 0), (.int .i64 1000000)] σ22 (fun v24 σ25 => 
    ∃ v26 : Value, (v24 = v26 ∧ (Hp.Sub σ22 σ25 ∧ cl Tryz.prog (.func (.func 34) #[] #[]) #[(.slice a0_Cash_A a0_Cash_n a0_Cash_c), v26] σ25 (fun v27 σ28 => 
    ∃ t29 : Bool, (v27 = (.bool t29) ∧ bc t29 (J7 true σ28) (cl Tryz.prog (.func (.func 33) #[] #[]) #[(.int .i64 a0_Refund), (.int .i64 0), (.int .i64 1000)] σ28 (fun v30 σ31 => 
    ∃ t32 : Bool, (v30 = (.bool t32) ∧ bc (!t32) (J7 true σ31) (cl Tryz.prog (.func (.func 33) #[] #[]) #[(.int .i64 a0_Band), (.int .i64 0), (.int .i64 1000000)] σ31 (fun v33 σ34 => 
    ∃ t35 : Bool, (v33 = (.bool t35) ∧ bc (!t35) (J7 true σ34) (cl Tryz.prog (.func (.func 33) #[] #[]) #[(.int .i64 a0_Hours), (.int .i64 1), (.int .i64 1440)] σ34 (fun v36 σ37 => 
    ∃ t38 : Bool, (v36 = (.bool t38) ∧ J7 (!t38) σ37))))))))))))))))))))))) (fun J3 => cl Tryz.prog (.func (.func 33) #[] #[]) #[(.int .i64 ((a0_Stock_n : Nat) : Int)), (.int .i64 1), (.int .i64 8)] σ (fun v39 σ40 => 
    ∃ t41 : Bool, (v39 = (.bool t41) ∧ bc (!t41) (J3 true σ40) (bc (!decide (((a0_Cash_n : Nat) : Int) = ((a0_Stock_n : Nat) : Int))) (J3 true σ40) (cl Tryz.prog (.func (.func 33) #[] #[]) #[(.int .i64 a0_Purses), (.int .i64 0), (.int .i64 20)] σ40 (fun v42 σ43 => 
    ∃ t44 : Bool, (v42 = (.bool t44) ∧ bc (!t44) (J3 true σ43) (cl Tryz.prog (.func (.func 33) #[] #[]) #[(.int .i64 a0_Boxes), (.int .i64 0), (.int .i64 12)] σ43 (fun v45 σ46 => 
    ∃ t47 : Bool, (v45 = (.bool t47) ∧ bc (!t47) (J3 true σ46) (J3 (decide ((6 : Int) < ((a0_Bundles_n : Nat) : Int))) σ46)))))))))))
def Ai : OA := ⟨[], false, []⟩
def KP : MAn := (.seq (.txt []) (.seq (.txt []) (.cut ⟨[true], 1, [.slot 1 (.hb 0 0), .slot 4 (.sc (.bool))], [(3, true)]⟩ (.txt [Ai, Ai, Ai, Ai, Ai, ⟨[], true, []⟩, Ai, Ai, Ai, Ai, Ai, Ai, Ai, Ai, ⟨[], true, []⟩, Ai, Ai, Ai, Ai, Ai, ⟨[], true, []⟩, Ai, Ai, Ai, Ai, Ai, ⟨[], true, []⟩]) (.cut ⟨[true], 1, [.slot 1 (.hb 0 0), .slot 4 (.sc (.bool))], []⟩ (.plan [6, 13, 18, 24, 30] (.take 0 Ai (.take 1 ⟨[], true, []⟩ (.take 2 Ai (.take 3 Ai (.take 4 Ai (.alt 5 true Ai (.alt 6 false Ai (.take 7 Ai (.take 8 ⟨[], true, []⟩ (.take 9 Ai (.take 10 Ai (.take 11 Ai (.alt 12 true Ai (.alt 13 false Ai (.take 14 Ai (.take 15 ⟨[], true, []⟩ (.take 16 Ai (.take 17 Ai (.alt 18 false Ai (.take 19 Ai (.take 20 Ai (.take 21 ⟨[], true, []⟩ (.take 22 Ai (.take 23 Ai (.alt 24 false Ai (.take 25 Ai (.take 26 Ai (.take 27 ⟨[], true, []⟩ (.take 28 Ai (.take 29 Ai (.alt 30 false Ai (.take 31 Ai (.take 32 Ai (.take 33 Ai .done))) .done)))))) .done)))))) .done))))) .done) .done)))))) .done) .done))))))) (.cut ⟨[false], 1, [.slot 4 (.sc (.bool))], []⟩ (.txt [Ai, ⟨[], true, []⟩]) (.seq (.seq (.txt []) (.cond (.seq (.txt []) .leaf) .leaf)) (.seq (.txt []) .leaf)))))))
set_option maxRecDepth 100000 in
theorem KQ (σ : Hp) (a0_Purses : Int) (a0_Boxes : Int) (a0_Stock_A : Option Addr) (a0_Stock_n : Nat) (a0_Stock_c : Nat) (a0_Cash_A : Option Addr) (a0_Cash_n : Nat) (a0_Cash_c : Nat) (a0_Bundles_A : Option Addr) (a0_Bundles_n : Nat) (a0_Bundles_c : Nat) (a0_Refund : Int) (a0_Band : Int) (a0_Hours : Int) (R : Value → Hp → Prop) (h : Fh σ a0_Purses a0_Boxes a0_Stock_A a0_Stock_n a0_Stock_c a0_Cash_A a0_Cash_n a0_Cash_c a0_Bundles_A a0_Bundles_n a0_Bundles_c a0_Refund a0_Band a0_Hours R) : Al Tryz.prog 17 #[(.agg #[(.int .i64 a0_Purses), (.int .i64 a0_Boxes), (.slice a0_Stock_A a0_Stock_n a0_Stock_c), (.slice a0_Cash_A a0_Cash_n a0_Cash_c), (.slice a0_Bundles_A a0_Bundles_n a0_Bundles_c), (.int .i64 a0_Refund), (.int .i64 a0_Band), (.int .i64 a0_Hours)])] σ R :=
  Am Bd KP Tryz.func17 rfl (by kernel_rfl) (by kernel_rfl) (M := Fh σ a0_Purses a0_Boxes a0_Stock_A a0_Stock_n a0_Stock_c a0_Cash_A a0_Cash_n a0_Cash_c a0_Bundles_A a0_Bundles_n a0_Bundles_c a0_Refund a0_Band a0_Hours R) (by kernel_rfl) h
theorem BI : AA Tryz.prog 17 = true := by kernel_rfl
abbrev LU : FuncId := 31
def Ej (σ : Hp) (low : Int) (high : Int) (R : Value → Hp → Prop) : Prop :=
  bx σ (.cells #[(.int .i64 low)] 3) (fun b1 σ2 => bx σ2 (.cells #[(.int .i64 high)] 3) (fun b3 σ4 => rt σ4 R (.func (.func 32) #[] #[(.pointer (some ⟨b1, 0, none⟩)), (.pointer (some ⟨b3, 0, none⟩))])))
def JJ : MAn := (.seq (.txt []) (.seq (.txt []) .leaf))
set_option maxRecDepth 100000 in
theorem JI (σ : Hp) (low : Int) (high : Int) (R : Value → Hp → Prop) (h : Ej σ low high R) : Al Tryz.prog 31 #[(.int .i64 low), (.int .i64 high)] σ R :=
  Am Bd JJ Tryz.func31 rfl (by kernel_rfl) (by kernel_rfl) (M := Ej σ low high R) (by kernel_rfl) h
theorem DP : AA Tryz.prog 31 = true := by kernel_rfl
abbrev FT : FuncId := 32
def Dg (σ : Hp) (n : Int) (cap0 : Option Addr) (cap1 : Option Addr) (R : Value → Hp → Prop) : Prop :=
  dr cap0 (fun b1 o2 => ldI σ .i64 b1 o2 (fun n3 => dr cap1 (fun b4 o5 => ldI σ .i64 b4 o5 (fun n6 => cl Tryz.prog (.func (.func 33) #[] #[]) #[(.int .i64 n), (.int .i64 n3), (.int .i64 n6)] σ (fun v7 σ8 => 
    ∃ t9 : Bool, (v7 = (.bool t9) ∧ rt σ8 R (.bool (!t9))))))))
def H7 : MAn := (.seq (.txt []) (.seq (.txt []) .leaf))
set_option maxRecDepth 100000 in
theorem Ig (σ : Hp) (n : Int) (cap0 : Option Addr) (cap1 : Option Addr) (R : Value → Hp → Prop) (h : Dg σ n cap0 cap1 R) : Al Tryz.prog 32 #[(.int .i64 n), (.pointer cap0), (.pointer cap1)] σ R :=
  Am Bd H7 Tryz.func32 rfl (by kernel_rfl) (by kernel_rfl) (M := Dg σ n cap0 cap1 R) (by kernel_rfl) h
theorem C3 : AA Tryz.prog 32 = true := by kernel_rfl
def Em (σ : Hp) (b_Tokens : Int) (b_Price : Int) (cap0 : Option Addr) (R : Value → Hp → Prop) : Prop :=
  cl Tryz.prog (.func (.func 33) #[] #[]) #[(.int .i64 b_Tokens), (.int .i64 1), (.int .i64 1000)] σ (fun v1 σ2 => 
    ∃ t3 : Bool, (v1 = (.bool t3) ∧ bc (!t3) (rt σ2 R (.bool true)) (cl Tryz.prog (.func (.func 33) #[] #[]) #[(.int .i64 b_Price), (.int .i64 1), (.int .i64 1000000)] σ2 (fun v4 σ5 => 
    ∃ t6 : Bool, (v4 = (.bool t6) ∧ bc (!t6) (rt σ5 R (.bool true)) (dr cap0 (fun b7 o8 => ldI σ5 .i64 b7 (o8 + 5) (fun n9 => 
    wk .i64 (n9 * b_Tokens) (fun n10 => rt σ5 R (.bool (decide (b_Price < n10))))))))))))
def AP : OA := ⟨[], false, []⟩
def JK : MAn := (.seq (.txt []) (.seq (.txt [AP, AP, AP, AP, ⟨[], true, []⟩, AP, AP, AP, AP, AP, ⟨[], true, []⟩]) .leaf))
set_option maxRecDepth 100000 in
theorem JF (σ : Hp) (b_Tokens : Int) (b_Price : Int) (cap0 : Option Addr) (R : Value → Hp → Prop) (h : Em σ b_Tokens b_Price cap0 R) : Al Tryz.prog 36 #[(.agg #[(.int .i64 b_Tokens), (.int .i64 b_Price)]), (.pointer cap0)] σ R :=
  Am Bd JK Tryz.func36 rfl (by kernel_rfl) (by kernel_rfl) (M := Em σ b_Tokens b_Price cap0 R) (by kernel_rfl) h
theorem Hj : AA Tryz.prog 36 = true := by kernel_rfl
abbrev OD : FuncId := 11
def Gp (σ : Hp) (f_Purses : Int) (f_Boxes : Int) (f_Stock_A : Option Addr) (f_Stock_n : Nat) (f_Stock_c : Nat) (f_Cash_A : Option Addr) (f_Cash_n : Nat) (f_Cash_c : Nat) (f_Bundles_A : Option Addr) (f_Bundles_n : Nat) (f_Bundles_c : Nat) (f_Refund : Int) (f_Band : Int) (f_Hours : Int) (l_A : Option Addr) (l_n : Nat) (l_c : Nat) (R : Value → Hp → Prop) : Prop :=
  cl Tryz.prog (.func (.func 23) #[] #[]) #[(.agg #[(.int .i64 f_Purses), (.int .i64 f_Boxes), (.slice f_Stock_A f_Stock_n f_Stock_c), (.slice f_Cash_A f_Cash_n f_Cash_c), (.slice f_Bundles_A f_Bundles_n f_Bundles_c), (.int .i64 f_Refund), (.int .i64 f_Band), (.int .i64 f_Hours)]), (.slice l_A l_n l_c), (.func (.func 24) #[] #[])] σ (fun v1 σ2 => 
    ∃ p3 : Option Addr, ∃ n4 : Int, ∃ n5 : Int, (v1 = (.tuple #[(.pointer p3), (.int .i64 n4), (.int .i64 n5)]) ∧ 
    bc (!decide (n5 = 0)) (rt σ2 R (.tuple #[(.agg #[(.slice none 0 0), (.slice none 0 0), (.slice none 0 0), (.slice none 0 0), (.int .i64 0)]), (.int .i64 n5)])) (dr p3 (fun b6 o7 => 
    ldS σ2 b6 (o7 + 8) (fun A8 l8 c8 => ldS σ2 b6 ((o7 + 8) + 1) (fun A9 l9 c9 => ldS σ2 b6 ((o7 + 8) + 2) (fun A10 l10 c10 => 
    ldS σ2 b6 ((o7 + 8) + 3) (fun A11 l11 c11 => ldI σ2 .i64 b6 ((o7 + 8) + 4) (fun n12 => rt σ2 R (.tuple #[(.agg #[(.slice A8 l8 c8), (.slice A9 l9 c9), (.slice A10 l10 c10), (.slice A11 l11 c11), (.int .i64 n12)]), (.int .i64 0)]))))))))))
def Mb : MAn := (.seq (.txt []) (.seq (.txt []) (.seq (.seq (.txt []) (.cond (.seq (.txt []) .leaf) .leaf)) (.seq (.txt []) .leaf))))
set_option maxRecDepth 100000 in
theorem Mt (σ : Hp) (f_Purses : Int) (f_Boxes : Int) (f_Stock_A : Option Addr) (f_Stock_n : Nat) (f_Stock_c : Nat) (f_Cash_A : Option Addr) (f_Cash_n : Nat) (f_Cash_c : Nat) (f_Bundles_A : Option Addr) (f_Bundles_n : Nat) (f_Bundles_c : Nat) (f_Refund : Int) (f_Band : Int) (f_Hours : Int) (l_A : Option Addr) (l_n : Nat) (l_c : Nat) (R : Value → Hp → Prop) (h : Gp σ f_Purses f_Boxes f_Stock_A f_Stock_n f_Stock_c f_Cash_A f_Cash_n f_Cash_c f_Bundles_A f_Bundles_n f_Bundles_c f_Refund f_Band f_Hours l_A l_n l_c R) : Al Tryz.prog 11 #[(.agg #[(.int .i64 f_Purses), (.int .i64 f_Boxes), (.slice f_Stock_A f_Stock_n f_Stock_c), (.slice f_Cash_A f_Cash_n f_Cash_c), (.slice f_Bundles_A f_Bundles_n f_Bundles_c), (.int .i64 f_Refund), (.int .i64 f_Band), (.int .i64 f_Hours)]), (.slice l_A l_n l_c)] σ R :=
  Am Bd Mb Tryz.func11 rfl (by kernel_rfl) (by kernel_rfl) (M := Gp σ f_Purses f_Boxes f_Stock_A f_Stock_n f_Stock_c f_Cash_A f_Cash_n f_Cash_c f_Bundles_A f_Bundles_n f_Bundles_c f_Refund f_Band f_Hours l_A l_n l_c R) (by kernel_rfl) h
theorem JG : AA Tryz.prog 11 = true := by kernel_rfl
abbrev Oz : FuncId := 23
def GF (σ : Hp) (f_Purses : Int) (f_Boxes : Int) (f_Stock_A : Option Addr) (f_Stock_n : Nat) (f_Stock_c : Nat) (f_Cash_A : Option Addr) (f_Cash_n : Nat) (f_Cash_c : Nat) (f_Bundles_A : Option Addr) (f_Bundles_n : Nat) (f_Bundles_c : Nat) (f_Refund : Int) (f_Band : Int) (f_Hours : Int) (l_A : Option Addr) (l_n : Nat) (_ : Nat) (seen : Value) (R : Value → Hp → Prop) : Prop :=
  cl Tryz.prog (.func (.func 17) #[] #[]) #[(.agg #[(.int .i64 f_Purses), (.int .i64 f_Boxes), (.slice f_Stock_A f_Stock_n f_Stock_c), (.slice f_Cash_A f_Cash_n f_Cash_c), (.slice f_Bundles_A f_Bundles_n f_Bundles_c), (.int .i64 f_Refund), (.int .i64 f_Band), (.int .i64 f_Hours)])] σ (fun v1 σ2 => 
    ∃ n3 : Int, (v1 = (.int .i64 n3) ∧ bc (!decide (n3 = 0)) (rt σ2 R (.tuple #[(.pointer none), (.int .i64 0), (.int .i64 n3)])) (bc (decide ((200 : Int) < ((l_n : Nat) : Int))) (rt σ2 R (.tuple #[(.pointer none), (.int .i64 0), (.int .i64 2)])) (cl Tryz.prog (.func (.func 55) #[] #[]) #[(.agg #[(.int .i64 f_Purses), (.int .i64 f_Boxes), (.slice f_Stock_A f_Stock_n f_Stock_c), (.slice f_Cash_A f_Cash_n f_Cash_c), (.slice f_Bundles_A f_Bundles_n f_Bundles_c), (.int .i64 f_Refund), (.int .i64 f_Band), (.int .i64 f_Hours)])] σ2 (fun v4 σ5 => 
    ∃ p6 : Option Addr, (v4 = (.pointer p6) ∧ cut (α := Option Addr → Hp → Prop) (fun p10 σ8 => ∀ _ : Nat → Value, 
    rt σ8 R (.tuple #[(.pointer p10), (.int .i64 0), (.int .i64 0)])) (fun J9 => ∃ I13 : Nat → Option Addr → Int → Hp → Prop, (∃ n140, I13 n140 p6 0 σ5) ∧ 
    ∀ n14 : Nat, ∀ p15 : Option Addr, ∀ n16 : Int, ∀ σ12 : Hp, I13 n14 p15 n16 σ12 → ∀ _ : Nat → Value, bc (decide (n16 < ((l_n : Nat) : Int))) (ix l_A l_n n16 5 (fun b17 a18 => 
    ldI σ12 .i64 b17 a18 (fun n19 => ldI σ12 .i64 b17 (a18 + 1) (fun n20 => ldI σ12 .i64 b17 (a18 + 2) (fun n21 => 
    ldI σ12 .i64 b17 (a18 + 3) (fun n22 => ldI σ12 .i64 b17 (a18 + 4) (fun n23 => cl Tryz.prog (.func (.func 56) #[] #[]) #[(.pointer p15), (.agg #[(.int .i64 n19), (.int .i64 n20), (.int .i64 n21), (.int .i64 n22), (.int .i64 n23)])] σ12 (fun v24 σ25 => 
    ∃ t26 : Bool, (v24 = (.bool t26) ∧ bc (!t26) (rt σ25 R (.tuple #[(.pointer none), (.int .i64 n16), (.int .i64 11)])) (cl Tryz.prog (.func (.func 57) #[] #[]) #[(.pointer p15), (.agg #[(.int .i64 n19), (.int .i64 n20), (.int .i64 n21), (.int .i64 n22), (.int .i64 n23)])] σ25 (fun _ σ28 => 
    cl Tryz.prog seen #[(.pointer p15)] σ28 (fun _ σ30 => wk .i64 (n16 + 1) (fun n31 => bk σ30 n14 (fun m32 σ33 => 
    I13 m32 p15 n31 σ33)))))))))))))) (J9 p15 σ12))))))))
def Ma : MAn := (.seq (.txt []) (.seq (.seq (.txt []) (.seq (.txt []) (.cond (.seq (.txt []) .leaf) .leaf))) (.seq (.seq (.txt []) (.cond (.seq (.txt []) .leaf) .leaf)) (.seq (.txt []) (.cut ⟨[true], 1, [.slot 6 (.sc (.ptr))], []⟩ (.seq (.txt []) (.block (.loop ⟨[true], 1, [.slot 6 (.sc (.ptr)), .slot 24 (.sc (.int .i64))], [(2, false), (22, true), (23, true)]⟩ (.seq (.txt []) (.seq (.cond .leaf .leaf) (.seq (.block (.seq (.txt []) (.seq (.seq (.txt []) (.cond (.seq (.txt []) .leaf) .leaf)) (.seq (.txt []) (.txt []))))) (.txt []))))))) (.seq (.txt []) .leaf))))))
set_option maxRecDepth 100000 in
theorem LW (σ : Hp) (f_Purses : Int) (f_Boxes : Int) (f_Stock_A : Option Addr) (f_Stock_n : Nat) (f_Stock_c : Nat) (f_Cash_A : Option Addr) (f_Cash_n : Nat) (f_Cash_c : Nat) (f_Bundles_A : Option Addr) (f_Bundles_n : Nat) (f_Bundles_c : Nat) (f_Refund : Int) (f_Band : Int) (f_Hours : Int) (l_A : Option Addr) (l_n : Nat) (l_c : Nat) (seen : Value) (R : Value → Hp → Prop) (h : GF σ f_Purses f_Boxes f_Stock_A f_Stock_n f_Stock_c f_Cash_A f_Cash_n f_Cash_c f_Bundles_A f_Bundles_n f_Bundles_c f_Refund f_Band f_Hours l_A l_n l_c seen R) : Al Tryz.prog 23 #[(.agg #[(.int .i64 f_Purses), (.int .i64 f_Boxes), (.slice f_Stock_A f_Stock_n f_Stock_c), (.slice f_Cash_A f_Cash_n f_Cash_c), (.slice f_Bundles_A f_Bundles_n f_Bundles_c), (.int .i64 f_Refund), (.int .i64 f_Band), (.int .i64 f_Hours)]), (.slice l_A l_n l_c), seen] σ R :=
  Am Bd Ma Tryz.func23 rfl (by kernel_rfl) (by kernel_rfl) (M := GF σ f_Purses f_Boxes f_Stock_A f_Stock_n f_Stock_c f_Cash_A f_Cash_n f_Cash_c f_Bundles_A f_Bundles_n f_Bundles_c f_Refund f_Band f_Hours l_A l_n l_c seen R) (by kernel_rfl) h
theorem JO : AA Tryz.prog 23 = true := by kernel_rfl
abbrev IF : FuncId := 24
def Fj (σ : Hp) (_ : Option Addr) (R : Value → Hp → Prop) : Prop :=
  rt σ R (.tuple #[])
def LG : MAn := .leaf
set_option maxRecDepth 100000 in
theorem K8 (σ : Hp) (a0 : Option Addr) (R : Value → Hp → Prop) (h : Fj σ a0 R) : Al Tryz.prog 24 #[(.pointer a0)] σ R :=
  Am Bd LG Tryz.func24 rfl (by kernel_rfl) (by kernel_rfl) (M := Fj σ a0 R) (by kernel_rfl) h
theorem Je : AA Tryz.prog 24 = true := by kernel_rfl
abbrev HE : FuncId := 56
def Cg (σ : Hp) (a0 : Option Addr) (a1_At : Int) (a1_Kind : Int) (a1_A : Int) (a1_B : Int) (a1_N : Int) (R : Value → Hp → Prop) : Prop :=
  cut (α := Hp → Prop) (fun  σ2 => ∀ _ : Nat → Value, bc (decide (a1_Kind = 1)) (cl Tryz.prog (.func (.func 93) #[] #[]) #[(.pointer a0), (.int .i64 a1_A)] σ2 (fun v4 σ5 => 
    ∃ t6 : Bool, (v4 = (.bool t6) ∧ bc t6 (cl Tryz.prog (.func (.func 94) #[] #[]) #[(.pointer a0), (.int .i64 a1_B)] σ5 (fun v7 σ8 => 
    ∃ t9 : Bool, (v7 = (.bool t9) ∧ bc t9 (dr a0 (fun b10 o11 => ldS σ8 b10 (o11 + 4) (fun _ l12 _ => 
    wk .i64 (((l12 : Nat) : Int) - 1) (fun n13 => cl Tryz.prog (.func (.func 33) #[] #[]) #[(.int .i64 a1_N), (.int .i64 0), (.int .i64 n13)] σ8 (fun v14 σ15 => 
    ∃ t16 : Bool, (v14 = (.bool t16) ∧ bc t16 (dr a0 (fun b17 o18 => ldS σ15 b17 (o18 + 8) (fun A19 l19 _ => 
    ix A19 l19 a1_A 1 (fun b20 a21 => ldI σ15 .i64 b20 a21 (fun n22 => dr a0 (fun b23 o24 => ldS σ15 b23 (o24 + 4) (fun A25 l25 _ => 
    ix A25 l25 a1_N 2 (fun b26 a27 => ldI σ15 .i64 b26 a27 (fun n28 => rt σ15 R (.bool (decide (n28 ≤ n22)))))))))))) (rt σ15 R (.bool false)))))))) (rt σ8 R (.bool false))))) (rt σ5 R (.bool false))))) (bc (decide (a1_Kind = 2)) (cl Tryz.prog (.func (.func 94) #[] #[]) #[(.pointer a0), (.int .i64 a1_A)] σ2 (fun v29 σ30 => 
    ∃ t31 : Bool, (v29 = (.bool t31) ∧ bc t31 (cl Tryz.prog (.func (.func 95) #[] #[]) #[(.pointer a0), (.int .i64 a1_B)] σ30 (fun v32 σ33 => 
    ∃ t34 : Bool, (v32 = (.bool t34) ∧ bc t34 (cl Tryz.prog (.func (.func 33) #[] #[]) #[(.int .i64 a1_N), (.int .i64 0), (.int .i64 1000)] σ33 (fun v35 σ36 => 
    ∃ t37 : Bool, (v35 = (.bool t37) ∧ bc t37 (cl Tryz.prog (.func (.func 96) #[] #[]) #[(.pointer a0), (.int .i64 a1_A), (.int .i64 a1_At)] σ36 (fun v38 σ39 => 
    ∃ t40 : Bool, (v38 = (.bool t40) ∧ bc t40 (rt σ39 R (.bool true)) (dr a0 (fun b41 o42 => ldS σ39 b41 ((o42 + 8) + 2) (fun A43 l43 _ => 
    ix A43 l43 a1_A 2 (fun b44 a45 => ldI σ39 .i64 b44 a45 (fun n46 => rt σ39 R (.bool (decide (a1_N ≤ n46))))))))))) (rt σ36 R (.bool false))))) (rt σ33 R (.bool false))))) (rt σ30 R (.bool false))))) (bc (decide (a1_Kind = 3)) (cl Tryz.prog (.func (.func 93) #[] #[]) #[(.pointer a0), (.int .i64 a1_A)] σ2 (fun v47 σ48 => 
    ∃ t49 : Bool, (v47 = (.bool t49) ∧ bc t49 (cl Tryz.prog (.func (.func 94) #[] #[]) #[(.pointer a0), (.int .i64 a1_B)] σ48 (fun v50 σ51 => 
    ∃ t52 : Bool, (v50 = (.bool t52) ∧ bc t52 (rt σ51 R (.bool (decide (a1_N = 0)))) (rt σ51 R (.bool false))))) (rt σ48 R (.bool false))))) (bc (decide (a1_Kind = 4)) (cl Tryz.prog (.func (.func 93) #[] #[]) #[(.pointer a0), (.int .i64 a1_A)] σ2 (fun v53 σ54 => 
    ∃ t55 : Bool, (v53 = (.bool t55) ∧ bc t55 (cl Tryz.prog (.func (.func 97) #[] #[]) #[(.pointer a0), (.int .i64 a1_B), (.int .i64 a1_N)] σ54 (fun v56 σ57 => 
    ∃ t58 : Bool, (v56 = (.bool t58) ∧ bc t58 (dr a0 (fun b59 o60 => ldS σ57 b59 ((o60 + 8) + 1) (fun A61 l61 _ => 
    ix A61 l61 a1_A 1 (fun b62 a63 => ldI σ57 .i64 b62 a63 (fun n64 => dr a0 (fun b65 o66 => ldI σ57 .i64 b65 (o66 + 5) (fun n67 => 
    wk .i64 (a1_N * n67) (fun n68 => rt σ57 R (.bool (decide (n68 ≤ n64))))))))))) (rt σ57 R (.bool false))))) (rt σ54 R (.bool false))))) (bc (decide (a1_Kind = 5)) (cl Tryz.prog (.func (.func 93) #[] #[]) #[(.pointer a0), (.int .i64 a1_A)] σ2 (fun v69 σ70 => 
    ∃ t71 : Bool, (v69 = (.bool t71) ∧ bc t71 (cl Tryz.prog (.func (.func 95) #[] #[]) #[(.pointer a0), (.int .i64 a1_B)] σ70 (fun v72 σ73 => 
    ∃ t74 : Bool, (v72 = (.bool t74) ∧ bc t74 (rt σ73 R (.bool (decide (a1_N = 0)))) (rt σ73 R (.bool false))))) (rt σ70 R (.bool false))))) (bc (decide (a1_Kind = 6)) (cl Tryz.prog (.func (.func 97) #[] #[]) #[(.pointer a0), (.int .i64 a1_A), (.int .i64 a1_N)] σ2 (fun v75 σ76 => 
    ∃ t77 : Bool, (v75 = (.bool t77) ∧ bc t77 (cl Tryz.prog (.func (.func 94) #[] #[]) #[(.pointer a0), (.int .i64 a1_B)] σ76 (fun v78 σ79 => 
    ∃ t80 : Bool, (v78 = (.bool t80) ∧ bc t80 (rt σ79 R (.bool (!decide (a1_A = a1_B)))) (rt σ79 R (.bool false))))) (rt σ76 R (.bool false))))) (bc (decide (a1_Kind = 7)) (cl Tryz.prog (.func (.func 97) #[] #[]) #[(.pointer a0), (.int .i64 a1_A), (.int .i64 a1_N)] σ2 (fun v81 σ82 => 
    ∃ t83 : Bool, (v81 = (.bool t83) ∧ bc t83 (rt σ82 R (.bool (decide (a1_B = 0)))) (rt σ82 R (.bool false))))) (rt σ2 R (.bool false))))))))) (fun J3 => 
    cut (α := Bool → Hp → Prop) (fun t87 σ85 => ∀ _ : Nat → Value, bc t87 (rt σ85 R (.bool false)) (J3 σ85)) (fun J86 => 
    dr a0 (fun b88 o89 => ldI σ .i64 b88 (o89 + 13) (fun n90 => cl Tryz.prog (.func (.func 33) #[] #[]) #[(.int .i64 a1_At), (.int .i64 n90), (.int .i64 1440)] σ (fun v91 σ92 => 
    ∃ t93 : Bool, (v91 = (.bool t93) ∧ bc (!t93) (J86 true σ92) (J86 (decide ((100000 : Int) < a1_N)) σ92)))))))
def Aa : OA := ⟨[], false, []⟩
def CT : MAn := (.seq (.txt [Aa, Aa, Aa, Aa, ⟨[], true, []⟩, Aa, Aa, Aa, Aa, Aa, ⟨[], true, []⟩]) .leaf)
def F7 : MAn := (.seq (.txt []) (.cut ⟨[true], 1, [.slot 3 (.hb 0 0)], [(0, true)]⟩ (.cut ⟨[true], 1, [.slot 3 (.hb 0 0), .slot 17 (.sc (.bool))], [(0, true)]⟩ (.plan [6] (.take 0 Aa (.take 1 Aa (.take 2 Aa (.take 3 Aa (.take 4 Aa (.take 5 Aa (.alt 6 false Aa (.take 7 Aa (.take 8 ⟨[], true, []⟩ (.take 9 Aa (.take 10 Aa (.take 11 Aa (.take 12 Aa .done)))))) .done)))))))) (.cond (.seq (.txt []) .leaf) .leaf)) (.seq (.seq (.txt []) (.block (.seq (.txt []) (.cond (.seq (.plan [3, 8, 20] (.take 0 Aa (.take 1 Aa (.take 2 Aa (.alt 3 false Aa (.take 4 ⟨[], true, []⟩ (.take 5 Aa (.take 6 Aa (.take 7 Aa (.alt 8 false Aa (.take 9 Aa (.take 10 ⟨[], true, []⟩ (.take 11 Aa (.take 12 Aa (.take 13 Aa (.take 14 Aa (.take 15 Aa (.take 16 Aa (.take 17 Aa (.take 18 Aa (.take 19 Aa (.alt 20 false Aa (.take 21 Aa (.take 22 ⟨[], true, []⟩ (.take 23 Aa (.take 24 Aa (.take 25 Aa (.take 26 Aa (.take 27 Aa (.take 28 Aa (.take 29 Aa (.take 30 Aa (.take 31 Aa (.take 32 Aa (.take 33 Aa (.take 34 Aa (.take 35 Aa (.take 36 Aa (.take 37 Aa (.take 38 Aa (.take 39 Aa (.take 40 Aa (.take 41 Aa (.take 42 Aa (.take 43 Aa (.take 44 Aa .done)))))))))))))))))))))))) .done)))))))))))) .done))))) .done))))) .leaf) (.seq (.txt []) (.cond (.seq (.plan [3, 8, 13, 21] (.take 0 Aa (.take 1 Aa (.take 2 Aa (.alt 3 false Aa (.take 4 ⟨[], true, []⟩ (.take 5 Aa (.take 6 Aa (.take 7 Aa (.alt 8 false Aa (.take 9 Aa (.take 10 ⟨[], true, []⟩ (.take 11 Aa (.take 12 Aa (.alt 13 false Aa (.take 14 Aa (.take 15 ⟨[], true, []⟩ (.take 16 Aa (.take 17 Aa (.take 18 Aa (.take 19 Aa (.take 20 Aa (.alt 21 false Aa (.take 22 ⟨[], true, []⟩ (.take 23 Aa (.take 24 Aa (.take 25 Aa (.take 26 Aa (.take 27 Aa (.take 28 Aa (.take 29 Aa (.take 30 Aa (.take 31 Aa (.take 32 Aa (.take 33 Aa (.take 34 Aa (.take 35 Aa (.take 36 Aa (.take 37 Aa (.take 38 Aa .done))))))))))))))))) .done)))))))) .done))))) .done))))) .done))))) .leaf) (.seq (.txt []) (.cond CT (.seq (.txt []) (.cond (.seq (.plan [3, 10] (.take 0 Aa (.take 1 Aa (.take 2 Aa (.alt 3 false Aa (.take 4 ⟨[], true, []⟩ (.take 5 Aa (.take 6 Aa (.take 7 Aa (.take 8 Aa (.take 9 Aa (.alt 10 false Aa (.take 11 Aa (.take 12 ⟨[], true, []⟩ (.take 13 Aa (.take 14 Aa (.take 15 Aa (.take 16 Aa (.take 17 Aa (.take 18 Aa (.take 19 Aa (.take 20 Aa (.take 21 Aa (.take 22 Aa (.take 23 Aa (.take 24 Aa (.take 25 Aa (.take 26 Aa (.take 27 Aa (.take 28 Aa (.take 29 Aa (.take 30 Aa (.take 31 Aa (.take 32 Aa .done)))))))))))))))))))))) .done))))))) .done))))) .leaf) (.seq (.txt []) (.cond CT (.seq (.txt []) (.cond (.seq (.txt [Aa, Aa, Aa, Aa, Aa, Aa, ⟨[], true, []⟩, Aa, Aa, Aa, Aa, Aa, ⟨[], true, []⟩]) .leaf) (.seq (.txt []) (.cond (.seq (.txt [Aa, Aa, Aa, Aa, Aa, Aa, ⟨[], true, []⟩]) .leaf) .leaf)))))))))))))))) (.seq (.txt []) .leaf))))
set_option maxRecDepth 100000 in
theorem F8 (σ : Hp) (a0 : Option Addr) (a1_At : Int) (a1_Kind : Int) (a1_A : Int) (a1_B : Int) (a1_N : Int) (R : Value → Hp → Prop) (h : Cg σ a0 a1_At a1_Kind a1_A a1_B a1_N R) : Al Tryz.prog 56 #[(.pointer a0), (.agg #[(.int .i64 a1_At), (.int .i64 a1_Kind), (.int .i64 a1_A), (.int .i64 a1_B), (.int .i64 a1_N)])] σ R :=
  Am Bd F7 Tryz.func56 rfl (by kernel_rfl) (by kernel_rfl) (M := Cg σ a0 a1_At a1_Kind a1_A a1_B a1_N R) (by kernel_rfl) h
theorem EK : AA Tryz.prog 56 = true := by kernel_rfl
abbrev Ji : FuncId := 57
def CG (σ : Hp) (a0 : Option Addr) (a1_At : Int) (a1_Kind : Int) (a1_A : Int) (a1_B : Int) (a1_N : Int) (R : Value → Hp → Prop) : Prop :=
  dr a0 (fun b1 o2 => st σ b1 (o2 + 13) (.int .i64 a1_At) (fun σ3 => bc (decide (a1_Kind = 1)) (dr a0 (fun b4 o5 => 
    ldS σ3 b4 (o5 + 4) (fun A6 l6 _ => ix A6 l6 a1_N 2 (fun b7 a8 => ldI σ3 .i64 b7 a8 (fun n9 => ldI σ3 .i64 b7 (a8 + 1) (fun n10 => 
    dr a0 (fun b11 o12 => ldS σ3 b11 (o12 + 8) (fun A13 l13 _ => ix A13 l13 a1_A 1 (fun b14 a15 => ldI σ3 .i64 b14 a15 (fun n16 => 
    wk .i64 (n16 - n9) (fun n17 => ix A13 l13 a1_A 1 (fun b18 a19 => st σ3 b18 a19 (.int .i64 n17) (fun σ20 => 
    dr a0 (fun b21 o22 => ldS σ20 b21 ((o22 + 8) + 2) (fun A23 l23 _ => ix A23 l23 a1_B 2 (fun b24 a25 => 
    ldI σ20 .i64 b24 a25 (fun n26 => wk .i64 (n26 + n9) (fun n27 => ix A23 l23 a1_B 2 (fun b28 a29 => st σ20 b28 a29 (.int .i64 n27) (fun σ30 => 
    dr a0 (fun b31 o32 => ldI σ30 .i64 b31 (o32 + 14) (fun n33 => wk .i64 (n33 + n9) (fun n34 => dr a0 (fun b35 o36 => 
    st σ30 b35 (o36 + 14) (.int .i64 n34) (fun σ37 => cl Tryz.prog (.func (.func 98) #[] #[]) #[(.pointer a0), (.int .i64 a1_A), (.int .i64 n10)] σ37 (fun _ σ39 => 
    rt σ39 R (.tuple #[]))))))))))))))))))))))))))) (bc (decide (a1_Kind = 2)) (cl Tryz.prog (.func (.func 96) #[] #[]) #[(.pointer a0), (.int .i64 a1_A), (.int .i64 a1_At)] σ3 (fun v40 σ41 => 
    ∃ t42 : Bool, (v40 = (.bool t42) ∧ bc t42 (rt σ41 R (.tuple #[])) (dr a0 (fun b43 o44 => ldS σ41 b43 ((o44 + 8) + 2) (fun A45 l45 _ => 
    ix A45 l45 a1_A 2 (fun b46 a47 => ldI σ41 .i64 b46 a47 (fun n48 => wk .i64 (n48 - a1_N) (fun n49 => ix A45 l45 a1_A 2 (fun b50 a51 => 
    st σ41 b50 a51 (.int .i64 n49) (fun σ52 => dr a0 (fun b53 o54 => ldS σ52 b53 ((o54 + 8) + 3) (fun A55 l55 _ => 
    ix A55 l55 a1_B 1 (fun b56 a57 => ldI σ52 .i64 b56 a57 (fun n58 => wk .i64 (n58 + a1_N) (fun n59 => ix A55 l55 a1_B 1 (fun b60 a61 => 
    st σ52 b60 a61 (.int .i64 n59) (fun σ62 => dr a0 (fun b63 o64 => ldI σ62 .i64 b63 ((o64 + 14) + 1) (fun n65 => 
    wk .i64 (n65 + a1_N) (fun n66 => dr a0 (fun b67 o68 => st σ62 b67 ((o68 + 14) + 1) (.int .i64 n66) (fun σ69 => 
    rt σ69 R (.tuple #[])))))))))))))))))))))))) (bc (decide (a1_Kind = 3)) (dr a0 (fun b70 o71 => ldS σ3 b70 ((o71 + 8) + 2) (fun A72 l72 _ => 
    ix A72 l72 a1_B 2 (fun b73 a74 => ldI σ3 .i64 b73 (a74 + 1) (fun n75 => dr a0 (fun b76 o77 => ldI σ3 .i64 b76 (o77 + 7) (fun n78 => 
    wk .i64 (a1_At + n78) (fun n79 => st σ3 b73 (a74 + 1) (.int .i64 (if n79 > n75 then n79 else n75)) (fun σ80 => 
    dr a0 (fun b81 o82 => ldI σ80 .i64 b81 (o82 + 6) (fun n83 => cl Tryz.prog (.func (.func 98) #[] #[]) #[(.pointer a0), (.int .i64 a1_A), (.int .i64 n83)] σ80 (fun _ σ85 => 
    rt σ85 R (.tuple #[]))))))))))))) (bc (decide (a1_Kind = 4)) (dr a0 (fun b86 o87 => ldS σ3 b86 ((o87 + 8) + 2) (fun A88 l88 _ => 
    ix A88 l88 a1_B 2 (fun b89 a90 => ldI σ3 .i64 b89 a90 (fun n91 => wk .i64 (n91 - a1_N) (fun n92 => ix A88 l88 a1_B 2 (fun b93 a94 => 
    st σ3 b93 a94 (.int .i64 n92) (fun σ95 => dr a0 (fun b96 o97 => ldS σ95 b96 (o97 + 8) (fun A98 l98 _ => 
    ix A98 l98 a1_A 1 (fun b99 a100 => ldI σ95 .i64 b99 a100 (fun n101 => wk .i64 (n101 + a1_N) (fun n102 => 
    ix A98 l98 a1_A 1 (fun b103 a104 => st σ95 b103 a104 (.int .i64 n102) (fun σ105 => dr a0 (fun b106 o107 => 
    ldI σ105 .i64 b106 ((o107 + 14) + 2) (fun n108 => wk .i64 (n108 + a1_N) (fun n109 => dr a0 (fun b110 o111 => 
    st σ105 b110 ((o111 + 14) + 2) (.int .i64 n109) (fun σ112 => wk .i64 (0 - a1_N) (fun n113 => dr a0 (fun b114 o115 => 
    ldI σ112 .i64 b114 (o115 + 5) (fun n116 => wk .i64 (n113 * n116) (fun n117 => cl Tryz.prog (.func (.func 98) #[] #[]) #[(.pointer a0), (.int .i64 a1_A), (.int .i64 n117)] σ112 (fun _ σ119 => 
    rt σ119 R (.tuple #[])))))))))))))))))))))))))) (bc (decide (a1_Kind = 5)) (dr a0 (fun b120 o121 => ldS σ3 b120 (o121 + 8) (fun A122 l122 _ => 
    ix A122 l122 a1_A 1 (fun b123 a124 => ldI σ3 .i64 b123 a124 (fun n125 => dr a0 (fun b126 o127 => ldS σ3 b126 ((o127 + 8) + 3) (fun A128 l128 _ => 
    ix A128 l128 a1_B 1 (fun b129 a130 => ldI σ3 .i64 b129 a130 (fun n131 => wk .i64 (n125 + n131) (fun n132 => 
    ix A122 l122 a1_A 1 (fun b133 a134 => st σ3 b133 a134 (.int .i64 n132) (fun σ135 => dr a0 (fun b136 o137 => 
    ldS σ135 b136 ((o137 + 8) + 3) (fun A138 l138 _ => ix A138 l138 a1_B 1 (fun b139 a140 => st σ135 b139 a140 (.int .i64 0) (fun σ141 => 
    rt σ141 R (.tuple #[]))))))))))))))))) (bc (decide (a1_Kind = 6)) (dr a0 (fun b142 o143 => ldS σ3 b142 ((o143 + 8) + 2) (fun A144 l144 _ => 
    ix A144 l144 a1_A 2 (fun b145 a146 => ldI σ3 .i64 b145 a146 (fun n147 => wk .i64 (n147 - a1_N) (fun n148 => 
    ix A144 l144 a1_A 2 (fun b149 a150 => st σ3 b149 a150 (.int .i64 n148) (fun σ151 => dr a0 (fun b152 o153 => 
    ldS σ151 b152 ((o153 + 8) + 2) (fun A154 l154 _ => ix A154 l154 a1_B 2 (fun b155 a156 => ldI σ151 .i64 b155 a156 (fun n157 => 
    wk .i64 (n157 + a1_N) (fun n158 => ix A154 l154 a1_B 2 (fun b159 a160 => st σ151 b159 a160 (.int .i64 n158) (fun σ161 => 
    rt σ161 R (.tuple #[])))))))))))))))) (bc (decide (a1_Kind = 7)) (dr a0 (fun b162 o163 => ldS σ3 b162 ((o163 + 8) + 2) (fun A164 l164 _ => 
    ix A164 l164 a1_A 2 (fun b165 a166 => ldI σ3 .i64 b165 a166 (fun n167 => wk .i64 (n167 - a1_N) (fun n168 => 
    ix A164 l164 a1_A 2 (fun b169 a170 => st σ3 b169 a170 (.int .i64 n168) (fun σ171 => dr a0 (fun b172 o173 => 
    ldI σ171 .i64 b172 ((o173 + 8) + 4) (fun n174 => wk .i64 (n174 + a1_N) (fun n175 => dr a0 (fun b176 o177 => 
    st σ171 b176 ((o177 + 8) + 4) (.int .i64 n175) (fun σ178 => dr a0 (fun b179 o180 => ldI σ178 .i64 b179 ((o180 + 14) + 4) (fun n181 => 
    wk .i64 (n181 + a1_N) (fun n182 => dr a0 (fun b183 o184 => st σ178 b183 ((o184 + 14) + 4) (.int .i64 n182) (fun σ185 => 
    rt σ185 R (.tuple #[]))))))))))))))))))) (rt σ3 R (.tuple #[]))))))))))
def Ab : OA := ⟨[], false, []⟩
def AV : MAn := (.plan [15] (.take 0 Ab (.take 1 Ab (.take 2 Ab (.take 3 Ab (.take 4 Ab (.take 5 Ab (.take 6 Ab (.take 7 Ab (.take 8 Ab (.take 9 Ab (.take 10 Ab (.take 11 Ab (.take 12 Ab (.take 13 Ab (.take 14 Ab (.alt 15 false Ab .done .done)))))))))))))))))
def Bf : MAn := (.plan [11] (.take 0 Ab (.take 1 Ab (.take 2 Ab (.take 3 Ab (.take 4 Ab (.take 5 Ab (.take 6 Ab (.take 7 Ab (.take 8 Ab (.take 9 Ab (.take 10 Ab (.alt 11 false Ab .done .done)))))))))))))
def Cb : MAn := (.plan [13] (.take 0 Ab (.take 1 Ab (.take 2 Ab (.take 3 Ab (.take 4 Ab (.take 5 Ab (.take 6 Ab (.take 7 Ab (.take 8 Ab (.take 9 Ab (.take 10 Ab (.take 11 Ab (.take 12 Ab (.alt 13 false Ab .done .done)))))))))))))))
def DB : MAn := (.plan [8] (.take 0 Ab (.take 1 Ab (.take 2 Ab (.take 3 Ab (.take 4 Ab (.take 5 Ab (.take 6 Ab (.take 7 Ab (.alt 8 false Ab .done .done))))))))))
def Ha : MAn := (.seq (.txt []) (.seq (.txt []) (.seq (.txt []) (.block (.seq (.txt []) (.cond (.seq (.plan [10] (.take 0 Ab (.take 1 Ab (.take 2 Ab (.take 3 Ab (.take 4 Ab (.take 5 Ab (.take 6 Ab (.take 7 Ab (.take 8 Ab (.alt 9 true Ab (.alt 10 false Ab .done .done) .done))))))))))) (.seq Cb (.seq AV (.seq Bf (.txt []))))) (.seq (.txt []) (.cond (.seq (.seq (.txt []) (.cond .leaf .leaf)) (.seq AV (.seq Cb Bf))) (.seq (.txt []) (.cond (.seq (.plan [] (.take 0 Ab (.take 1 Ab (.take 2 Ab (.take 3 Ab (.take 4 Ab (.take 5 Ab (.take 6 Ab (.take 7 Ab (.take 8 Ab .done)))))))))) (.seq (.plan [16] (.take 0 Ab (.take 1 Ab (.take 2 Ab (.take 3 Ab (.take 4 Ab (.take 5 Ab (.take 6 Ab (.take 7 Ab (.take 8 Ab (.take 9 Ab (.take 10 Ab (.take 11 Ab (.take 12 Ab (.take 13 Ab (.take 14 Ab (.take 15 Ab (.alt 16 false Ab .done .done)))))))))))))))))) DB)) (.seq (.txt []) (.cond (.seq AV (.seq Cb (.seq Bf (.plan [12] (.take 0 Ab (.take 1 Ab (.take 2 Ab (.take 3 Ab (.take 4 Ab (.take 5 Ab (.take 6 Ab (.take 7 Ab (.take 8 Ab (.take 9 Ab (.take 10 Ab (.take 11 Ab (.alt 12 false Ab .done .done))))))))))))))))) (.seq (.txt []) (.cond (.seq (.plan [20] (.take 0 Ab (.take 1 Ab (.take 2 Ab (.take 3 Ab (.take 4 Ab (.take 5 Ab (.take 6 Ab (.take 7 Ab (.take 8 Ab (.take 9 Ab (.take 10 Ab (.take 11 Ab (.take 12 Ab (.take 13 Ab (.take 14 Ab (.take 15 Ab (.take 16 Ab (.take 17 Ab (.take 18 Ab (.take 19 Ab (.alt 20 false Ab .done .done)))))))))))))))))))))) DB) (.seq (.txt []) (.cond (.seq AV AV) (.seq (.txt []) (.cond (.seq AV (.seq Bf Bf)) .leaf))))))))))))))))))
set_option maxRecDepth 100000 in
theorem G9 (σ : Hp) (a0 : Option Addr) (a1_At : Int) (a1_Kind : Int) (a1_A : Int) (a1_B : Int) (a1_N : Int) (R : Value → Hp → Prop) (h : CG σ a0 a1_At a1_Kind a1_A a1_B a1_N R) : Al Tryz.prog 57 #[(.pointer a0), (.agg #[(.int .i64 a1_At), (.int .i64 a1_Kind), (.int .i64 a1_A), (.int .i64 a1_B), (.int .i64 a1_N)])] σ R :=
  Am Bd Ha Tryz.func57 rfl (by kernel_rfl) (by kernel_rfl) (M := CG σ a0 a1_At a1_Kind a1_A a1_B a1_N R) (by kernel_rfl) h
theorem FB : AA Tryz.prog 57 = true := by kernel_rfl
abbrev Ki : FuncId := 93
def Dh (σ : Hp) (f : Option Addr) (n : Int) (R : Value → Hp → Prop) : Prop :=
  dr f (fun b1 o2 => ldS σ b1 (o2 + 8) (fun _ l3 _ => wk .i64 (((l3 : Nat) : Int) - 1) (fun n4 => cl Tryz.prog (.func (.func 33) #[] #[]) #[(.int .i64 n), (.int .i64 0), (.int .i64 n4)] σ (fun v5 σ6 => 
    ∃ t7 : Bool, (v5 = (.bool t7) ∧ rt σ6 R (.bool t7))))))
def Ih : MAn := (.seq (.txt []) (.seq (.txt []) .leaf))
set_option maxRecDepth 100000 in
theorem Ie (σ : Hp) (f : Option Addr) (n : Int) (R : Value → Hp → Prop) (h : Dh σ f n R) : Al Tryz.prog 93 #[(.pointer f), (.int .i64 n)] σ R :=
  Am Bd Ih Tryz.func93 rfl (by kernel_rfl) (by kernel_rfl) (M := Dh σ f n R) (by kernel_rfl) h
theorem Gt : AA Tryz.prog 93 = true := by kernel_rfl
abbrev JH : FuncId := 94
def CX (σ : Hp) (f : Option Addr) (n : Int) (R : Value → Hp → Prop) : Prop :=
  dr f (fun b1 o2 => ldI σ .i64 b1 o2 (fun n3 => wk .i64 (n3 - 1) (fun n4 => cl Tryz.prog (.func (.func 33) #[] #[]) #[(.int .i64 n), (.int .i64 0), (.int .i64 n4)] σ (fun v5 σ6 => 
    ∃ t7 : Bool, (v5 = (.bool t7) ∧ rt σ6 R (.bool t7))))))
def HS : MAn := (.seq (.txt []) (.seq (.txt []) .leaf))
set_option maxRecDepth 100000 in
theorem Hk (σ : Hp) (f : Option Addr) (n : Int) (R : Value → Hp → Prop) (h : CX σ f n R) : Al Tryz.prog 94 #[(.pointer f), (.int .i64 n)] σ R :=
  Am Bd HS Tryz.func94 rfl (by kernel_rfl) (by kernel_rfl) (M := CX σ f n R) (by kernel_rfl) h
theorem FZ : AA Tryz.prog 94 = true := by kernel_rfl
abbrev Ll : FuncId := 95
def D3 (σ : Hp) (f : Option Addr) (n : Int) (R : Value → Hp → Prop) : Prop :=
  dr f (fun b1 o2 => ldI σ .i64 b1 (o2 + 1) (fun n3 => wk .i64 (n3 - 1) (fun n4 => cl Tryz.prog (.func (.func 33) #[] #[]) #[(.int .i64 n), (.int .i64 0), (.int .i64 n4)] σ (fun v5 σ6 => 
    ∃ t7 : Bool, (v5 = (.bool t7) ∧ rt σ6 R (.bool t7))))))
def Iz : MAn := (.seq (.txt []) (.seq (.txt []) .leaf))
set_option maxRecDepth 100000 in
theorem IM (σ : Hp) (f : Option Addr) (n : Int) (R : Value → Hp → Prop) (h : D3 σ f n R) : Al Tryz.prog 95 #[(.pointer f), (.int .i64 n)] σ R :=
  Am Bd Iz Tryz.func95 rfl (by kernel_rfl) (by kernel_rfl) (M := D3 σ f n R) (by kernel_rfl) h
theorem GV : AA Tryz.prog 95 = true := by kernel_rfl
abbrev Kk : FuncId := 96
def Dj (σ : Hp) (f : Option Addr) (purse : Int) (at_ : Int) (R : Value → Hp → Prop) : Prop :=
  dr f (fun b1 o2 => ldS σ b1 ((o2 + 8) + 2) (fun A3 l3 _ => ix A3 l3 purse 2 (fun b4 a5 => ldI σ .i64 b4 (a5 + 1) (fun n6 => 
    rt σ R (.bool (decide (at_ < n6)))))))
def Ij : MAn := (.seq (.txt []) (.seq (.txt []) .leaf))
set_option maxRecDepth 100000 in
theorem H8 (σ : Hp) (f : Option Addr) (purse : Int) (at_ : Int) (R : Value → Hp → Prop) (h : Dj σ f purse at_ R) : Al Tryz.prog 96 #[(.pointer f), (.int .i64 purse), (.int .i64 at_)] σ R :=
  Am Bd Ij Tryz.func96 rfl (by kernel_rfl) (by kernel_rfl) (M := Dj σ f purse at_ R) (by kernel_rfl) h
theorem GI : AA Tryz.prog 96 = true := by kernel_rfl
abbrev Kl : FuncId := 98
def Dz (σ : Hp) (f : Option Addr) (till : Int) (by_ : Int) (R : Value → Hp → Prop) : Prop :=
  dr f (fun b1 o2 => ldS σ b1 ((o2 + 8) + 1) (fun A3 l3 _ => ix A3 l3 till 1 (fun b4 a5 => ldI σ .i64 b4 a5 (fun n6 => 
    wk .i64 (n6 + by_) (fun n7 => ix A3 l3 till 1 (fun b8 a9 => st σ b8 a9 (.int .i64 n7) (fun σ10 => dr f (fun b11 o12 => 
    ldI σ10 .i64 b11 ((o12 + 14) + 5) (fun n13 => wk .i64 (n13 + by_) (fun n14 => dr f (fun b15 o16 => st σ10 b15 ((o16 + 14) + 5) (.int .i64 n14) (fun σ17 => 
    rt σ17 R (.tuple #[])))))))))))))
def Ia : MAn := (.seq (.txt []) (.txt []))
set_option maxRecDepth 100000 in
theorem Ic (σ : Hp) (f : Option Addr) (till : Int) (by_ : Int) (R : Value → Hp → Prop) (h : Dz σ f till by_ R) : Al Tryz.prog 98 #[(.pointer f), (.int .i64 till), (.int .i64 by_)] σ R :=
  Am Bd Ia Tryz.func98 rfl (by kernel_rfl) (by kernel_rfl) (M := Dz σ f till by_ R) (by kernel_rfl) h
theorem Gn : AA Tryz.prog 98 = true := by kernel_rfl
abbrev FD : FuncId := 92
def Dr (σ : Hp) (s_A : Option Addr) (s_n : Nat) (_ : Nat) (R : Value → Hp → Prop) : Prop :=
  bc ((s_A).isNone) (rt σ R (.slice none 0 0)) (∃ ys1 : List Int, RdS [.int .i64] σ s_A s_n ys1 ∧ B1 (List.length ([] : List Int) + List.length ys1) (exl 3 [.int .i64] (([] : List Int) ++ ys1) σ (fun A2 l2 c2 σ3 => 
    rt σ3 R (.slice A2 l2 c2))))
def Ib : MAn := (.seq (.txt []) (.seq (.seq (.txt []) (.cond (.seq (.txt []) .leaf) .leaf)) (.seq (.txt []) .leaf)))
set_option maxRecDepth 100000 in
theorem Il (σ : Hp) (s_A : Option Addr) (s_n : Nat) (s_c : Nat) (R : Value → Hp → Prop) (h : Dr σ s_A s_n s_c R) : Al Tryz.prog 92 #[(.slice s_A s_n s_c)] σ R :=
  Am Bd Ib Tryz.func92 rfl (by kernel_rfl) (by kernel_rfl) (M := Dr σ s_A s_n s_c R) (by kernel_rfl) h
theorem Gl : AA Tryz.prog 92 = true := by kernel_rfl
abbrev DT : FuncId := 35
def Bj (σ : Hp) (s_A : Option Addr) (s_n : Nat) (s_c : Nat) (f : Value) (R : Value → Hp → Prop) : Prop :=
  cl Tryz.prog (.func (.func 59) #[] #[]) #[(.slice s_A s_n s_c), f] σ (fun v1 σ2 => ∃ n3 : Int, (v1 = (.int .i64 n3) ∧ 
    rt σ2 R (.bool (decide ((0 : Int) ≤ n3)))))
def C6 : MAn := (.seq (.txt []) (.seq (.txt []) .leaf))
set_option maxRecDepth 100000 in
theorem C8 (σ : Hp) (s_A : Option Addr) (s_n : Nat) (s_c : Nat) (f : Value) (R : Value → Hp → Prop) (h : Bj σ s_A s_n s_c f R) : Al Tryz.prog 35 #[(.slice s_A s_n s_c), f] σ R :=
  Am Bd C6 Tryz.func35 rfl (by kernel_rfl) (by kernel_rfl) (M := Bj σ s_A s_n s_c f R) (by kernel_rfl) h
theorem CH : AA Tryz.prog 35 = true := by kernel_rfl
abbrev Ez : FuncId := 59
def BJ (σ : Hp) (s_A : Option Addr) (s_n : Nat) (_ : Nat) (f : Value) (R : Value → Hp → Prop) : Prop :=
  cut (α := Hp → Prop) (fun  σ2 => ∀ _ : Nat → Value, rt σ2 R (.int .i64 (-1))) (fun J3 => ∃ I6 : Nat → Int → Hp → Prop, (∃ n70, I6 n70 0 σ) ∧ 
    ∀ n7 : Nat, ∀ n8 : Int, ∀ σ5 : Hp, I6 n7 n8 σ5 → ∀ _ : Nat → Value, bc (decide (n8 < ((s_n : Nat) : Int))) (ix s_A s_n n8 2 (fun b9 a10 => 
    ldI σ5 .i64 b9 a10 (fun n11 => ldI σ5 .i64 b9 (a10 + 1) (fun n12 => cl Tryz.prog f #[(.agg #[(.int .i64 n11), (.int .i64 n12)])] σ5 (fun v13 σ14 => 
    ∃ t15 : Bool, (v13 = (.bool t15) ∧ bc t15 (rt σ14 R (.int .i64 n8)) (wk .i64 (n8 + 1) (fun n16 => bk σ14 n7 (fun m17 σ18 => 
    I6 m17 n16 σ18))))))))) (J3 σ5))
def D5 : MAn := (.seq (.txt []) (.cut ⟨[], 0, [], []⟩ (.seq (.txt []) (.block (.loop ⟨[], 0, [.slot 8 (.sc (.int .i64))], [(0, true), (1, false), (7, true)]⟩ (.seq (.txt []) (.seq (.cond .leaf .leaf) (.seq (.block (.seq (.txt []) (.seq (.txt []) (.cond (.seq (.txt []) .leaf) .leaf)))) (.txt []))))))) (.seq (.txt []) .leaf)))
set_option maxRecDepth 100000 in
theorem DL (σ : Hp) (s_A : Option Addr) (s_n : Nat) (s_c : Nat) (f : Value) (R : Value → Hp → Prop) (h : BJ σ s_A s_n s_c f R) : Al Tryz.prog 59 #[(.slice s_A s_n s_c), f] σ R :=
  Am Bd D5 Tryz.func59 rfl (by kernel_rfl) (by kernel_rfl) (M := BJ σ s_A s_n s_c f R) (by kernel_rfl) h
theorem C7 : AA Tryz.prog 59 = true := by kernel_rfl
abbrev Oo : FuncId := 15
def Fs (σ : Hp) (a_A : Option Addr) (a_n : Nat) (_ : Nat) (b_A : Option Addr) (b_n : Nat) (_ : Nat) (R : Value → Hp → Prop) : Prop :=
  bc (!decide (((a_n : Nat) : Int) = ((b_n : Nat) : Int))) (rt σ R (.bool false)) (cut (α := Hp → Prop) (fun  σ2 => 
    ∀ _ : Nat → Value, rt σ2 R (.bool true)) (fun J3 => ∃ I6 : Nat → Int → Hp → Prop, (∃ n70, I6 n70 0 σ) ∧ 
    ∀ n7 : Nat, ∀ n8 : Int, ∀ σ5 : Hp, I6 n7 n8 σ5 → ∀ _ : Nat → Value, bc (decide (n8 < ((a_n : Nat) : Int))) (ix a_A a_n n8 1 (fun b9 a10 => 
    ldI σ5 .i64 b9 a10 (fun n11 => ix b_A b_n n8 1 (fun b12 a13 => ldI σ5 .i64 b12 a13 (fun n14 => bc (!decide (n11 = n14)) (rt σ5 R (.bool false)) (wk .i64 (n8 + 1) (fun n15 => 
    bk σ5 n7 (fun m16 σ17 => I6 m16 n15 σ17)))))))) (J3 σ5)))
def AW : OA := ⟨[], false, []⟩
def Lf : MAn := (.seq (.txt []) (.seq (.seq (.txt []) (.cond (.seq (.txt []) .leaf) .leaf)) (.cut ⟨[], 0, [], []⟩ (.seq (.txt []) (.block (.loop ⟨[], 0, [.slot 5 (.sc (.int .i64))], [(0, true), (1, true)]⟩ (.seq (.seq (.txt []) (.cond .leaf .leaf)) (.seq (.block (.seq (.plan [] (.take 0 AW (.take 1 AW (.take 2 AW (.take 3 AW (.take 4 AW (.take 5 AW (.take 6 AW (.take 7 AW (.take 8 AW .done)))))))))) (.cond (.seq (.txt []) .leaf) .leaf))) (.txt [])))))) (.seq (.txt []) .leaf))))
set_option maxRecDepth 100000 in
theorem Lc (σ : Hp) (a_A : Option Addr) (a_n : Nat) (a_c : Nat) (b_A : Option Addr) (b_n : Nat) (b_c : Nat) (R : Value → Hp → Prop) (h : Fs σ a_A a_n a_c b_A b_n b_c R) : Al Tryz.prog 15 #[(.slice a_A a_n a_c), (.slice b_A b_n b_c)] σ R :=
  Am Bd Lf Tryz.func15 rfl (by kernel_rfl) (by kernel_rfl) (M := Fs σ a_A a_n a_c b_A b_n b_c R) (by kernel_rfl) h
theorem Ew : AA Tryz.prog 15 = true := by kernel_rfl
abbrev To : FuncId := 16
def MA (σ : Hp) (l_A : Option Addr) (l_n : Nat) (_ : Nat) (R : Value → Hp → Prop) : Prop :=
  cut (α := Int → Hp → Prop) (fun n4 σ2 => ∀ _ : Nat → Value, rt σ2 R (.int .i64 n4)) (fun J3 => ∃ I7 : Nat → Int → Int → Hp → Prop, (∃ n80, I7 n80 0 0 σ) ∧ 
    ∀ n8 : Nat, ∀ n9 : Int, ∀ n10 : Int, ∀ σ6 : Hp, I7 n8 n9 n10 σ6 → ∀ _ : Nat → Value, bc (decide (n10 < ((l_n : Nat) : Int))) (ix l_A l_n n10 1 (fun b11 a12 => 
    ldI σ6 .i64 b11 a12 (fun n13 => wk .i64 (n9 + n13) (fun n14 => wk .i64 (n10 + 1) (fun n15 => bk σ6 n8 (fun m16 σ17 => 
    I7 m16 n14 n15 σ17)))))) (J3 n9 σ6))
def PP : MAn := (.seq (.txt []) (.seq (.txt []) (.cut ⟨[], 0, [.slot 3 (.sc (.int .i64))], []⟩ (.seq (.txt []) (.block (.loop ⟨[], 0, [.slot 3 (.sc (.int .i64)), .slot 4 (.sc (.int .i64))], [(0, true)]⟩ (.seq (.seq (.txt []) (.cond .leaf .leaf)) (.seq (.block (.txt [])) (.txt [])))))) (.seq (.txt []) .leaf))))
set_option maxRecDepth 100000 in
theorem Pt (σ : Hp) (l_A : Option Addr) (l_n : Nat) (l_c : Nat) (R : Value → Hp → Prop) (h : MA σ l_A l_n l_c R) : Al Tryz.prog 16 #[(.slice l_A l_n l_c)] σ R :=
  Am Bd PP Tryz.func16 rfl (by kernel_rfl) (by kernel_rfl) (M := MA σ l_A l_n l_c R) (by kernel_rfl) h
theorem Ng : AA Tryz.prog 16 = true := by kernel_rfl
end Go.Proofs.YtecodlefcmjihaaGreat
