/- Trimmed by wip/trim.py to what this claim rests on. -/
import Derived.Test.YtkdjkkimngeloaaZB11
namespace Go.Proofs.Ytkdjkkimngeloaa
open Go.RowKit
theorem Dm : Try.prog.follows .mixedOrders = true := by kernel_rfl
abbrev GY : FuncId := 58
def D4 (σ : Hp) (n : Int) (low : Int) (high : Int) (R : Value → Hp → Prop) : Prop :=
  bc (decide (low ≤ n)) (rt σ R (.bool (decide (n ≤ high)))) (rt σ R (.bool false))
def IQ : MAn := (.seq (.txt []) (.seq (.txt [⟨[], false, []⟩, ⟨[], false, []⟩, ⟨[], false, []⟩, ⟨[], true, []⟩]) .leaf))
set_option maxRecDepth 100000 in
theorem Jb (σ : Hp) (n : Int) (low : Int) (high : Int) (R : Value → Hp → Prop) (h : D4 σ n low high R) : Ag Try.prog 58 #[(.int .i64 n), (.int .i64 low), (.int .i64 high)] σ R :=
  Ai Dm IQ Try.func58 rfl (by kernel_rfl) (by kernel_rfl) (M := D4 σ n low high R) (by kernel_rfl) h
theorem G1 : Aw Try.prog 58 = true := by kernel_rfl
abbrev Fj : FuncId := 80
def FB (σ : Hp) (_ : Option Addr) (m_Parking_n : Nat) (_ : Nat) (_ : Option Addr) (_ : Nat) (_ : Nat) (n : Int) (R : Value → Hp → Prop) : Prop :=
  wk .i64 (((m_Parking_n : Nat) : Int) - 1) (fun n1 => cl Try.prog (.func (.func 58) #[] #[]) #[(.int .i64 n), (.int .i64 0), (.int .i64 n1)] σ (fun v2 σ3 => 
    ∃ t4 : Bool, (v2 = (.bool t4) ∧ rt σ3 R (.bool t4))))
def KS : MAn := (.seq (.txt []) (.seq (.txt []) .leaf))
set_option maxRecDepth 100000 in
theorem KM (σ : Hp) (m_Parking_A : Option Addr) (m_Parking_n : Nat) (m_Parking_c : Nat) (m_Roads_A : Option Addr) (m_Roads_n : Nat) (m_Roads_c : Nat) (n : Int) (R : Value → Hp → Prop) (h : FB σ m_Parking_A m_Parking_n m_Parking_c m_Roads_A m_Roads_n m_Roads_c n R) : Ag Try.prog 80 #[(.agg #[(.slice m_Parking_A m_Parking_n m_Parking_c), (.slice m_Roads_A m_Roads_n m_Roads_c)]), (.int .i64 n)] σ R :=
  Ai Dm KS Try.func80 rfl (by kernel_rfl) (by kernel_rfl) (M := FB σ m_Parking_A m_Parking_n m_Parking_c m_Roads_A m_Roads_n m_Roads_c n R) (by kernel_rfl) h
theorem ID : Aw Try.prog 80 = true := by kernel_rfl
abbrev HV : FuncId := 79
def Et (σ : Hp) (m_Parking_A : Option Addr) (m_Parking_n : Nat) (m_Parking_c : Nat) (m_Roads_A : Option Addr) (m_Roads_n : Nat) (m_Roads_c : Nat) (R : Value → Hp → Prop) : Prop :=
  bx σ (.cells #[(.slice m_Parking_A m_Parking_n m_Parking_c), (.slice m_Roads_A m_Roads_n m_Roads_c)] 25) (fun b1 σ2 => 
    cut (α := Hp → Prop) (fun  σ4 => ∀ _ : Nat → Value, rt σ4 R (.int .i64 0)) (fun J5 => cut (α := Bool → Hp → Prop) (fun t9 σ7 => 
    ∀ _ : Nat → Value, bc t9 (rt σ7 R (.int .i64 90)) (J5 σ7)) (fun J8 => ldS σ2 b1 0 (fun _ l10 _ => 
    cl Try.prog (.func (.func 58) #[] #[]) #[(.int .i64 ((l10 : Nat) : Int)), (.int .i64 1), (.int .i64 12)] σ2 (fun v11 σ12 => 
    ∃ t13 : Bool, (v11 = (.bool t13) ∧ bc (!t13) (J8 true σ12) (ldS σ12 b1 1 (fun _ l14 _ => bc (decide ((30 : Int) < ((l14 : Nat) : Int))) (J8 true σ12) (ldS σ12 b1 1 (fun A15 l15 c15 => 
    cl Try.prog (.func (.func 97) #[] #[]) #[(.slice A15 l15 c15), (.func (.func 96) #[] #[(.pointer (some ⟨b1, 0, none⟩))])] σ12 (fun v16 σ17 => 
    ∃ t18 : Bool, (v16 = (.bool t18) ∧ J8 t18 σ17))))))))))))
def AT : OA := ⟨[], false, []⟩
def Jp : MAn := (.seq (.txt []) (.seq (.txt []) (.cut ⟨[false], 1, [], []⟩ (.cut ⟨[false], 1, [.slot 21 (.sc (.bool))], []⟩ (.txt [AT, AT, AT, AT, AT, ⟨[], true, []⟩, AT, AT, AT, AT, AT, ⟨[], true, []⟩]) (.cond (.seq (.txt []) .leaf) .leaf)) (.seq (.txt []) .leaf))))
set_option maxRecDepth 100000 in
theorem Jr (σ : Hp) (m_Parking_A : Option Addr) (m_Parking_n : Nat) (m_Parking_c : Nat) (m_Roads_A : Option Addr) (m_Roads_n : Nat) (m_Roads_c : Nat) (R : Value → Hp → Prop) (h : Et σ m_Parking_A m_Parking_n m_Parking_c m_Roads_A m_Roads_n m_Roads_c R) : Ag Try.prog 79 #[(.agg #[(.slice m_Parking_A m_Parking_n m_Parking_c), (.slice m_Roads_A m_Roads_n m_Roads_c)])] σ R :=
  Ai Dm Jp Try.func79 rfl (by kernel_rfl) (by kernel_rfl) (M := Et σ m_Parking_A m_Parking_n m_Parking_c m_Roads_A m_Roads_n m_Roads_c R) (by kernel_rfl) h
theorem HZ : Aw Try.prog 79 = true := by kernel_rfl
abbrev KQ : FuncId := 96
def DL (σ : Hp) (r_A : Int) (r_B : Int) (r_Length : Int) (r_Height : Int) (r_Weight : Int) (cap0 : Option Addr) (R : Value → Hp → Prop) : Prop :=
  dr cap0 (fun b1 o2 => ldS σ b1 o2 (fun A3 l3 c3 => ldS σ b1 (o2 + 1) (fun A4 l4 c4 => cl Try.prog (.func (.func 80) #[] #[]) #[(.agg #[(.slice A3 l3 c3), (.slice A4 l4 c4)]), (.int .i64 r_A)] σ (fun v5 σ6 => 
    ∃ t7 : Bool, (v5 = (.bool t7) ∧ bc (!t7) (rt σ6 R (.bool true)) (dr cap0 (fun b8 o9 => ldS σ6 b8 o9 (fun A10 l10 c10 => 
    ldS σ6 b8 (o9 + 1) (fun A11 l11 c11 => cl Try.prog (.func (.func 80) #[] #[]) #[(.agg #[(.slice A10 l10 c10), (.slice A11 l11 c11)]), (.int .i64 r_B)] σ6 (fun v12 σ13 => 
    ∃ t14 : Bool, (v12 = (.bool t14) ∧ bc (!t14) (rt σ13 R (.bool true)) (bc (decide (r_A = r_B)) (rt σ13 R (.bool true)) (cl Try.prog (.func (.func 58) #[] #[]) #[(.int .i64 r_Length), (.int .i64 1), (.int .i64 500)] σ13 (fun v15 σ16 => 
    ∃ t17 : Bool, (v15 = (.bool t17) ∧ bc (!t17) (rt σ16 R (.bool true)) (cl Try.prog (.func (.func 58) #[] #[]) #[(.int .i64 r_Height), (.int .i64 0), (.int .i64 1000)] σ16 (fun v18 σ19 => 
    ∃ t20 : Bool, (v18 = (.bool t20) ∧ bc (!t20) (rt σ19 R (.bool true)) (cl Try.prog (.func (.func 58) #[] #[]) #[(.int .i64 r_Weight), (.int .i64 0), (.int .i64 1000)] σ19 (fun v21 σ22 => 
    ∃ t23 : Bool, (v21 = (.bool t23) ∧ rt σ22 R (.bool (!t23)))))))))))))))))))))))
def Ap : OA := ⟨[], false, []⟩
def Io : MAn := (.seq (.txt []) (.seq (.txt [Ap, Ap, Ap, Ap, Ap, ⟨[], true, []⟩, Ap, Ap, Ap, Ap, Ap, Ap, ⟨[], true, []⟩, Ap, Ap, Ap, Ap, Ap, Ap, ⟨[], true, []⟩, Ap, Ap, Ap, Ap, Ap, ⟨[], true, []⟩, Ap, Ap, Ap, Ap, Ap, ⟨[], true, []⟩]) .leaf))
set_option maxRecDepth 100000 in
theorem IE (σ : Hp) (r_A : Int) (r_B : Int) (r_Length : Int) (r_Height : Int) (r_Weight : Int) (cap0 : Option Addr) (R : Value → Hp → Prop) (h : DL σ r_A r_B r_Length r_Height r_Weight cap0 R) : Ag Try.prog 96 #[(.agg #[(.int .i64 r_A), (.int .i64 r_B), (.int .i64 r_Length), (.int .i64 r_Height), (.int .i64 r_Weight)]), (.pointer cap0)] σ R :=
  Ai Dm Io Try.func96 rfl (by kernel_rfl) (by kernel_rfl) (M := DL σ r_A r_B r_Length r_Height r_Weight cap0 R) (by kernel_rfl) h
theorem F6 : Aw Try.prog 96 = true := by kernel_rfl
abbrev MZ : FuncId := 57
def Ey (σ : Hp) (m_Parking_A : Option Addr) (m_Parking_n : Nat) (m_Parking_c : Nat) (m_Roads_A : Option Addr) (m_Roads_n : Nat) (m_Roads_c : Nat) (l_A : Option Addr) (l_n : Nat) (_ : Nat) (R : Value → Hp → Prop) : Prop :=
  cl Try.prog (.func (.func 79) #[] #[]) #[(.agg #[(.slice m_Parking_A m_Parking_n m_Parking_c), (.slice m_Roads_A m_Roads_n m_Roads_c)])] σ (fun v1 σ2 => 
    ∃ n3 : Int, (v1 = (.int .i64 n3) ∧ bc (!decide (n3 = 0)) (rt σ2 R (.int .i64 n3)) (cut (α := Hp → Prop) (fun  σ5 => 
    ∀ _ : Nat → Value, rt σ5 R (.int .i64 0)) (fun J6 => ∃ I9 : Nat → Int → Hp → Prop, (∃ n100, I9 n100 0 σ2) ∧ 
    ∀ n10 : Nat, ∀ n11 : Int, ∀ σ8 : Hp, I9 n10 n11 σ8 → ∀ _ : Nat → Value, bc (decide (n11 < ((l_n : Nat) : Int))) (cut (α := Hp → Prop) (fun  σ13 => 
    ∀ _ : Nat → Value, wk .i64 (n11 + 1) (fun n15 => bk σ13 n10 (fun m16 σ17 => I9 m16 n15 σ17))) (fun J14 => 
    ix l_A l_n n11 6 (fun b18 a19 => ldI σ8 .i64 b18 a19 (fun n20 => ldI σ8 .i64 b18 (a19 + 1) (fun n21 => 
    ldI σ8 .i64 b18 (a19 + 2) (fun n22 => ldI σ8 .i64 b18 (a19 + 3) (fun n23 => ldI σ8 .i64 b18 (a19 + 4) (fun n24 => 
    ldI σ8 .i64 b18 (a19 + 5) (fun n25 => cut (α := Bool → Hp → Prop) (fun t29 σ27 => ∀ _ : Nat → Value, 
    bc t29 (rt σ27 R (.int .i64 91)) (J14 σ27)) (fun J28 => cl Try.prog (.func (.func 58) #[] #[]) #[(.int .i64 n20), (.int .i64 0), (.int .i64 1000)] σ8 (fun v30 σ31 => 
    ∃ t32 : Bool, (v30 = (.bool t32) ∧ bc (!t32) (J28 true σ31) (cl Try.prog (.func (.func 58) #[] #[]) #[(.int .i64 n21), (.int .i64 0), (.int .i64 1000)] σ31 (fun v33 σ34 => 
    ∃ t35 : Bool, (v33 = (.bool t35) ∧ bc (!t35) (J28 true σ34) (cl Try.prog (.func (.func 80) #[] #[]) #[(.agg #[(.slice m_Parking_A m_Parking_n m_Parking_c), (.slice m_Roads_A m_Roads_n m_Roads_c)]), (.int .i64 n22)] σ34 (fun v36 σ37 => 
    ∃ t38 : Bool, (v36 = (.bool t38) ∧ bc (!t38) (J28 true σ37) (cl Try.prog (.func (.func 58) #[] #[]) #[(.int .i64 n23), (.int .i64 0), (.int .i64 2000)] σ37 (fun v39 σ40 => 
    ∃ t41 : Bool, (v39 = (.bool t41) ∧ bc (!t41) (J28 true σ40) (cl Try.prog (.func (.func 58) #[] #[]) #[(.int .i64 n24), (.int .i64 1), (.int .i64 500)] σ40 (fun v42 σ43 => 
    ∃ t44 : Bool, (v42 = (.bool t44) ∧ bc (!t44) (J28 true σ43) (cl Try.prog (.func (.func 58) #[] #[]) #[(.int .i64 n25), (.int .i64 1), (.int .i64 500)] σ43 (fun v45 σ46 => 
    ∃ t47 : Bool, (v45 = (.bool t47) ∧ J28 (!t47) σ46))))))))))))))))))))))))))) (J6 σ8)))))
def Au : OA := ⟨[], false, []⟩
def JU : MAn := (.seq (.txt []) (.seq (.seq (.txt []) (.seq (.txt []) (.cond (.seq (.txt []) .leaf) .leaf))) (.cut ⟨[true], 1, [], []⟩ (.seq (.txt []) (.block (.loop ⟨[true], 1, [.slot 2 (.hb 0 0), .slot 15 (.sc (.int .i64))], [(13, true), (14, true)]⟩ (.seq (.txt []) (.seq (.cond .leaf .leaf) (.cut ⟨[true], 1, [.slot 2 (.hb 0 0)], [(13, true), (14, true), (15, true)]⟩ (.block (.seq (.txt []) (.cut ⟨[true, true], 2, [.slot 2 (.hb 0 0), .slot 53 (.sc (.bool))], [(13, true), (14, true), (15, true)]⟩ (.txt [Au, Au, Au, Au, ⟨[], true, []⟩, Au, Au, Au, Au, Au, ⟨[], true, []⟩, Au, Au, Au, Au, Au, Au, ⟨[], true, []⟩, Au, Au, Au, Au, Au, ⟨[], true, []⟩, Au, Au, Au, Au, Au, ⟨[], true, []⟩]) (.cond (.seq (.txt []) .leaf) .leaf)))) (.txt []))))))) (.seq (.txt []) .leaf))))
set_option maxRecDepth 100000 in
theorem JD (σ : Hp) (m_Parking_A : Option Addr) (m_Parking_n : Nat) (m_Parking_c : Nat) (m_Roads_A : Option Addr) (m_Roads_n : Nat) (m_Roads_c : Nat) (l_A : Option Addr) (l_n : Nat) (l_c : Nat) (R : Value → Hp → Prop) (h : Ey σ m_Parking_A m_Parking_n m_Parking_c m_Roads_A m_Roads_n m_Roads_c l_A l_n l_c R) : Ag Try.prog 57 #[(.agg #[(.slice m_Parking_A m_Parking_n m_Parking_c), (.slice m_Roads_A m_Roads_n m_Roads_c)]), (.slice l_A l_n l_c)] σ R :=
  Ai Dm JU Try.func57 rfl (by kernel_rfl) (by kernel_rfl) (M := Ey σ m_Parking_A m_Parking_n m_Parking_c m_Roads_A m_Roads_n m_Roads_c l_A l_n l_c R) (by kernel_rfl) h
theorem HK : Aw Try.prog 57 = true := by kernel_rfl
abbrev Fw : FuncId := 59
def Fv (σ : Hp) (_ : Int) (_ : Int) (_ : Int) (r_Height : Int) (r_Weight : Int) (l_Height : Int) (l_Weight : Int) (_ : Int) (_ : Int) (_ : Int) (_ : Int) (R : Value → Hp → Prop) : Prop :=
  bc (decide (l_Height ≤ r_Height)) (rt σ R (.bool (decide (l_Weight ≤ r_Weight)))) (rt σ R (.bool false))
def K3 : MAn := (.seq (.txt []) (.seq (.txt [⟨[], false, []⟩, ⟨[], false, []⟩, ⟨[], false, []⟩, ⟨[], false, []⟩, ⟨[], false, []⟩, ⟨[], true, []⟩]) .leaf))
set_option maxRecDepth 100000 in
theorem KB (σ : Hp) (r_A : Int) (r_B : Int) (r_Length : Int) (r_Height : Int) (r_Weight : Int) (l_Height : Int) (l_Weight : Int) (l_From : Int) (l_Ready : Int) (l_Drive : Int) (l_Rest : Int) (R : Value → Hp → Prop) (h : Fv σ r_A r_B r_Length r_Height r_Weight l_Height l_Weight l_From l_Ready l_Drive l_Rest R) : Ag Try.prog 59 #[(.agg #[(.int .i64 r_A), (.int .i64 r_B), (.int .i64 r_Length), (.int .i64 r_Height), (.int .i64 r_Weight)]), (.agg #[(.int .i64 l_Height), (.int .i64 l_Weight), (.int .i64 l_From), (.int .i64 l_Ready), (.int .i64 l_Drive), (.int .i64 l_Rest)])] σ R :=
  Ai Dm K3 Try.func59 rfl (by kernel_rfl) (by kernel_rfl) (M := Fv σ r_A r_B r_Length r_Height r_Weight l_Height l_Weight l_From l_Ready l_Drive l_Rest R) (by kernel_rfl) h
theorem Iz : Aw Try.prog 59 = true := by kernel_rfl
abbrev DM : FuncId := 97
def Bq (σ : Hp) (s_A : Option Addr) (s_n : Nat) (s_c : Nat) (f : Value) (R : Value → Hp → Prop) : Prop :=
  cl Try.prog (.func (.func 115) #[] #[]) #[(.slice s_A s_n s_c), f] σ (fun v1 σ2 => ∃ n3 : Int, (v1 = (.int .i64 n3) ∧ 
    rt σ2 R (.bool (decide ((0 : Int) ≤ n3)))))
def De : MAn := (.seq (.txt []) (.seq (.txt []) .leaf))
set_option maxRecDepth 100000 in
theorem Dd (σ : Hp) (s_A : Option Addr) (s_n : Nat) (s_c : Nat) (f : Value) (R : Value → Hp → Prop) (h : Bq σ s_A s_n s_c f R) : Ag Try.prog 97 #[(.slice s_A s_n s_c), f] σ R :=
  Ai Dm De Try.func97 rfl (by kernel_rfl) (by kernel_rfl) (M := Bq σ s_A s_n s_c f R) (by kernel_rfl) h
theorem CI : Aw Try.prog 97 = true := by kernel_rfl
abbrev Ee : FuncId := 115
def BJ (σ : Hp) (s_A : Option Addr) (s_n : Nat) (_ : Nat) (f : Value) (R : Value → Hp → Prop) : Prop :=
  cut (α := Hp → Prop) (fun  σ2 => ∀ _ : Nat → Value, rt σ2 R (.int .i64 (-1))) (fun J3 => ∃ I6 : Nat → Int → Hp → Prop, (∃ n70, I6 n70 0 σ) ∧ 
    ∀ n7 : Nat, ∀ n8 : Int, ∀ σ5 : Hp, I6 n7 n8 σ5 → ∀ _ : Nat → Value, bc (decide (n8 < ((s_n : Nat) : Int))) (ix s_A s_n n8 5 (fun b9 a10 => 
    ldI σ5 .i64 b9 a10 (fun n11 => ldI σ5 .i64 b9 (a10 + 1) (fun n12 => ldI σ5 .i64 b9 (a10 + 2) (fun n13 => 
    ldI σ5 .i64 b9 (a10 + 3) (fun n14 => ldI σ5 .i64 b9 (a10 + 4) (fun n15 => cl Try.prog f #[(.agg #[(.int .i64 n11), (.int .i64 n12), (.int .i64 n13), (.int .i64 n14), (.int .i64 n15)])] σ5 (fun v16 σ17 => 
    ∃ t18 : Bool, (v16 = (.bool t18) ∧ bc t18 (rt σ17 R (.int .i64 n8)) (wk .i64 (n8 + 1) (fun n19 => bk σ17 n7 (fun m20 σ21 => 
    I6 m20 n19 σ21)))))))))))) (J3 σ5))
def DE : MAn := (.seq (.txt []) (.cut ⟨[], 0, [], []⟩ (.seq (.txt []) (.block (.loop ⟨[], 0, [.slot 8 (.sc (.int .i64))], [(0, true), (1, false), (7, true)]⟩ (.seq (.txt []) (.seq (.cond .leaf .leaf) (.seq (.block (.seq (.txt []) (.seq (.txt []) (.cond (.seq (.txt []) .leaf) .leaf)))) (.txt []))))))) (.seq (.txt []) .leaf)))
set_option maxRecDepth 100000 in
theorem DK (σ : Hp) (s_A : Option Addr) (s_n : Nat) (s_c : Nat) (f : Value) (R : Value → Hp → Prop) (h : BJ σ s_A s_n s_c f R) : Ag Try.prog 115 #[(.slice s_A s_n s_c), f] σ R :=
  Ai Dm DE Try.func115 rfl (by kernel_rfl) (by kernel_rfl) (M := BJ σ s_A s_n s_c f R) (by kernel_rfl) h
theorem Dg : Aw Try.prog 115 = true := by kernel_rfl
abbrev Jk : FuncId := 50
def C0 (σ : Hp) (m_Parking_A : Option Addr) (m_Parking_n : Nat) (m_Parking_c : Nat) (m_Roads_A : Option Addr) (m_Roads_n : Nat) (m_Roads_c : Nat) (to : Int) (l_A : Option Addr) (l_n : Nat) (l_c : Nat) (R : Value → Hp → Prop) : Prop :=
  cl Try.prog (.func (.func 79) #[] #[]) #[(.agg #[(.slice m_Parking_A m_Parking_n m_Parking_c), (.slice m_Roads_A m_Roads_n m_Roads_c)])] σ (fun v1 σ2 => 
    ∃ n3 : Int, (v1 = (.int .i64 n3) ∧ bc (!decide (n3 = 0)) (rt σ2 R (.int .i64 n3)) (bc (decide ((8 : Int) < ((l_n : Nat) : Int))) (rt σ2 R (.int .i64 2)) (cl Try.prog (.func (.func 57) #[] #[]) #[(.agg #[(.slice m_Parking_A m_Parking_n m_Parking_c), (.slice m_Roads_A m_Roads_n m_Roads_c)]), (.slice l_A l_n l_c)] σ2 (fun v4 σ5 => 
    ∃ n6 : Int, (v4 = (.int .i64 n6) ∧ bc (!decide (n6 = 0)) (rt σ5 R (.int .i64 n6)) (cl Try.prog (.func (.func 80) #[] #[]) #[(.agg #[(.slice m_Parking_A m_Parking_n m_Parking_c), (.slice m_Roads_A m_Roads_n m_Roads_c)]), (.int .i64 to)] σ5 (fun v7 σ8 => 
    ∃ t9 : Bool, (v7 = (.bool t9) ∧ bc (!t9) (rt σ8 R (.int .i64 1)) (rt σ8 R (.int .i64 0)))))))))))
def Ha : MAn := (.seq (.txt []) (.seq (.seq (.txt []) (.seq (.txt []) (.cond (.seq (.txt []) .leaf) .leaf))) (.seq (.seq (.txt []) (.cond (.seq (.txt []) .leaf) .leaf)) (.seq (.seq (.txt []) (.seq (.txt []) (.cond (.seq (.txt []) .leaf) .leaf))) (.seq (.seq (.txt []) (.cond (.seq (.txt []) .leaf) .leaf)) (.seq (.txt []) .leaf))))))
set_option maxRecDepth 100000 in
theorem G9 (σ : Hp) (m_Parking_A : Option Addr) (m_Parking_n : Nat) (m_Parking_c : Nat) (m_Roads_A : Option Addr) (m_Roads_n : Nat) (m_Roads_c : Nat) (to : Int) (l_A : Option Addr) (l_n : Nat) (l_c : Nat) (R : Value → Hp → Prop) (h : C0 σ m_Parking_A m_Parking_n m_Parking_c m_Roads_A m_Roads_n m_Roads_c to l_A l_n l_c R) : Ag Try.prog 50 #[(.agg #[(.slice m_Parking_A m_Parking_n m_Parking_c), (.slice m_Roads_A m_Roads_n m_Roads_c)]), (.int .i64 to), (.slice l_A l_n l_c)] σ R :=
  Ai Dm Ha Try.func50 rfl (by kernel_rfl) (by kernel_rfl) (M := C0 σ m_Parking_A m_Parking_n m_Parking_c m_Roads_A m_Roads_n m_Roads_c to l_A l_n l_c R) (by kernel_rfl) h
theorem BT : Aw Try.prog 50 = true := by kernel_rfl
end Go.Proofs.Ytkdjkkimngeloaa
