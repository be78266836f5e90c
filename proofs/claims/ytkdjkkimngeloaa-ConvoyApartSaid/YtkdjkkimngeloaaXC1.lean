/- Trimmed by wip/trim.py to what this claim rests on. -/
import Derived.Test.YtkdjkkimngeloaaXB11
namespace Go.Proofs.Ytkdjkkimngeloaa
open Go.RowKit
theorem B7 : Try.prog.follows .mixedOrders = true := by kernel_rfl
abbrev FO : FuncId := 58
def DC (σ : Hp) (n : Int) (low : Int) (high : Int) (R : Value → Hp → Prop) : Prop :=
  bc (decide (low ≤ n)) (rt σ R (.bool (decide (n ≤ high)))) (rt σ R (.bool false))
def Hm : MAn := (.seq (.txt []) (.seq (.txt [⟨[], false, []⟩, ⟨[], false, []⟩, ⟨[], false, []⟩, ⟨[], true, []⟩]) .leaf))
set_option maxRecDepth 100000 in
theorem Hz (σ : Hp) (n : Int) (low : Int) (high : Int) (R : Value → Hp → Prop) (h : DC σ n low high R) : Af Try.prog 58 #[(.int .i64 n), (.int .i64 low), (.int .i64 high)] σ R :=
  Am B7 Hm Try.func58 rfl (by kernel_rfl) (by kernel_rfl) (M := DC σ n low high R) (by kernel_rfl) h
theorem F2 : AA Try.prog 58 = true := by kernel_rfl
abbrev EH : FuncId := 80
def EA (σ : Hp) (_ : Option Addr) (m_Parking_n : Nat) (_ : Nat) (_ : Option Addr) (_ : Nat) (_ : Nat) (n : Int) (R : Value → Hp → Prop) : Prop :=
  wk .i64 (((m_Parking_n : Nat) : Int) - 1) (fun n1 => cl Try.prog (.func (.func 58) #[] #[]) #[(.int .i64 n), (.int .i64 0), (.int .i64 n1)] σ (fun v2 σ3 => 
    ∃ t4 : Bool, (v2 = (.bool t4) ∧ rt σ3 R (.bool t4))))
def IJ : MAn := (.seq (.txt []) (.seq (.txt []) .leaf))
set_option maxRecDepth 100000 in
theorem IC (σ : Hp) (m_Parking_A : Option Addr) (m_Parking_n : Nat) (m_Parking_c : Nat) (m_Roads_A : Option Addr) (m_Roads_n : Nat) (m_Roads_c : Nat) (n : Int) (R : Value → Hp → Prop) (h : EA σ m_Parking_A m_Parking_n m_Parking_c m_Roads_A m_Roads_n m_Roads_c n R) : Af Try.prog 80 #[(.agg #[(.slice m_Parking_A m_Parking_n m_Parking_c), (.slice m_Roads_A m_Roads_n m_Roads_c)]), (.int .i64 n)] σ R :=
  Am B7 IJ Try.func80 rfl (by kernel_rfl) (by kernel_rfl) (M := EA σ m_Parking_A m_Parking_n m_Parking_c m_Roads_A m_Roads_n m_Roads_c n R) (by kernel_rfl) h
theorem GZ : AA Try.prog 80 = true := by kernel_rfl
abbrev Gd : FuncId := 79
def D8 (σ : Hp) (m_Parking_A : Option Addr) (m_Parking_n : Nat) (m_Parking_c : Nat) (m_Roads_A : Option Addr) (m_Roads_n : Nat) (m_Roads_c : Nat) (R : Value → Hp → Prop) : Prop :=
  bx σ (.cells #[(.slice m_Parking_A m_Parking_n m_Parking_c), (.slice m_Roads_A m_Roads_n m_Roads_c)] 25) (fun b1 σ2 => 
    cut (α := Hp → Prop) (fun  σ4 => ∀ _ : Nat → Value, rt σ4 R (.int .i64 0)) (fun J5 => cut (α := Bool → Hp → Prop) (fun t9 σ7 => 
    ∀ _ : Nat → Value, bc t9 (rt σ7 R (.int .i64 90)) (J5 σ7)) (fun J8 => ldS σ2 b1 0 (fun _ l10 _ => 
    cl Try.prog (.func (.func 58) #[] #[]) #[(.int .i64 ((l10 : Nat) : Int)), (.int .i64 1), (.int .i64 12)] σ2 (fun v11 σ12 => 
    ∃ t13 : Bool, (v11 = (.bool t13) ∧ bc (!t13) (J8 true σ12) (ldS σ12 b1 1 (fun _ l14 _ => bc (decide ((30 : Int) < ((l14 : Nat) : Int))) (J8 true σ12) (ldS σ12 b1 1 (fun A15 l15 c15 => 
    cl Try.prog (.func (.func 97) #[] #[]) #[(.slice A15 l15 c15), (.func (.func 96) #[] #[(.pointer (some ⟨b1, 0, none⟩))])] σ12 (fun v16 σ17 => 
    ∃ t18 : Bool, (v16 = (.bool t18) ∧ J8 t18 σ17))))))))))))
def AL : OA := ⟨[], false, []⟩
def Il : MAn := (.seq (.txt []) (.seq (.txt []) (.cut ⟨[false], 1, [], []⟩ (.cut ⟨[false], 1, [.slot 21 (.sc (.bool))], []⟩ (.txt [AL, AL, AL, AL, AL, ⟨[], true, []⟩, AL, AL, AL, AL, AL, ⟨[], true, []⟩]) (.cond (.seq (.txt []) .leaf) .leaf)) (.seq (.txt []) .leaf))))
set_option maxRecDepth 100000 in
theorem Ic (σ : Hp) (m_Parking_A : Option Addr) (m_Parking_n : Nat) (m_Parking_c : Nat) (m_Roads_A : Option Addr) (m_Roads_n : Nat) (m_Roads_c : Nat) (R : Value → Hp → Prop) (h : D8 σ m_Parking_A m_Parking_n m_Parking_c m_Roads_A m_Roads_n m_Roads_c R) : Af Try.prog 79 #[(.agg #[(.slice m_Parking_A m_Parking_n m_Parking_c), (.slice m_Roads_A m_Roads_n m_Roads_c)])] σ R :=
  Am B7 Il Try.func79 rfl (by kernel_rfl) (by kernel_rfl) (M := D8 σ m_Parking_A m_Parking_n m_Parking_c m_Roads_A m_Roads_n m_Roads_c R) (by kernel_rfl) h
theorem F7 : AA Try.prog 79 = true := by kernel_rfl
abbrev I3 : FuncId := 96
def C6 (σ : Hp) (r_A : Int) (r_B : Int) (r_Length : Int) (r_Height : Int) (r_Weight : Int) (cap0 : Option Addr) (R : Value → Hp → Prop) : Prop :=
  dr cap0 (fun b1 o2 => ldS σ b1 o2 (fun A3 l3 c3 => ldS σ b1 (o2 + 1) (fun A4 l4 c4 => cl Try.prog (.func (.func 80) #[] #[]) #[(.agg #[(.slice A3 l3 c3), (.slice A4 l4 c4)]), (.int .i64 r_A)] σ (fun v5 σ6 => 
    ∃ t7 : Bool, (v5 = (.bool t7) ∧ bc (!t7) (rt σ6 R (.bool true)) (dr cap0 (fun b8 o9 => ldS σ6 b8 o9 (fun A10 l10 c10 => 
    ldS σ6 b8 (o9 + 1) (fun A11 l11 c11 => cl Try.prog (.func (.func 80) #[] #[]) #[(.agg #[(.slice A10 l10 c10), (.slice A11 l11 c11)]), (.int .i64 r_B)] σ6 (fun v12 σ13 => 
    ∃ t14 : Bool, (v12 = (.bool t14) ∧ bc (!t14) (rt σ13 R (.bool true)) (bc (decide (r_A = r_B)) (rt σ13 R (.bool true)) (cl Try.prog (.func (.func 58) #[] #[]) #[(.int .i64 r_Length), (.int .i64 1), (.int .i64 500)] σ13 (fun v15 σ16 => 
    ∃ t17 : Bool, (v15 = (.bool t17) ∧ bc (!t17) (rt σ16 R (.bool true)) (cl Try.prog (.func (.func 58) #[] #[]) #[(.int .i64 r_Height), (.int .i64 0), (.int .i64 1000)] σ16 (fun v18 σ19 => 
    ∃ t20 : Bool, (v18 = (.bool t20) ∧ bc (!t20) (rt σ19 R (.bool true)) (cl Try.prog (.func (.func 58) #[] #[]) #[(.int .i64 r_Weight), (.int .i64 0), (.int .i64 1000)] σ19 (fun v21 σ22 => 
    ∃ t23 : Bool, (v21 = (.bool t23) ∧ rt σ22 R (.bool (!t23)))))))))))))))))))))))
def Aj : OA := ⟨[], false, []⟩
def G6 : MAn := (.seq (.txt []) (.seq (.txt [Aj, Aj, Aj, Aj, Aj, ⟨[], true, []⟩, Aj, Aj, Aj, Aj, Aj, Aj, ⟨[], true, []⟩, Aj, Aj, Aj, Aj, Aj, Aj, ⟨[], true, []⟩, Aj, Aj, Aj, Aj, Aj, ⟨[], true, []⟩, Aj, Aj, Aj, Aj, Aj, ⟨[], true, []⟩]) .leaf))
set_option maxRecDepth 100000 in
theorem GW (σ : Hp) (r_A : Int) (r_B : Int) (r_Length : Int) (r_Height : Int) (r_Weight : Int) (cap0 : Option Addr) (R : Value → Hp → Prop) (h : C6 σ r_A r_B r_Length r_Height r_Weight cap0 R) : Af Try.prog 96 #[(.agg #[(.int .i64 r_A), (.int .i64 r_B), (.int .i64 r_Length), (.int .i64 r_Height), (.int .i64 r_Weight)]), (.pointer cap0)] σ R :=
  Am B7 G6 Try.func96 rfl (by kernel_rfl) (by kernel_rfl) (M := C6 σ r_A r_B r_Length r_Height r_Weight cap0 R) (by kernel_rfl) h
theorem Fy : AA Try.prog 96 = true := by kernel_rfl
abbrev GC : FuncId := 57
def DT (σ : Hp) (m_Parking_A : Option Addr) (m_Parking_n : Nat) (m_Parking_c : Nat) (m_Roads_A : Option Addr) (m_Roads_n : Nat) (m_Roads_c : Nat) (l_A : Option Addr) (l_n : Nat) (_ : Nat) (R : Value → Hp → Prop) : Prop :=
  cl Try.prog (.func (.func 79) #[] #[]) #[(.agg #[(.slice m_Parking_A m_Parking_n m_Parking_c), (.slice m_Roads_A m_Roads_n m_Roads_c)])] σ (fun v1 σ2 => 
    ∃ n3 : Int, (v1 = (.int .i64 n3) ∧ bc (!decide (n3 = 0)) (rt σ2 R (.int .i64 n3)) (cut (α := Hp → Prop) (fun  σ5 => 
    ∀ _ : Nat → Value, rt σ5 R (.int .i64 0)) (fun J6 => ∃ I9 : Nat → Int → Hp → Prop, (∃ n100, I9 n100 0 σ2) ∧ 
    ∀ n10 : Nat, ∀ n11 : Int, ∀ σ8 : Hp, I9 n10 n11 σ8 → ∀ _ : Nat → Value, bc (decide (n11 < ((l_n : Nat) : Int))) (cut (α := Hp → Prop) (fun  σ13 => 
    ∀ _ : Nat → Value, wk .i64 (n11 + 1) (fun n15 => bk σ13 n10 (fun m16 σ17 => I9 m16 n15 σ17))) (fun J14 => 
    ix l_A l_n n11 6 (fun b18 a19 => ldI σ8 .i64 b18 a19 (fun n20 => ldI σ8 .i64 b18 (a19 + 1) (fun n21 => 
    ldI σ8 .i64 b18 (a19 + 2) (fun n22 => ldI σ8 .i64 b18 (a19 + 3) (fun n23 => ldI σ8 .i64 b18 (a19 + 4) (fun n24 => 
    ldI σ8 .i64 b18 (a19 + 5) (fun n25 => cut (α := Bool → Hp → Prop) (fun t29 σ27 => ∀ _ : Nat → Value, 
    bc t29 (rt σ27 R (.int .i64 91)) (J14 σ27)) (fun J28 => cl Try.prog (.func (.func 58) #[] #[]) #[(.int .i64 n20), (.int .i64 0), (.int .i64 1000)] σ8 (fun v30 σ31 => 
    ∃ t32 : Bool, (v30 = (.bool t32) ∧ bc (!t32) (J28 true σ31) (cl Try.prog (.func (.func 58) #[] #[]) #[(.int .i64 n21), (.int .i64 0), (.int .i64 1000)] σ31 (fun v33 σ34 => 
    ∃ t35 : Bool, (v33 = (.bool t35) ∧ bc (!t35) (J28 true σ34) (cl Try.prog (.func (.func 80) #[] #[]) #[(.agg #[(.slice m_Parking_A m_Parking_n m_Parking_c), (.slice m_Roads_A m_Roads_n m_Roads_c)]), (.int .i64 n22)] σ34 (fun v36 σ37 => 
    ∃ t38 : Bool, (v36 = (.bool t38) ∧ bc (!t38) (J28 true σ37) (cl Try.prog (.func (.func 58) #[] #[]) #[(.int .i64 n23), (.int .i64 0), (.int .i64 2000)] σ37 (fun v39 σ40 => 
    ∃ t41 : Bool, (v39 = (.bool t41) ∧ bc (!t41) (J28 true σ40) (cl Try.prog (.func (.func 58) #[] #[]) #[(.int .i64 n24), (.int .i64 1), (.int .i64 500)] σ40 (fun v42 σ43 => 
    ∃ t44 : Bool, (v42 = (.bool t44) ∧ bc (!t44) (J28 true σ43) (cl Try.prog (.func (.func 58) #[] #[]) #[(.int .i64 n25), (.int .i64 1), (.int .i64 500)] σ43 (fun v45 σ46 => 
    ∃ t47 : Bool, (v45 = (.bool t47) ∧ J28 (!t47) σ46))))))))))))))))))))))))))) (J6 σ8)))))
def Aq : OA := ⟨[], false, []⟩
def H5 : MAn := (.seq (.txt []) (.seq (.seq (.txt []) (.seq (.txt []) (.cond (.seq (.txt []) .leaf) .leaf))) (.cut ⟨[true], 1, [], []⟩ (.seq (.txt []) (.block (.loop ⟨[true], 1, [.slot 2 (.hb 0 0), .slot 15 (.sc (.int .i64))], [(13, true), (14, true)]⟩ (.seq (.txt []) (.seq (.cond .leaf .leaf) (.cut ⟨[true], 1, [.slot 2 (.hb 0 0)], [(13, true), (14, true), (15, true)]⟩ (.block (.seq (.txt []) (.cut ⟨[true, true], 2, [.slot 2 (.hb 0 0), .slot 53 (.sc (.bool))], [(13, true), (14, true), (15, true)]⟩ (.txt [Aq, Aq, Aq, Aq, ⟨[], true, []⟩, Aq, Aq, Aq, Aq, Aq, ⟨[], true, []⟩, Aq, Aq, Aq, Aq, Aq, Aq, ⟨[], true, []⟩, Aq, Aq, Aq, Aq, Aq, ⟨[], true, []⟩, Aq, Aq, Aq, Aq, Aq, ⟨[], true, []⟩]) (.cond (.seq (.txt []) .leaf) .leaf)))) (.txt []))))))) (.seq (.txt []) .leaf))))
set_option maxRecDepth 100000 in
theorem HT (σ : Hp) (m_Parking_A : Option Addr) (m_Parking_n : Nat) (m_Parking_c : Nat) (m_Roads_A : Option Addr) (m_Roads_n : Nat) (m_Roads_c : Nat) (l_A : Option Addr) (l_n : Nat) (l_c : Nat) (R : Value → Hp → Prop) (h : DT σ m_Parking_A m_Parking_n m_Parking_c m_Roads_A m_Roads_n m_Roads_c l_A l_n l_c R) : Af Try.prog 57 #[(.agg #[(.slice m_Parking_A m_Parking_n m_Parking_c), (.slice m_Roads_A m_Roads_n m_Roads_c)]), (.slice l_A l_n l_c)] σ R :=
  Am B7 H5 Try.func57 rfl (by kernel_rfl) (by kernel_rfl) (M := DT σ m_Parking_A m_Parking_n m_Parking_c m_Roads_A m_Roads_n m_Roads_c l_A l_n l_c R) (by kernel_rfl) h
theorem Dq : AA Try.prog 57 = true := by kernel_rfl
abbrev Dk : FuncId := 59
def EM (σ : Hp) (_ : Int) (_ : Int) (_ : Int) (r_Height : Int) (r_Weight : Int) (l_Height : Int) (l_Weight : Int) (_ : Int) (_ : Int) (_ : Int) (_ : Int) (R : Value → Hp → Prop) : Prop :=
  bc (decide (l_Height ≤ r_Height)) (rt σ R (.bool (decide (l_Weight ≤ r_Weight)))) (rt σ R (.bool false))
def II : MAn := (.seq (.txt []) (.seq (.txt [⟨[], false, []⟩, ⟨[], false, []⟩, ⟨[], false, []⟩, ⟨[], false, []⟩, ⟨[], false, []⟩, ⟨[], true, []⟩]) .leaf))
set_option maxRecDepth 100000 in
theorem Ix (σ : Hp) (r_A : Int) (r_B : Int) (r_Length : Int) (r_Height : Int) (r_Weight : Int) (l_Height : Int) (l_Weight : Int) (l_From : Int) (l_Ready : Int) (l_Drive : Int) (l_Rest : Int) (R : Value → Hp → Prop) (h : EM σ r_A r_B r_Length r_Height r_Weight l_Height l_Weight l_From l_Ready l_Drive l_Rest R) : Af Try.prog 59 #[(.agg #[(.int .i64 r_A), (.int .i64 r_B), (.int .i64 r_Length), (.int .i64 r_Height), (.int .i64 r_Weight)]), (.agg #[(.int .i64 l_Height), (.int .i64 l_Weight), (.int .i64 l_From), (.int .i64 l_Ready), (.int .i64 l_Drive), (.int .i64 l_Rest)])] σ R :=
  Am B7 II Try.func59 rfl (by kernel_rfl) (by kernel_rfl) (M := EM σ r_A r_B r_Length r_Height r_Weight l_Height l_Weight l_From l_Ready l_Drive l_Rest R) (by kernel_rfl) h
theorem G1 : AA Try.prog 59 = true := by kernel_rfl
abbrev IQ : FuncId := 64
def Dh (σ : Hp) (a0_Parking_A : Option Addr) (a0_Parking_n : Nat) (_ : Nat) (a0_Roads_A : Option Addr) (a0_Roads_n : Nat) (_ : Nat) (a1_Height : Int) (a1_Weight : Int) (a1_From : Int) (a1_Ready : Int) (a1_Drive : Int) (a1_Rest : Int) (a2_A : Option Addr) (a2_n : Nat) (_ : Nat) (R : Value → Hp → Prop) : Prop :=
  bc (decide ((60 : Int) < ((a2_n : Nat) : Int))) (rt σ R (.tuple #[(.int .i64 0), (.int .i64 0), (.int .i64 0), (.int .i64 2)])) (cut (α := Hp → Prop) (fun  σ2 => 
    ∀ _ : Nat → Value, cut (α := Option Addr → Int → Hp → Prop) (fun p7 n8 σ5 => ∀ _ : Nat → Value, cut (α := Int → Hp → Prop) (fun n12 σ10 => 
    ∀ _ : Nat → Value, dr p7 (fun b13 o14 => ldI σ10 .i64 b13 o14 (fun n15 => rt σ10 R (.tuple #[(.int .i64 n15), (.int .i64 n12), (.int .i64 0), (.int .i64 0)])))) (fun J11 => 
    ∃ I18 : Nat → Int → Int → Hp → Prop, (∃ n190, I18 n190 n8 0 σ5) ∧ ∀ n19 : Nat, ∀ n20 : Int, ∀ n21 : Int, ∀ σ17 : Hp, I18 n19 n20 n21 σ17 → ∀ _ : Nat → Value, bc (decide (n21 < ((a2_n : Nat) : Int))) (cut (α := Int → Hp → Prop) (fun n25 σ23 => 
    ∀ _ : Nat → Value, wk .i64 (n21 + 1) (fun n26 => bk σ23 n19 (fun m27 σ28 => I18 m27 n25 n26 σ28))) (fun J24 => 
    ix a2_A a2_n n21 2 (fun b29 a30 => ldI σ17 .i64 b29 a30 (fun n31 => ldI σ17 .i64 b29 (a30 + 1) (fun n32 => 
    ix a0_Roads_A a0_Roads_n n31 5 (fun b33 a34 => ldI σ17 .i64 b33 a34 (fun n35 => ldI σ17 .i64 b33 (a34 + 1) (fun n36 => 
    ldI σ17 .i64 b33 (a34 + 2) (fun n37 => ldI σ17 .i64 b33 (a34 + 3) (fun n38 => ldI σ17 .i64 b33 (a34 + 4) (fun n39 => 
    cut (α := Hp → Prop) (fun  σ41 => ∀ _ : Nat → Value, cut (α := Hp → Prop) (fun  σ44 => ∀ _ : Nat → Value, 
    wk .i64 (n35 + n36) (fun n46 => dr p7 (fun b47 o48 => ldI σ44 .i64 b47 o48 (fun n49 => wk .i64 (n46 - n49) (fun n50 => 
    dr p7 (fun b51 o52 => ldI σ44 .i64 b51 (o52 + 1) (fun n53 => wk .i64 (n53 + n37) (fun n54 => dr p7 (fun b55 o56 => 
    st σ44 b55 o56 (.int .i64 n50) (fun σ57 => st σ57 b55 (o56 + 1) (.int .i64 n54) (fun σ58 => dr p7 (fun b59 o60 => 
    ldI σ58 .i64 b59 (o60 + 1) (fun n61 => bc (decide (a1_Drive < n61)) (rt σ58 R (.tuple #[(.int .i64 0), (.int .i64 0), (.int .i64 n21), (.int .i64 92)])) (wk .i64 (n32 + n37) (fun n62 => 
    J24 n62 σ58))))))))))))))) (fun J45 => cut (α := Bool → Hp → Prop) (fun t66 σ64 => ∀ _ : Nat → Value, 
    bc t66 (dr p7 (fun b67 o68 => st σ64 b67 (o68 + 1) (.int .i64 0) (fun σ69 => J45 σ69))) (J45 σ64)) (fun J65 => 
    dr p7 (fun b70 o71 => ldI σ41 .i64 b70 o71 (fun n72 => ix a0_Parking_A a0_Parking_n n72 1 (fun b73 a74 => 
    ldB σ41 b73 a74 (fun t75 => bc t75 (wk .i64 (n32 - n20) (fun n76 => J65 (decide (a1_Rest ≤ n76)) σ41)) (J65 false σ41)))))))) (fun J42 => 
    cut (α := Bool → Hp → Prop) (fun t80 σ78 => ∀ _ : Nat → Value, bc t80 (rt σ78 R (.tuple #[(.int .i64 0), (.int .i64 0), (.int .i64 n21), (.int .i64 92)])) (J42 σ78)) (fun J79 => 
    dr p7 (fun b81 o82 => ldI σ17 .i64 b81 o82 (fun n83 => bc (!decide (n35 = n83)) (dr p7 (fun b84 o85 => 
    ldI σ17 .i64 b84 o85 (fun n86 => bc (!decide (n36 = n86)) (J79 true σ17) (cl Try.prog (.func (.func 59) #[] #[]) #[(.agg #[(.int .i64 n35), (.int .i64 n36), (.int .i64 n37), (.int .i64 n38), (.int .i64 n39)]), (.agg #[(.int .i64 a1_Height), (.int .i64 a1_Weight), (.int .i64 a1_From), (.int .i64 a1_Ready), (.int .i64 a1_Drive), (.int .i64 a1_Rest)])] σ17 (fun v87 σ88 => 
    ∃ t89 : Bool, (v87 = (.bool t89) ∧ bc (!t89) (J79 true σ88) (J79 (decide (n32 < n20)) σ88))))))) (cl Try.prog (.func (.func 59) #[] #[]) #[(.agg #[(.int .i64 n35), (.int .i64 n36), (.int .i64 n37), (.int .i64 n38), (.int .i64 n39)]), (.agg #[(.int .i64 a1_Height), (.int .i64 a1_Weight), (.int .i64 a1_From), (.int .i64 a1_Ready), (.int .i64 a1_Drive), (.int .i64 a1_Rest)])] σ17 (fun v90 σ91 => 
    ∃ t92 : Bool, (v90 = (.bool t92) ∧ bc (!t92) (J79 true σ91) (J79 (decide (n32 < n20)) σ91))))))))))))))))))) (J11 n20 σ17))) (fun J6 => 
    ((bx σ2 (.cells #[(.int .i64 a1_From), (.int .i64 0)] 132) (fun b93 σ94 => J6 (some ⟨b93, 0, none⟩) a1_Ready σ94)) ∧ 
    (bx σ2 (.cells #[(.int .i64 a1_From), (.int .i64 0)] 132) (fun b95 σ96 => J6 (some ⟨b95, 0, none⟩) a1_Ready σ96))))) (fun J3 => 
    ∃ I99 : Nat → Int → Hp → Prop, (∃ n1000, I99 n1000 0 σ) ∧ ∀ n100 : Nat, ∀ n101 : Int, ∀ σ98 : Hp, I99 n100 n101 σ98 → ∀ _ : Nat → Value, bc (decide (n101 < ((a2_n : Nat) : Int))) (cut (α := Hp → Prop) (fun  σ103 => 
    ∀ _ : Nat → Value, wk .i64 (n101 + 1) (fun n105 => bk σ103 n100 (fun m106 σ107 => I99 m106 n105 σ107))) (fun J104 => 
    ix a2_A a2_n n101 2 (fun b108 a109 => ldI σ98 .i64 b108 a109 (fun n110 => ldI σ98 .i64 b108 (a109 + 1) (fun n111 => 
    cut (α := Bool → Hp → Prop) (fun t115 σ113 => ∀ _ : Nat → Value, bc t115 (rt σ113 R (.tuple #[(.int .i64 0), (.int .i64 0), (.int .i64 n101), (.int .i64 1)])) (J104 σ113)) (fun J114 => 
    wk .i64 (((a0_Roads_n : Nat) : Int) - 1) (fun n116 => cl Try.prog (.func (.func 58) #[] #[]) #[(.int .i64 n110), (.int .i64 0), (.int .i64 n116)] σ98 (fun v117 σ118 => 
    ∃ t119 : Bool, (v117 = (.bool t119) ∧ bc (!t119) (J114 true σ118) (cl Try.prog (.func (.func 58) #[] #[]) #[(.int .i64 n111), (.int .i64 0), (.int .i64 100000)] σ118 (fun v120 σ121 => 
    ∃ t122 : Bool, (v120 = (.bool t122) ∧ J114 (!t122) σ121)))))))))))) (J3 σ98)))
def Ae : OA := ⟨[], false, []⟩
def Hb : MAn := (.seq (.txt []) (.seq (.seq (.txt []) (.cond (.seq (.txt []) .leaf) .leaf)) (.cut ⟨[true, true], 2, [.slot 3 (.hb 0 0), .slot 4 (.hb 1 0)], [(2, true)]⟩ (.seq (.txt []) (.block (.loop ⟨[true, true], 2, [.slot 3 (.hb 0 0), .slot 4 (.hb 1 0), .slot 22 (.sc (.int .i64))], [(2, true), (20, true), (21, true)]⟩ (.seq (.txt []) (.seq (.cond .leaf .leaf) (.cut ⟨[true, true], 2, [.slot 3 (.hb 0 0), .slot 4 (.hb 1 0)], [(2, true), (20, true), (21, true), (22, true)]⟩ (.block (.seq (.txt []) (.cut ⟨[true, true, true], 3, [.slot 3 (.hb 0 0), .slot 4 (.hb 1 0), .slot 40 (.sc (.bool))], [(2, true), (10, true), (20, true), (21, true), (22, true)]⟩ (.txt [Ae, Ae, Ae, Ae, Ae, Ae, Ae, Ae, ⟨[], true, []⟩]) (.cond (.seq (.txt []) .leaf) .leaf)))) (.txt []))))))) (.cut ⟨[true, true], 2, [.slot 3 (.hb 0 0), .slot 4 (.hb 1 0), .slot 12 (.sc (.ptr)), .slot 13 (.sc (.int .i64))], [(2, true)]⟩ (.plan [6] (.take 0 Ae (.take 1 Ae (.take 2 Ae (.take 3 Ae (.new 5 Ae (.alt 4 true Ae (.alt 6 false Ae (.take 7 Ae .done) .done) (.alt 6 false Ae (.take 4 Ae (.take 7 Ae .done)) .done)))))))) (.cut ⟨[true, true], 2, [.slot 13 (.sc (.int .i64))], [(12, true)]⟩ (.seq (.txt []) (.block (.loop ⟨[true, true], 2, [.slot 3 (.hb 0 0), .slot 4 (.hb 1 0), .slot 13 (.sc (.int .i64)), .slot 50 (.sc (.int .i64))], [(12, true), (48, true), (49, true)]⟩ (.seq (.txt []) (.seq (.cond .leaf .leaf) (.cut ⟨[true, true], 2, [.slot 3 (.hb 0 0), .slot 4 (.hb 1 0), .slot 13 (.sc (.int .i64))], [(12, true), (48, true), (49, true), (50, true)]⟩ (.block (.seq (.txt []) (.seq (.txt []) (.cut ⟨[true, true, true, true], 4, [.slot 3 (.hb 0 0), .slot 4 (.hb 1 0), .slot 15 (.hb 2 0), .slot 16 (.hb 3 0)], [(12, true), (13, true), (14, true), (48, true), (49, true), (50, true)]⟩ (.cut ⟨[true, true, true, true], 4, [.slot 3 (.hb 0 0), .slot 4 (.hb 1 0), .slot 15 (.hb 2 0), .slot 16 (.hb 3 0), .slot 84 (.sc (.bool))], [(12, true), (13, true), (14, true), (48, true), (49, true), (50, true)]⟩ (.txt [Ae, Ae, Ae, Ae, Ae, ⟨[], true, []⟩, Ae, Ae, Ae, Ae, Ae, Ae, ⟨[], true, []⟩, Ae, Ae, Ae, Ae, Ae, ⟨[], true, []⟩]) (.cond (.seq (.txt []) .leaf) .leaf)) (.cut ⟨[true, true, true, true], 4, [.slot 3 (.hb 0 0), .slot 4 (.hb 1 0), .slot 15 (.hb 2 0), .slot 16 (.hb 3 0)], [(12, true), (14, true), (48, true), (49, true), (50, true)]⟩ (.cut ⟨[true, true, true, true], 4, [.slot 3 (.hb 0 0), .slot 4 (.hb 1 0), .slot 15 (.hb 2 0), .slot 16 (.hb 3 0), .slot 100 (.sc (.bool))], [(12, true), (14, true), (48, true), (49, true), (50, true)]⟩ (.txt [Ae, Ae, Ae, Ae, Ae, Ae, ⟨[], true, []⟩]) (.cond (.txt []) .leaf)) (.seq (.txt []) (.seq (.seq (.txt []) (.cond (.seq (.txt []) .leaf) .leaf)) (.txt [])))))))) (.txt []))))))) (.seq (.txt []) .leaf))))))
set_option maxRecDepth 100000 in
theorem G5 (σ : Hp) (a0_Parking_A : Option Addr) (a0_Parking_n : Nat) (a0_Parking_c : Nat) (a0_Roads_A : Option Addr) (a0_Roads_n : Nat) (a0_Roads_c : Nat) (a1_Height : Int) (a1_Weight : Int) (a1_From : Int) (a1_Ready : Int) (a1_Drive : Int) (a1_Rest : Int) (a2_A : Option Addr) (a2_n : Nat) (a2_c : Nat) (R : Value → Hp → Prop) (h : Dh σ a0_Parking_A a0_Parking_n a0_Parking_c a0_Roads_A a0_Roads_n a0_Roads_c a1_Height a1_Weight a1_From a1_Ready a1_Drive a1_Rest a2_A a2_n a2_c R) : Af Try.prog 64 #[(.agg #[(.slice a0_Parking_A a0_Parking_n a0_Parking_c), (.slice a0_Roads_A a0_Roads_n a0_Roads_c)]), (.agg #[(.int .i64 a1_Height), (.int .i64 a1_Weight), (.int .i64 a1_From), (.int .i64 a1_Ready), (.int .i64 a1_Drive), (.int .i64 a1_Rest)]), (.slice a2_A a2_n a2_c)] σ R :=
  Am B7 Hb Try.func64 rfl (by kernel_rfl) (by kernel_rfl) (M := Dh σ a0_Parking_A a0_Parking_n a0_Parking_c a0_Roads_A a0_Roads_n a0_Roads_c a1_Height a1_Weight a1_From a1_Ready a1_Drive a1_Rest a2_A a2_n a2_c R) (by kernel_rfl) h
theorem Fx : AA Try.prog 64 = true := by kernel_rfl
abbrev Dc : FuncId := 97
def Bb (σ : Hp) (s_A : Option Addr) (s_n : Nat) (s_c : Nat) (f : Value) (R : Value → Hp → Prop) : Prop :=
  cl Try.prog (.func (.func 115) #[] #[]) #[(.slice s_A s_n s_c), f] σ (fun v1 σ2 => ∃ n3 : Int, (v1 = (.int .i64 n3) ∧ 
    rt σ2 R (.bool (decide ((0 : Int) ≤ n3)))))
def CH : MAn := (.seq (.txt []) (.seq (.txt []) .leaf))
set_option maxRecDepth 100000 in
theorem CF (σ : Hp) (s_A : Option Addr) (s_n : Nat) (s_c : Nat) (f : Value) (R : Value → Hp → Prop) (h : Bb σ s_A s_n s_c f R) : Af Try.prog 97 #[(.slice s_A s_n s_c), f] σ R :=
  Am B7 CH Try.func97 rfl (by kernel_rfl) (by kernel_rfl) (M := Bb σ s_A s_n s_c f R) (by kernel_rfl) h
theorem Cg : AA Try.prog 97 = true := by kernel_rfl
abbrev DG : FuncId := 115
def Bp (σ : Hp) (s_A : Option Addr) (s_n : Nat) (_ : Nat) (f : Value) (R : Value → Hp → Prop) : Prop :=
  cut (α := Hp → Prop) (fun  σ2 => ∀ _ : Nat → Value, rt σ2 R (.int .i64 (-1))) (fun J3 => ∃ I6 : Nat → Int → Hp → Prop, (∃ n70, I6 n70 0 σ) ∧ 
    ∀ n7 : Nat, ∀ n8 : Int, ∀ σ5 : Hp, I6 n7 n8 σ5 → ∀ _ : Nat → Value, bc (decide (n8 < ((s_n : Nat) : Int))) (ix s_A s_n n8 5 (fun b9 a10 => 
    ldI σ5 .i64 b9 a10 (fun n11 => ldI σ5 .i64 b9 (a10 + 1) (fun n12 => ldI σ5 .i64 b9 (a10 + 2) (fun n13 => 
    ldI σ5 .i64 b9 (a10 + 3) (fun n14 => ldI σ5 .i64 b9 (a10 + 4) (fun n15 => cl Try.prog f #[(.agg #[(.int .i64 n11), (.int .i64 n12), (.int .i64 n13), (.int .i64 n14), (.int .i64 n15)])] σ5 (fun v16 σ17 => 
    ∃ t18 : Bool, (v16 = (.bool t18) ∧ bc t18 (rt σ17 R (.int .i64 n8)) (wk .i64 (n8 + 1) (fun n19 => bk σ17 n7 (fun m20 σ21 => 
    I6 m20 n19 σ21)))))))))))) (J3 σ5))
def Dg : MAn := (.seq (.txt []) (.cut ⟨[], 0, [], []⟩ (.seq (.txt []) (.block (.loop ⟨[], 0, [.slot 8 (.sc (.int .i64))], [(0, true), (1, false), (7, true)]⟩ (.seq (.txt []) (.seq (.cond .leaf .leaf) (.seq (.block (.seq (.txt []) (.seq (.txt []) (.cond (.seq (.txt []) .leaf) .leaf)))) (.txt []))))))) (.seq (.txt []) .leaf)))
set_option maxRecDepth 100000 in
theorem Db (σ : Hp) (s_A : Option Addr) (s_n : Nat) (s_c : Nat) (f : Value) (R : Value → Hp → Prop) (h : Bp σ s_A s_n s_c f R) : Af Try.prog 115 #[(.slice s_A s_n s_c), f] σ R :=
  Am B7 Dg Try.func115 rfl (by kernel_rfl) (by kernel_rfl) (M := Bp σ s_A s_n s_c f R) (by kernel_rfl) h
theorem CE : AA Try.prog 115 = true := by kernel_rfl
abbrev Hr : FuncId := 50
def Cv (σ : Hp) (m_Parking_A : Option Addr) (m_Parking_n : Nat) (m_Parking_c : Nat) (m_Roads_A : Option Addr) (m_Roads_n : Nat) (m_Roads_c : Nat) (to : Int) (l_A : Option Addr) (l_n : Nat) (l_c : Nat) (R : Value → Hp → Prop) : Prop :=
  cl Try.prog (.func (.func 79) #[] #[]) #[(.agg #[(.slice m_Parking_A m_Parking_n m_Parking_c), (.slice m_Roads_A m_Roads_n m_Roads_c)])] σ (fun v1 σ2 => 
    ∃ n3 : Int, (v1 = (.int .i64 n3) ∧ bc (!decide (n3 = 0)) (rt σ2 R (.int .i64 n3)) (bc (decide ((8 : Int) < ((l_n : Nat) : Int))) (rt σ2 R (.int .i64 2)) (cl Try.prog (.func (.func 57) #[] #[]) #[(.agg #[(.slice m_Parking_A m_Parking_n m_Parking_c), (.slice m_Roads_A m_Roads_n m_Roads_c)]), (.slice l_A l_n l_c)] σ2 (fun v4 σ5 => 
    ∃ n6 : Int, (v4 = (.int .i64 n6) ∧ bc (!decide (n6 = 0)) (rt σ5 R (.int .i64 n6)) (cl Try.prog (.func (.func 80) #[] #[]) #[(.agg #[(.slice m_Parking_A m_Parking_n m_Parking_c), (.slice m_Roads_A m_Roads_n m_Roads_c)]), (.int .i64 to)] σ5 (fun v7 σ8 => 
    ∃ t9 : Bool, (v7 = (.bool t9) ∧ bc (!t9) (rt σ8 R (.int .i64 1)) (rt σ8 R (.int .i64 0)))))))))))
def FT : MAn := (.seq (.txt []) (.seq (.seq (.txt []) (.seq (.txt []) (.cond (.seq (.txt []) .leaf) .leaf))) (.seq (.seq (.txt []) (.cond (.seq (.txt []) .leaf) .leaf)) (.seq (.seq (.txt []) (.seq (.txt []) (.cond (.seq (.txt []) .leaf) .leaf))) (.seq (.seq (.txt []) (.cond (.seq (.txt []) .leaf) .leaf)) (.seq (.txt []) .leaf))))))
set_option maxRecDepth 100000 in
theorem FU (σ : Hp) (m_Parking_A : Option Addr) (m_Parking_n : Nat) (m_Parking_c : Nat) (m_Roads_A : Option Addr) (m_Roads_n : Nat) (m_Roads_c : Nat) (to : Int) (l_A : Option Addr) (l_n : Nat) (l_c : Nat) (R : Value → Hp → Prop) (h : Cv σ m_Parking_A m_Parking_n m_Parking_c m_Roads_A m_Roads_n m_Roads_c to l_A l_n l_c R) : Af Try.prog 50 #[(.agg #[(.slice m_Parking_A m_Parking_n m_Parking_c), (.slice m_Roads_A m_Roads_n m_Roads_c)]), (.int .i64 to), (.slice l_A l_n l_c)] σ R :=
  Am B7 FT Try.func50 rfl (by kernel_rfl) (by kernel_rfl) (M := Cv σ m_Parking_A m_Parking_n m_Parking_c m_Roads_A m_Roads_n m_Roads_c to l_A l_n l_c R) (by kernel_rfl) h
theorem Be : AA Try.prog 50 = true := by kernel_rfl
abbrev Dx : FuncId := 36
def B3 (σ : Hp) (a0_Parking_A : Option Addr) (a0_Parking_n : Nat) (a0_Parking_c : Nat) (a0_Roads_A : Option Addr) (a0_Roads_n : Nat) (a0_Roads_c : Nat) (a1_A : Option Addr) (a1_n : Nat) (a1_c : Nat) (a2 : Int) (a3 : Int) (a4_A : Option Addr) (a4_n : Nat) (_ : Nat) (R : Value → Hp → Prop) : Prop :=
  cl Try.prog (.func (.func 50) #[] #[]) #[(.agg #[(.slice a0_Parking_A a0_Parking_n a0_Parking_c), (.slice a0_Roads_A a0_Roads_n a0_Roads_c)]), (.int .i64 a2), (.slice a1_A a1_n a1_c)] σ (fun v1 σ2 => 
    ∃ n3 : Int, (v1 = (.int .i64 n3) ∧ bc (!decide (n3 = 0)) (rt σ2 R (.tuple #[(.int .i64 0), (.int .i64 n3)])) (cut (α := Hp → Prop) (fun  σ5 => 
    ∀ _ : Nat → Value, cut (α := Hp → Prop) (fun  σ8 => ∀ _ : Nat → Value, rt σ8 R (.tuple #[(.int .i64 0), (.int .i64 0)])) (fun J9 => 
    ∃ I12 : Nat → Int → Int → Hp → Prop, (∃ n130, I12 n130 0 0 σ5) ∧ ∀ n13 : Nat, ∀ n14 : Int, ∀ n15 : Int, ∀ σ11 : Hp, I12 n13 n14 n15 σ11 → ∀ _ : Nat → Value, bc (decide (n15 < ((a1_n : Nat) : Int))) (cut (α := Int → Hp → Prop) (fun n19 σ17 => 
    ∀ _ : Nat → Value, wk .i64 (n15 + 1) (fun n20 => bk σ17 n13 (fun m21 σ22 => I12 m21 n19 n20 σ22))) (fun J18 => 
    ix a1_A a1_n n15 6 (fun b23 a24 => ldI σ11 .i64 b23 a24 (fun n25 => ldI σ11 .i64 b23 (a24 + 1) (fun n26 => 
    ldI σ11 .i64 b23 (a24 + 2) (fun n27 => ldI σ11 .i64 b23 (a24 + 3) (fun n28 => ldI σ11 .i64 b23 (a24 + 4) (fun n29 => 
    ldI σ11 .i64 b23 (a24 + 5) (fun n30 => ix a4_A a4_n n15 1 (fun b31 a32 => ldS σ11 b31 a32 (fun A33 l33 c33 => 
    cl Try.prog (.func (.func 64) #[] #[]) #[(.agg #[(.slice a0_Parking_A a0_Parking_n a0_Parking_c), (.slice a0_Roads_A a0_Roads_n a0_Roads_c)]), (.agg #[(.int .i64 n25), (.int .i64 n26), (.int .i64 n27), (.int .i64 n28), (.int .i64 n29), (.int .i64 n30)]), (.slice A33 l33 c33)] σ11 (fun v34 σ35 => 
    ∃ n36 : Int, ∃ n37 : Int, ∃ n38 : Int, ∃ n39 : Int, (v34 = (.tuple #[(.int .i64 n36), (.int .i64 n37), (.int .i64 n38), (.int .i64 n39)]) ∧ 
    bc (!decide (n39 = 0)) (rt σ35 R (.tuple #[(.int .i64 n15), (.int .i64 n39)])) (cut (α := Hp → Prop) (fun  σ41 => 
    ∀ _ : Nat → Value, J18 n37 σ41) (fun J42 => cut (α := Bool → Hp → Prop) (fun t46 σ44 => ∀ _ : Nat → Value, 
    bc t46 (rt σ44 R (.tuple #[(.int .i64 n15), (.int .i64 92)])) (J42 σ44)) (fun J45 => bc (!decide (n36 = a2)) (J45 true σ35) (bc (decide ((0 : Int) < n15)) (wk .i64 (n14 + a3) (fun n47 => 
    J45 (decide (n37 < n47)) σ35)) (J45 false σ35)))))))))))))))))) (J9 σ11))) (fun J6 => cut (α := Bool → Hp → Prop) (fun t51 σ49 => 
    ∀ _ : Nat → Value, bc t51 (rt σ49 R (.tuple #[(.int .i64 0), (.int .i64 1)])) (J6 σ49)) (fun J50 => 
    cl Try.prog (.func (.func 58) #[] #[]) #[(.int .i64 a3), (.int .i64 0), (.int .i64 100)] σ2 (fun v52 σ53 => 
    ∃ t54 : Bool, (v52 = (.bool t54) ∧ bc (!t54) (J50 true σ53) (J50 (!decide (((a4_n : Nat) : Int) = ((a1_n : Nat) : Int))) σ53))))))))
def Ah : OA := ⟨[], false, []⟩
def E5 : MAn := (.seq (.txt []) (.seq (.seq (.txt []) (.seq (.txt []) (.cond (.seq (.txt []) .leaf) .leaf))) (.cut ⟨[true], 1, [.slot 5 (.hb 0 0)], [(1, true), (2, true), (3, true), (4, true)]⟩ (.cut ⟨[true], 1, [.slot 5 (.hb 0 0), .slot 36 (.sc (.bool))], [(1, true), (2, true), (3, true), (4, true)]⟩ (.txt [Ah, Ah, Ah, ⟨[], true, []⟩]) (.cond (.seq (.txt []) .leaf) .leaf)) (.seq (.txt []) (.cut ⟨[true], 1, [], []⟩ (.seq (.txt []) (.block (.loop ⟨[true], 1, [.slot 5 (.hb 0 0), .slot 13 (.sc (.int .i64)), .slot 39 (.sc (.int .i64))], [(2, true), (3, true), (4, true), (37, true), (38, true)]⟩ (.seq (.txt []) (.seq (.cond .leaf .leaf) (.cut ⟨[true], 1, [.slot 5 (.hb 0 0), .slot 13 (.sc (.int .i64))], [(2, true), (3, true), (4, true), (37, true), (38, true), (39, true)]⟩ (.block (.seq (.txt []) (.seq (.plan [6] (.take 0 Ah (.take 1 Ah (.take 2 Ah (.take 3 Ah (.take 4 Ah (.take 5 Ah (.alt 6 false Ah (.take 7 Ah (.take 8 Ah (.take 9 Ah (.take 10 Ah (.take 11 Ah (.take 12 Ah (.take 13 Ah (.take 14 Ah (.take 15 Ah .done))))))))) .done)))))))) (.seq (.seq (.txt []) (.cond (.seq (.txt []) .leaf) .leaf)) (.cut ⟨[true, true], 2, [.slot 5 (.hb 0 0)], [(2, true), (3, true), (4, true), (17, true), (37, true), (38, true), (39, true)]⟩ (.cut ⟨[true, true], 2, [.slot 5 (.hb 0 0), .slot 73 (.sc (.bool))], [(2, true), (3, true), (4, true), (14, true), (17, true), (37, true), (38, true), (39, true)]⟩ (.txt [Ah, Ah, Ah, ⟨[], true, []⟩, Ah, Ah, ⟨[], true, []⟩]) (.cond (.seq (.txt []) .leaf) .leaf)) (.txt [])))))) (.txt []))))))) (.seq (.txt []) .leaf))))))
set_option maxRecDepth 100000 in
theorem EP (σ : Hp) (a0_Parking_A : Option Addr) (a0_Parking_n : Nat) (a0_Parking_c : Nat) (a0_Roads_A : Option Addr) (a0_Roads_n : Nat) (a0_Roads_c : Nat) (a1_A : Option Addr) (a1_n : Nat) (a1_c : Nat) (a2 : Int) (a3 : Int) (a4_A : Option Addr) (a4_n : Nat) (a4_c : Nat) (R : Value → Hp → Prop) (h : B3 σ a0_Parking_A a0_Parking_n a0_Parking_c a0_Roads_A a0_Roads_n a0_Roads_c a1_A a1_n a1_c a2 a3 a4_A a4_n a4_c R) : Af Try.prog 36 #[(.agg #[(.slice a0_Parking_A a0_Parking_n a0_Parking_c), (.slice a0_Roads_A a0_Roads_n a0_Roads_c)]), (.slice a1_A a1_n a1_c), (.int .i64 a2), (.int .i64 a3), (.slice a4_A a4_n a4_c)] σ R :=
  Am B7 E5 Try.func36 rfl (by kernel_rfl) (by kernel_rfl) (M := B3 σ a0_Parking_A a0_Parking_n a0_Parking_c a0_Roads_A a0_Roads_n a0_Roads_c a1_A a1_n a1_c a2 a3 a4_A a4_n a4_c R) (by kernel_rfl) h
theorem DS : AA Try.prog 36 = true := by kernel_rfl
end Go.Proofs.Ytkdjkkimngeloaa
