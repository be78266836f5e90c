/- Trimmed by wip/trim.py to what this claim rests on. -/
import Derived.Test.YtkdjkkimngeloaaYB11
namespace Go.Proofs.Ytkdjkkimngeloaa
open Go.RowKit
theorem CC : Try.prog.follows .mixedOrders = true := by kernel_rfl
abbrev Hs : FuncId := 60
def Fa (σ : Hp) (n : Int) (low : Int) (high : Int) (R : Value → Hp → Prop) : Prop :=
  bc (decide (low ≤ n)) (rt σ R (.bool (decide (n ≤ high)))) (rt σ R (.bool false))
def IM : MAn := (.seq (.txt []) (.seq (.txt [⟨[], false, []⟩, ⟨[], false, []⟩, ⟨[], false, []⟩, ⟨[], true, []⟩]) .leaf))
set_option maxRecDepth 100000 in
theorem IZ (σ : Hp) (n : Int) (low : Int) (high : Int) (R : Value → Hp → Prop) (h : Fa σ n low high R) : Ag Try.prog 60 #[(.int .i64 n), (.int .i64 low), (.int .i64 high)] σ R :=
  An CC IM Try.func60 rfl (by kernel_rfl) (by kernel_rfl) (M := Fa σ n low high R) (by kernel_rfl) h
theorem GV : Aw Try.prog 60 = true := by kernel_rfl
abbrev Ir : FuncId := 62
def CP (σ : Hp) (a0_Parking_A : Option Addr) (a0_Parking_n : Nat) (a0_Parking_c : Nat) (a0_Roads_A : Option Addr) (a0_Roads_n : Nat) (a0_Roads_c : Nat) (R : Value → Hp → Prop) : Prop :=
  cut (α := Hp → Prop) (fun  σ2 => ∀ _ : Nat → Value, cut (α := Hp → Prop) (fun  σ5 => ∀ _ : Nat → Value, 
    rt σ5 R (.int .i64 0)) (fun J6 => ∃ I9 : Nat → Int → Hp → Prop, (∃ n100, I9 n100 0 σ2) ∧ ∀ n10 : Nat, ∀ n11 : Int, ∀ σ8 : Hp, I9 n10 n11 σ8 → ∀ _ : Nat → Value, bc (decide (n11 < ((a0_Roads_n : Nat) : Int))) (cut (α := Hp → Prop) (fun  σ13 => 
    ∀ _ : Nat → Value, wk .i64 (n11 + 1) (fun n15 => bk σ13 n10 (fun m16 σ17 => I9 m16 n15 σ17))) (fun J14 => 
    ix a0_Roads_A a0_Roads_n n11 5 (fun b18 a19 => ldI σ8 .i64 b18 a19 (fun n20 => ldI σ8 .i64 b18 (a19 + 1) (fun n21 => 
    ldI σ8 .i64 b18 (a19 + 2) (fun n22 => ldI σ8 .i64 b18 (a19 + 3) (fun n23 => ldI σ8 .i64 b18 (a19 + 4) (fun n24 => 
    cut (α := Bool → Hp → Prop) (fun t28 σ26 => ∀ _ : Nat → Value, bc t28 (rt σ26 R (.int .i64 90)) (J14 σ26)) (fun J27 => 
    cl Try.prog (.func (.func 86) #[] #[]) #[(.agg #[(.slice a0_Parking_A a0_Parking_n a0_Parking_c), (.slice a0_Roads_A a0_Roads_n a0_Roads_c)]), (.int .i64 n20)] σ8 (fun v29 σ30 => 
    ∃ t31 : Bool, (v29 = (.bool t31) ∧ bc (!t31) (J27 true σ30) (cl Try.prog (.func (.func 86) #[] #[]) #[(.agg #[(.slice a0_Parking_A a0_Parking_n a0_Parking_c), (.slice a0_Roads_A a0_Roads_n a0_Roads_c)]), (.int .i64 n21)] σ30 (fun v32 σ33 => 
    ∃ t34 : Bool, (v32 = (.bool t34) ∧ bc (!t34) (J27 true σ33) (bc (decide (n20 = n21)) (J27 true σ33) (cl Try.prog (.func (.func 60) #[] #[]) #[(.int .i64 n22), (.int .i64 1), (.int .i64 500)] σ33 (fun v35 σ36 => 
    ∃ t37 : Bool, (v35 = (.bool t37) ∧ bc (!t37) (J27 true σ36) (cl Try.prog (.func (.func 60) #[] #[]) #[(.int .i64 n23), (.int .i64 0), (.int .i64 1000)] σ36 (fun v38 σ39 => 
    ∃ t40 : Bool, (v38 = (.bool t40) ∧ bc (!t40) (J27 true σ39) (cl Try.prog (.func (.func 60) #[] #[]) #[(.int .i64 n24), (.int .i64 0), (.int .i64 1000)] σ39 (fun v41 σ42 => 
    ∃ t43 : Bool, (v41 = (.bool t43) ∧ J27 (!t43) σ42)))))))))))))))))))))))) (J6 σ8))) (fun J3 => cut (α := Bool → Hp → Prop) (fun t47 σ45 => 
    ∀ _ : Nat → Value, bc t47 (rt σ45 R (.int .i64 90)) (J3 σ45)) (fun J46 => cl Try.prog (.func (.func 60) #[] #[]) #[(.int .i64 ((a0_Parking_n : Nat) : Int)), (.int .i64 1), (.int .i64 12)] σ (fun v48 σ49 => 
    ∃ t50 : Bool, (v48 = (.bool t50) ∧ bc (!t50) (J46 true σ49) (J46 (decide ((30 : Int) < ((a0_Roads_n : Nat) : Int))) σ49)))))
def Ah : OA := ⟨[], false, []⟩
def Gx : MAn := (.seq (.txt []) (.cut ⟨[true], 1, [.slot 1 (.hb 0 0)], []⟩ (.cut ⟨[true], 1, [.slot 1 (.hb 0 0), .slot 15 (.sc (.bool))], []⟩ (.txt [Ah, Ah, Ah, Ah, Ah, ⟨[], true, []⟩]) (.cond (.seq (.txt []) .leaf) .leaf)) (.cut ⟨[true], 1, [], []⟩ (.seq (.txt []) (.block (.loop ⟨[true], 1, [.slot 1 (.hb 0 0), .slot 3 (.sc (.int .i64))], []⟩ (.seq (.seq (.txt []) (.cond .leaf .leaf)) (.cut ⟨[true], 1, [.slot 1 (.hb 0 0)], [(3, true)]⟩ (.block (.seq (.txt []) (.cut ⟨[true, true], 2, [.slot 1 (.hb 0 0), .slot 64 (.sc (.bool))], [(3, true)]⟩ (.txt [Ah, Ah, Ah, Ah, Ah, ⟨[], true, []⟩, Ah, Ah, Ah, Ah, Ah, Ah, ⟨[], true, []⟩, Ah, Ah, Ah, Ah, Ah, Ah, ⟨[], true, []⟩, Ah, Ah, Ah, Ah, Ah, ⟨[], true, []⟩, Ah, Ah, Ah, Ah, Ah, ⟨[], true, []⟩]) (.cond (.seq (.txt []) .leaf) .leaf)))) (.txt [])))))) (.seq (.txt []) .leaf))))
set_option maxRecDepth 100000 in
theorem Gv (σ : Hp) (a0_Parking_A : Option Addr) (a0_Parking_n : Nat) (a0_Parking_c : Nat) (a0_Roads_A : Option Addr) (a0_Roads_n : Nat) (a0_Roads_c : Nat) (R : Value → Hp → Prop) (h : CP σ a0_Parking_A a0_Parking_n a0_Parking_c a0_Roads_A a0_Roads_n a0_Roads_c R) : Ag Try.prog 62 #[(.agg #[(.slice a0_Parking_A a0_Parking_n a0_Parking_c), (.slice a0_Roads_A a0_Roads_n a0_Roads_c)])] σ R :=
  An CC Gx Try.func62 rfl (by kernel_rfl) (by kernel_rfl) (M := CP σ a0_Parking_A a0_Parking_n a0_Parking_c a0_Roads_A a0_Roads_n a0_Roads_c R) (by kernel_rfl) h
theorem ES : Aw Try.prog 62 = true := by kernel_rfl
abbrev HC : FuncId := 86
def EZ (σ : Hp) (_ : Option Addr) (m_Parking_n : Nat) (_ : Nat) (_ : Option Addr) (_ : Nat) (_ : Nat) (n : Int) (R : Value → Hp → Prop) : Prop :=
  wk .i64 (((m_Parking_n : Nat) : Int) - 1) (fun n1 => cl Try.prog (.func (.func 60) #[] #[]) #[(.int .i64 n), (.int .i64 0), (.int .i64 n1)] σ (fun v2 σ3 => 
    ∃ t4 : Bool, (v2 = (.bool t4) ∧ rt σ3 R (.bool t4))))
def IU : MAn := (.seq (.txt []) (.seq (.txt []) .leaf))
set_option maxRecDepth 100000 in
theorem IN (σ : Hp) (m_Parking_A : Option Addr) (m_Parking_n : Nat) (m_Parking_c : Nat) (m_Roads_A : Option Addr) (m_Roads_n : Nat) (m_Roads_c : Nat) (n : Int) (R : Value → Hp → Prop) (h : EZ σ m_Parking_A m_Parking_n m_Parking_c m_Roads_A m_Roads_n m_Roads_c n R) : Ag Try.prog 86 #[(.agg #[(.slice m_Parking_A m_Parking_n m_Parking_c), (.slice m_Roads_A m_Roads_n m_Roads_c)]), (.int .i64 n)] σ R :=
  An CC IU Try.func86 rfl (by kernel_rfl) (by kernel_rfl) (M := EZ σ m_Parking_A m_Parking_n m_Parking_c m_Roads_A m_Roads_n m_Roads_c n R) (by kernel_rfl) h
theorem GG : Aw Try.prog 86 = true := by kernel_rfl
abbrev GQ : FuncId := 63
def Ch (σ : Hp) (m_Parking_A : Option Addr) (m_Parking_n : Nat) (m_Parking_c : Nat) (m_Roads_A : Option Addr) (m_Roads_n : Nat) (m_Roads_c : Nat) (l_Height : Int) (l_Weight : Int) (l_From : Int) (l_Ready : Int) (l_Drive : Int) (l_Rest : Int) (R : Value → Hp → Prop) : Prop :=
  cut (α := Hp → Prop) (fun  σ2 => ∀ _ : Nat → Value, rt σ2 R (.int .i64 0)) (fun J3 => cut (α := Bool → Hp → Prop) (fun t7 σ5 => 
    ∀ _ : Nat → Value, bc t7 (rt σ5 R (.int .i64 91)) (J3 σ5)) (fun J6 => cl Try.prog (.func (.func 60) #[] #[]) #[(.int .i64 l_Height), (.int .i64 0), (.int .i64 1000)] σ (fun v8 σ9 => 
    ∃ t10 : Bool, (v8 = (.bool t10) ∧ bc (!t10) (J6 true σ9) (cl Try.prog (.func (.func 60) #[] #[]) #[(.int .i64 l_Weight), (.int .i64 0), (.int .i64 1000)] σ9 (fun v11 σ12 => 
    ∃ t13 : Bool, (v11 = (.bool t13) ∧ bc (!t13) (J6 true σ12) (cl Try.prog (.func (.func 86) #[] #[]) #[(.agg #[(.slice m_Parking_A m_Parking_n m_Parking_c), (.slice m_Roads_A m_Roads_n m_Roads_c)]), (.int .i64 l_From)] σ12 (fun v14 σ15 => 
    ∃ t16 : Bool, (v14 = (.bool t16) ∧ bc (!t16) (J6 true σ15) (cl Try.prog (.func (.func 60) #[] #[]) #[(.int .i64 l_Ready), (.int .i64 0), (.int .i64 2000)] σ15 (fun v17 σ18 => 
    ∃ t19 : Bool, (v17 = (.bool t19) ∧ bc (!t19) (J6 true σ18) (cl Try.prog (.func (.func 60) #[] #[]) #[(.int .i64 l_Drive), (.int .i64 1), (.int .i64 500)] σ18 (fun v20 σ21 => 
    ∃ t22 : Bool, (v20 = (.bool t22) ∧ bc (!t22) (J6 true σ21) (cl Try.prog (.func (.func 60) #[] #[]) #[(.int .i64 l_Rest), (.int .i64 1), (.int .i64 500)] σ21 (fun v23 σ24 => 
    ∃ t25 : Bool, (v23 = (.bool t25) ∧ J6 (!t25) σ24)))))))))))))))))))
def Ai : OA := ⟨[], false, []⟩
def FB : MAn := (.seq (.txt []) (.cut ⟨[true, true], 2, [], []⟩ (.cut ⟨[true, true], 2, [.slot 39 (.sc (.bool))], []⟩ (.txt [Ai, Ai, Ai, Ai, ⟨[], true, []⟩, Ai, Ai, Ai, Ai, Ai, ⟨[], true, []⟩, Ai, Ai, Ai, Ai, Ai, Ai, ⟨[], true, []⟩, Ai, Ai, Ai, Ai, Ai, ⟨[], true, []⟩, Ai, Ai, Ai, Ai, Ai, ⟨[], true, []⟩]) (.cond (.seq (.txt []) .leaf) .leaf)) (.seq (.txt []) .leaf)))
set_option maxRecDepth 100000 in
theorem Fr (σ : Hp) (m_Parking_A : Option Addr) (m_Parking_n : Nat) (m_Parking_c : Nat) (m_Roads_A : Option Addr) (m_Roads_n : Nat) (m_Roads_c : Nat) (l_Height : Int) (l_Weight : Int) (l_From : Int) (l_Ready : Int) (l_Drive : Int) (l_Rest : Int) (R : Value → Hp → Prop) (h : Ch σ m_Parking_A m_Parking_n m_Parking_c m_Roads_A m_Roads_n m_Roads_c l_Height l_Weight l_From l_Ready l_Drive l_Rest R) : Ag Try.prog 63 #[(.agg #[(.slice m_Parking_A m_Parking_n m_Parking_c), (.slice m_Roads_A m_Roads_n m_Roads_c)]), (.agg #[(.int .i64 l_Height), (.int .i64 l_Weight), (.int .i64 l_From), (.int .i64 l_Ready), (.int .i64 l_Drive), (.int .i64 l_Rest)])] σ R :=
  An CC FB Try.func63 rfl (by kernel_rfl) (by kernel_rfl) (M := Ch σ m_Parking_A m_Parking_n m_Parking_c m_Roads_A m_Roads_n m_Roads_c l_Height l_Weight l_From l_Ready l_Drive l_Rest R) (by kernel_rfl) h
theorem D6 : Aw Try.prog 63 = true := by kernel_rfl
abbrev J2 : FuncId := 29
def Ek (σ : Hp) (m_Parking_A : Option Addr) (m_Parking_n : Nat) (m_Parking_c : Nat) (m_Roads_A : Option Addr) (m_Roads_n : Nat) (m_Roads_c : Nat) (l_Height : Int) (l_Weight : Int) (l_From : Int) (l_Ready : Int) (l_Drive : Int) (l_Rest : Int) (R : Value → Hp → Prop) : Prop :=
  cl Try.prog (.func (.func 62) #[] #[]) #[(.agg #[(.slice m_Parking_A m_Parking_n m_Parking_c), (.slice m_Roads_A m_Roads_n m_Roads_c)])] σ (fun v1 σ2 => 
    ∃ n3 : Int, (v1 = (.int .i64 n3) ∧ bc (!decide (n3 = 0)) (rt σ2 R (.int .i64 n3)) (cl Try.prog (.func (.func 63) #[] #[]) #[(.agg #[(.slice m_Parking_A m_Parking_n m_Parking_c), (.slice m_Roads_A m_Roads_n m_Roads_c)]), (.agg #[(.int .i64 l_Height), (.int .i64 l_Weight), (.int .i64 l_From), (.int .i64 l_Ready), (.int .i64 l_Drive), (.int .i64 l_Rest)])] σ2 (fun v4 σ5 => 
    ∃ n6 : Int, (v4 = (.int .i64 n6) ∧ rt σ5 R (.int .i64 n6))))))
def H1 : MAn := (.seq (.txt []) (.seq (.txt []) (.seq (.seq (.txt []) (.cond (.seq (.txt []) .leaf) .leaf)) (.seq (.txt []) .leaf))))
set_option maxRecDepth 100000 in
theorem Iq (σ : Hp) (m_Parking_A : Option Addr) (m_Parking_n : Nat) (m_Parking_c : Nat) (m_Roads_A : Option Addr) (m_Roads_n : Nat) (m_Roads_c : Nat) (l_Height : Int) (l_Weight : Int) (l_From : Int) (l_Ready : Int) (l_Drive : Int) (l_Rest : Int) (R : Value → Hp → Prop) (h : Ek σ m_Parking_A m_Parking_n m_Parking_c m_Roads_A m_Roads_n m_Roads_c l_Height l_Weight l_From l_Ready l_Drive l_Rest R) : Ag Try.prog 29 #[(.agg #[(.slice m_Parking_A m_Parking_n m_Parking_c), (.slice m_Roads_A m_Roads_n m_Roads_c)]), (.agg #[(.int .i64 l_Height), (.int .i64 l_Weight), (.int .i64 l_From), (.int .i64 l_Ready), (.int .i64 l_Drive), (.int .i64 l_Rest)])] σ R :=
  An CC H1 Try.func29 rfl (by kernel_rfl) (by kernel_rfl) (M := Ek σ m_Parking_A m_Parking_n m_Parking_c m_Roads_A m_Roads_n m_Roads_c l_Height l_Weight l_From l_Ready l_Drive l_Rest R) (by kernel_rfl) h
theorem Gs : Aw Try.prog 29 = true := by kernel_rfl
abbrev EN : FuncId := 61
def Fi (σ : Hp) (l_Height : Int) (l_Weight : Int) (_ : Int) (_ : Int) (_ : Int) (_ : Int) (_ : Int) (_ : Int) (_ : Int) (r_Height : Int) (r_Weight : Int) (R : Value → Hp → Prop) : Prop :=
  bc (decide (l_Height ≤ r_Height)) (rt σ R (.bool (decide (l_Weight ≤ r_Weight)))) (rt σ R (.bool false))
def IK : MAn := (.seq (.txt []) (.seq (.txt [⟨[], false, []⟩, ⟨[], false, []⟩, ⟨[], false, []⟩, ⟨[], false, []⟩, ⟨[], false, []⟩, ⟨[], true, []⟩]) .leaf))
set_option maxRecDepth 100000 in
theorem IL (σ : Hp) (l_Height : Int) (l_Weight : Int) (l_From : Int) (l_Ready : Int) (l_Drive : Int) (l_Rest : Int) (r_A : Int) (r_B : Int) (r_Length : Int) (r_Height : Int) (r_Weight : Int) (R : Value → Hp → Prop) (h : Fi σ l_Height l_Weight l_From l_Ready l_Drive l_Rest r_A r_B r_Length r_Height r_Weight R) : Ag Try.prog 61 #[(.agg #[(.int .i64 l_Height), (.int .i64 l_Weight), (.int .i64 l_From), (.int .i64 l_Ready), (.int .i64 l_Drive), (.int .i64 l_Rest)]), (.agg #[(.int .i64 r_A), (.int .i64 r_B), (.int .i64 r_Length), (.int .i64 r_Height), (.int .i64 r_Weight)])] σ R :=
  An CC IK Try.func61 rfl (by kernel_rfl) (by kernel_rfl) (M := Fi σ l_Height l_Weight l_From l_Ready l_Drive l_Rest r_A r_B r_Length r_Height r_Weight R) (by kernel_rfl) h
theorem GZ : Aw Try.prog 61 = true := by kernel_rfl
abbrev Lu : FuncId := 65
def FU (σ : Hp) (a0_Parking_A : Option Addr) (a0_Parking_n : Nat) (_ : Nat) (a0_Roads_A : Option Addr) (a0_Roads_n : Nat) (_ : Nat) (a1_Height : Int) (a1_Weight : Int) (a1_From : Int) (a1_Ready : Int) (a1_Drive : Int) (a1_Rest : Int) (a2_at : Int) (a2_since : Int) (a2_driven : Int) (a3_Road : Int) (a3_Depart : Int) (R : Value → Hp → Prop) : Prop :=
  ix a0_Roads_A a0_Roads_n a3_Road 5 (fun b1 a2 => ldI σ .i64 b1 a2 (fun n3 => ldI σ .i64 b1 (a2 + 1) (fun n4 => 
    ldI σ .i64 b1 (a2 + 2) (fun n5 => ldI σ .i64 b1 (a2 + 3) (fun n6 => ldI σ .i64 b1 (a2 + 4) (fun n7 => 
    cut (α := Int → Int → Int → Hp → Prop) (fun _ _ _ σ9 => ∀ _ : Nat → Value, cut (α := Int → Hp → Prop) (fun n17 σ15 => 
    ∀ _ : Nat → Value, wk .i64 (n3 + n4) (fun n18 => wk .i64 (n18 - a2_at) (fun n19 => wk .i64 (a3_Depart + n5) (fun n20 => 
    wk .i64 (n17 + n5) (fun n21 => ((wk .i64 (n17 + n5) (fun n22 => ((rt σ15 R (.tuple #[(.agg #[(.int .i64 n19), (.int .i64 n20), (.int .i64 n21)]), (.bool (decide (n22 ≤ a1_Drive)))])) ∧ 
    (rt σ15 R (.tuple #[(.agg #[(.int .i64 n19), (.int .i64 n20), (.int .i64 n21)]), (.bool (decide (n22 ≤ a1_Drive)))]))))) ∧ 
    ((wk .i64 (n17 + n5) (fun n23 => rt σ15 R (.tuple #[(.agg #[(.int .i64 n19), (.int .i64 n20), (.int .i64 n21)]), (.bool (decide (n23 ≤ a1_Drive)))]))) ∧ 
    (wk .i64 (n17 + n5) (fun n24 => rt σ15 R (.tuple #[(.agg #[(.int .i64 n19), (.int .i64 n20), (.int .i64 n21)]), (.bool (decide (n24 ≤ a1_Drive)))])))) ∧ 
    (wk .i64 (n17 + n5) (fun n25 => rt σ15 R (.tuple #[(.agg #[(.int .i64 n19), (.int .i64 n20), (.int .i64 n21)]), (.bool (decide (n25 ≤ a1_Drive)))]))))))))) (fun J16 => 
    cut (α := Bool → Hp → Prop) (fun t29 σ27 => ∀ _ : Nat → Value, bc t29 (J16 0 σ27) (J16 a2_driven σ27)) (fun J28 => 
    ix a0_Parking_A a0_Parking_n a2_at 1 (fun b30 a31 => ldB σ9 b30 a31 (fun t32 => bc t32 (wk .i64 (a3_Depart - a2_since) (fun n33 => 
    J28 (decide (a1_Rest ≤ n33)) σ9)) (J28 false σ9)))))) (fun J10 => cut (α := Bool → Hp → Prop) (fun t37 σ35 => 
    ∀ _ : Nat → Value, bc t37 (rt σ35 R (.tuple #[(.agg #[(.int .i64 a2_at), (.int .i64 a2_since), (.int .i64 a2_driven)]), (.bool false)])) (J10 0 0 0 σ35)) (fun J36 => 
    bc (!decide (a2_at = n3)) (bc (!decide (a2_at = n4)) (J36 true σ) (cl Try.prog (.func (.func 61) #[] #[]) #[(.agg #[(.int .i64 a1_Height), (.int .i64 a1_Weight), (.int .i64 a1_From), (.int .i64 a1_Ready), (.int .i64 a1_Drive), (.int .i64 a1_Rest)]), (.agg #[(.int .i64 n3), (.int .i64 n4), (.int .i64 n5), (.int .i64 n6), (.int .i64 n7)])] σ (fun v38 σ39 => 
    ∃ t40 : Bool, (v38 = (.bool t40) ∧ bc (!t40) (J36 true σ39) (J36 (decide (a3_Depart < a2_since)) σ39))))) (cl Try.prog (.func (.func 61) #[] #[]) #[(.agg #[(.int .i64 a1_Height), (.int .i64 a1_Weight), (.int .i64 a1_From), (.int .i64 a1_Ready), (.int .i64 a1_Drive), (.int .i64 a1_Rest)]), (.agg #[(.int .i64 n3), (.int .i64 n4), (.int .i64 n5), (.int .i64 n6), (.int .i64 n7)])] σ (fun v41 σ42 => 
    ∃ t43 : Bool, (v41 = (.bool t43) ∧ bc (!t43) (J36 true σ42) (J36 (decide (a3_Depart < a2_since)) σ42))))))))))))
def Ac : OA := ⟨[], false, []⟩
def JA : MAn := (.seq (.txt []) (.seq (.txt []) (.cut ⟨[true, true, true, true, false, true], 6, [.slot 4 (.hb 0 0), .slot 5 (.hb 1 0), .slot 6 (.hb 2 0), .slot 7 (.hb 3 0), .slot 8 (.hb 4 0), .slot 10 (.hb 5 0), .modb 4 88 [.sc (.int .i64), .sc (.int .i64), .sc (.int .i64)]], []⟩ (.cut ⟨[true, true, true, true, true, true], 6, [.slot 4 (.hb 0 0), .slot 5 (.hb 1 0), .slot 6 (.hb 2 0), .slot 7 (.hb 3 0), .slot 8 (.hb 4 0), .slot 10 (.hb 5 0), .slot 42 (.sc (.bool))], []⟩ (.txt [Ac, Ac, Ac, Ac, Ac, ⟨[], true, []⟩, Ac, Ac, Ac, Ac, Ac, Ac, ⟨[], true, []⟩, Ac, Ac, Ac, Ac, Ac, ⟨[], true, []⟩]) (.cond (.seq (.txt []) .leaf) .leaf)) (.seq (.txt []) (.cut ⟨[true, true, true, true, true, true], 6, [.slot 5 (.hb 1 0), .slot 6 (.hb 2 0), .slot 7 (.hb 3 0), .slot 8 (.hb 4 0), .slot 10 (.hb 5 0), .slot 11 (.sc (.int .i64))], []⟩ (.cut ⟨[true, true, true, true, true, true], 6, [.slot 5 (.hb 1 0), .slot 6 (.hb 2 0), .slot 7 (.hb 3 0), .slot 8 (.hb 4 0), .slot 10 (.hb 5 0), .slot 61 (.sc (.bool))], [(11, true)]⟩ (.txt [Ac, Ac, Ac, Ac, Ac, Ac, ⟨[], true, []⟩]) (.cond (.txt []) .leaf)) (.seq (.plan [25] (.take 0 Ac (.take 1 Ac (.take 2 Ac (.take 3 Ac (.take 4 Ac (.take 5 Ac (.take 6 Ac (.take 7 Ac (.take 8 Ac (.take 9 Ac (.take 10 Ac (.take 11 Ac (.take 12 Ac (.take 13 Ac (.take 14 Ac (.take 15 Ac (.take 16 Ac (.take 17 Ac (.take 18 Ac (.take 19 Ac (.take 22 Ac (.alt 20 true Ac (.take 21 Ac (.alt 23 true Ac (.take 24 Ac (.alt 25 false Ac (.take 26 Ac .done) .done)) (.alt 25 false Ac (.take 23 Ac (.take 24 Ac (.take 26 Ac .done))) .done))) (.alt 23 true Ac (.alt 20 true Ac (.take 21 Ac (.take 24 Ac (.alt 25 false Ac (.take 26 Ac .done) .done))) (.alt 25 false Ac (.take 20 Ac (.take 21 Ac (.take 24 Ac (.take 26 Ac .done)))) .done)) (.alt 25 false Ac (.take 20 Ac (.take 21 Ac (.take 23 Ac (.take 24 Ac (.take 26 Ac .done))))) .done))))))))))))))))))))))))) .leaf))))))
set_option maxRecDepth 100000 in
theorem JG (σ : Hp) (a0_Parking_A : Option Addr) (a0_Parking_n : Nat) (a0_Parking_c : Nat) (a0_Roads_A : Option Addr) (a0_Roads_n : Nat) (a0_Roads_c : Nat) (a1_Height : Int) (a1_Weight : Int) (a1_From : Int) (a1_Ready : Int) (a1_Drive : Int) (a1_Rest : Int) (a2_at : Int) (a2_since : Int) (a2_driven : Int) (a3_Road : Int) (a3_Depart : Int) (R : Value → Hp → Prop) (h : FU σ a0_Parking_A a0_Parking_n a0_Parking_c a0_Roads_A a0_Roads_n a0_Roads_c a1_Height a1_Weight a1_From a1_Ready a1_Drive a1_Rest a2_at a2_since a2_driven a3_Road a3_Depart R) : Ag Try.prog 65 #[(.agg #[(.slice a0_Parking_A a0_Parking_n a0_Parking_c), (.slice a0_Roads_A a0_Roads_n a0_Roads_c)]), (.agg #[(.int .i64 a1_Height), (.int .i64 a1_Weight), (.int .i64 a1_From), (.int .i64 a1_Ready), (.int .i64 a1_Drive), (.int .i64 a1_Rest)]), (.agg #[(.int .i64 a2_at), (.int .i64 a2_since), (.int .i64 a2_driven)]), (.agg #[(.int .i64 a3_Road), (.int .i64 a3_Depart)])] σ R :=
  An CC JA Try.func65 rfl (by kernel_rfl) (by kernel_rfl) (M := FU σ a0_Parking_A a0_Parking_n a0_Parking_c a0_Roads_A a0_Roads_n a0_Roads_c a1_Height a1_Weight a1_From a1_Ready a1_Drive a1_Rest a2_at a2_since a2_driven a3_Road a3_Depart R) (by kernel_rfl) h
theorem DW : Aw Try.prog 65 = true := by kernel_rfl
abbrev FG : FuncId := 35
def BS (σ : Hp) (a0_Parking_A : Option Addr) (a0_Parking_n : Nat) (a0_Parking_c : Nat) (a0_Roads_A : Option Addr) (a0_Roads_n : Nat) (a0_Roads_c : Nat) (a1_Height : Int) (a1_Weight : Int) (a1_From : Int) (a1_Ready : Int) (a1_Drive : Int) (a1_Rest : Int) (a2_A : Option Addr) (a2_n : Nat) (_ : Nat) (R : Value → Hp → Prop) : Prop :=
  cl Try.prog (.func (.func 29) #[] #[]) #[(.agg #[(.slice a0_Parking_A a0_Parking_n a0_Parking_c), (.slice a0_Roads_A a0_Roads_n a0_Roads_c)]), (.agg #[(.int .i64 a1_Height), (.int .i64 a1_Weight), (.int .i64 a1_From), (.int .i64 a1_Ready), (.int .i64 a1_Drive), (.int .i64 a1_Rest)])] σ (fun v1 σ2 => 
    ∃ n3 : Int, (v1 = (.int .i64 n3) ∧ bc (!decide (n3 = 0)) (rt σ2 R (.tuple #[(.int .i64 0), (.int .i64 0), (.int .i64 0), (.int .i64 n3)])) (bc (decide ((60 : Int) < ((a2_n : Nat) : Int))) (rt σ2 R (.tuple #[(.int .i64 0), (.int .i64 0), (.int .i64 0), (.int .i64 2)])) (cut (α := Hp → Prop) (fun  σ5 => 
    ∀ _ : Nat → Value, cut (α := Int → Int → Int → Hp → Prop) (fun n10 n11 _ σ8 => ∀ _ : Nat → Value, 
    rt σ8 R (.tuple #[(.int .i64 n10), (.int .i64 n11), (.int .i64 0), (.int .i64 0)])) (fun J9 => ∃ I15 : Nat → Int → Int → Int → Int → Hp → Prop, (∃ n160, I15 n160 0 a1_From a1_Ready 0 σ5) ∧ 
    ∀ n16 : Nat, ∀ n17 : Int, ∀ n18 : Int, ∀ n19 : Int, ∀ n20 : Int, ∀ σ14 : Hp, I15 n16 n17 n18 n19 n20 σ14 → ∀ _ : Nat → Value, bc (decide (n17 < ((a2_n : Nat) : Int))) (cut (α := Option Addr → Bool → Hp → Prop) (fun p24 t25 σ22 => 
    ∀ _ : Nat → Value, bc (!t25) (rt σ22 R (.tuple #[(.int .i64 0), (.int .i64 0), (.int .i64 n17), (.int .i64 92)])) (dr p24 (fun b26 o27 => 
    ldI σ22 .i64 b26 o27 (fun n28 => ldI σ22 .i64 b26 (o27 + 1) (fun n29 => ldI σ22 .i64 b26 (o27 + 2) (fun n30 => 
    wk .i64 (n17 + 1) (fun n31 => bk σ22 n16 (fun m32 σ33 => I15 m32 n31 n28 n29 n30 σ33)))))))) (fun J23 => 
    ix a2_A a2_n n17 2 (fun b34 a35 => ldI σ14 .i64 b34 a35 (fun n36 => ldI σ14 .i64 b34 (a35 + 1) (fun n37 => 
    ((cl Try.prog (.func (.func 65) #[] #[]) #[(.agg #[(.slice a0_Parking_A a0_Parking_n a0_Parking_c), (.slice a0_Roads_A a0_Roads_n a0_Roads_c)]), (.agg #[(.int .i64 a1_Height), (.int .i64 a1_Weight), (.int .i64 a1_From), (.int .i64 a1_Ready), (.int .i64 a1_Drive), (.int .i64 a1_Rest)]), (.agg #[(.int .i64 n18), (.int .i64 n19), (.int .i64 n20)]), (.agg #[(.int .i64 n36), (.int .i64 n37)])] σ14 (fun v38 σ39 => 
    ∃ n40 : Int, ∃ n41 : Int, ∃ n42 : Int, ∃ t43 : Bool, (v38 = (.tuple #[(.agg #[(.int .i64 n40), (.int .i64 n41), (.int .i64 n42)]), (.bool t43)]) ∧ 
    bx σ39 (.cells #[(.int .i64 n40), (.int .i64 n41), (.int .i64 n42)] 88) (fun b44 σ45 => J23 (some ⟨b44, 0, none⟩) t43 σ45)))) ∧ 
    (cl Try.prog (.func (.func 65) #[] #[]) #[(.agg #[(.slice a0_Parking_A a0_Parking_n a0_Parking_c), (.slice a0_Roads_A a0_Roads_n a0_Roads_c)]), (.agg #[(.int .i64 a1_Height), (.int .i64 a1_Weight), (.int .i64 a1_From), (.int .i64 a1_Ready), (.int .i64 a1_Drive), (.int .i64 a1_Rest)]), (.agg #[(.int .i64 n18), (.int .i64 n19), (.int .i64 n20)]), (.agg #[(.int .i64 n36), (.int .i64 n37)])] σ14 (fun v46 σ47 => 
    ∃ n48 : Int, ∃ n49 : Int, ∃ n50 : Int, ∃ t51 : Bool, (v46 = (.tuple #[(.agg #[(.int .i64 n48), (.int .i64 n49), (.int .i64 n50)]), (.bool t51)]) ∧ 
    bx σ47 (.cells #[(.int .i64 n48), (.int .i64 n49), (.int .i64 n50)] 88) (fun b52 σ53 => J23 (some ⟨b52, 0, none⟩) t51 σ53)))))))))) (J9 n18 n19 n20 σ14))) (fun J6 => 
    ∃ I56 : Nat → Int → Hp → Prop, (∃ n570, I56 n570 0 σ2) ∧ ∀ n57 : Nat, ∀ n58 : Int, ∀ σ55 : Hp, I56 n57 n58 σ55 → ∀ _ : Nat → Value, bc (decide (n58 < ((a2_n : Nat) : Int))) (cut (α := Hp → Prop) (fun  σ60 => 
    ∀ _ : Nat → Value, wk .i64 (n58 + 1) (fun n62 => bk σ60 n57 (fun m63 σ64 => I56 m63 n62 σ64))) (fun J61 => 
    cut (α := Bool → Hp → Prop) (fun t68 σ66 => ∀ _ : Nat → Value, bc t68 (rt σ66 R (.tuple #[(.int .i64 0), (.int .i64 0), (.int .i64 n58), (.int .i64 1)])) (J61 σ66)) (fun J67 => 
    ix a2_A a2_n n58 2 (fun b69 a70 => ldI σ55 .i64 b69 a70 (fun n71 => wk .i64 (((a0_Roads_n : Nat) : Int) - 1) (fun n72 => 
    cl Try.prog (.func (.func 60) #[] #[]) #[(.int .i64 n71), (.int .i64 0), (.int .i64 n72)] σ55 (fun v73 σ74 => 
    ∃ t75 : Bool, (v73 = (.bool t75) ∧ bc (!t75) (J67 true σ74) (ix a2_A a2_n n58 2 (fun b76 a77 => ldI σ74 .i64 b76 (a77 + 1) (fun n78 => 
    cl Try.prog (.func (.func 60) #[] #[]) #[(.int .i64 n78), (.int .i64 0), (.int .i64 100000)] σ74 (fun v79 σ80 => 
    ∃ t81 : Bool, (v79 = (.bool t81) ∧ J67 (!t81) σ80))))))))))))) (J6 σ55))))))
def Aa : OA := ⟨[], false, []⟩
def EF : MAn := (.seq (.txt []) (.seq (.txt []) (.seq (.seq (.txt []) (.cond (.seq (.txt []) .leaf) .leaf)) (.seq (.seq (.txt []) (.cond (.seq (.txt []) .leaf) .leaf)) (.cut ⟨[true, true], 2, [.slot 3 (.hb 0 0), .slot 4 (.hb 1 0)], [(2, true)]⟩ (.seq (.txt []) (.block (.loop ⟨[true, true], 2, [.slot 3 (.hb 0 0), .slot 4 (.hb 1 0), .slot 11 (.sc (.int .i64))], [(2, true)]⟩ (.seq (.seq (.txt []) (.cond .leaf .leaf)) (.cut ⟨[true, true], 2, [.slot 3 (.hb 0 0), .slot 4 (.hb 1 0)], [(2, true), (11, true)]⟩ (.block (.cut ⟨[true, true], 2, [.slot 3 (.hb 0 0), .slot 4 (.hb 1 0), .slot 50 (.sc (.bool))], [(2, true), (11, true)]⟩ (.plan [9, 17] (.take 0 Aa (.take 1 Aa (.take 2 Aa (.take 3 Aa (.take 4 Aa (.take 5 Aa (.take 6 Aa (.take 7 Aa (.take 8 Aa (.alt 9 false Aa (.take 10 Aa (.take 11 ⟨[], true, []⟩ (.take 12 Aa (.take 13 Aa (.take 14 Aa (.take 15 Aa (.take 16 Aa (.alt 17 false Aa (.take 18 Aa (.take 19 Aa .done)) .done)))))))) .done))))))))))) (.cond (.seq (.txt []) .leaf) .leaf))) (.txt [])))))) (.seq (.txt []) (.cut ⟨[true, true, false], 3, [.slot 12 (.hb 2 0), .modb 2 88 [.sc (.int .i64), .sc (.int .i64), .sc (.int .i64)]], []⟩ (.seq (.txt []) (.block (.loop ⟨[true, true, false], 3, [.slot 3 (.hb 0 0), .slot 4 (.hb 1 0), .slot 12 (.hb 2 0), .slot 13 (.sc (.int .i64)), .modb 2 88 [.sc (.int .i64), .sc (.int .i64), .sc (.int .i64)]], [(2, true)]⟩ (.seq (.seq (.txt []) (.cond .leaf .leaf)) (.seq (.block (.cut ⟨[true, true, true], 3, [.slot 3 (.hb 0 0), .slot 4 (.hb 1 0), .slot 12 (.hb 2 0), .slot 14 (.sc (.ptr)), .slot 15 (.sc (.bool))], [(2, true), (13, true)]⟩ (.plan [12, 7] (.take 0 Aa (.take 1 Aa (.take 2 Aa (.take 3 Aa (.take 4 Aa (.take 5 Aa (.take 6 Aa (.alt 7 false Aa (.take 8 Aa (.take 9 Aa (.take 10 Aa (.alt 11 true Aa (.alt 12 false Aa (.take 13 Aa .done) .done) .done)))) (.alt 11 true Aa (.alt 7 false Aa (.take 8 Aa (.take 9 Aa (.take 10 Aa (.alt 12 false Aa (.take 13 Aa .done) .done)))) .done) .done)))))))))) (.seq (.seq (.txt []) (.cond (.seq (.txt []) .leaf) .leaf)) (.txt [])))) (.txt [])))))) (.seq (.plan [] (.take 0 Aa (.take 1 Aa (.take 2 Aa (.take 3 Aa (.take 4 Aa (.take 5 Aa (.take 6 Aa (.take 7 Aa .done))))))))) .leaf))))))))
set_option maxRecDepth 100000 in
theorem Er (σ : Hp) (a0_Parking_A : Option Addr) (a0_Parking_n : Nat) (a0_Parking_c : Nat) (a0_Roads_A : Option Addr) (a0_Roads_n : Nat) (a0_Roads_c : Nat) (a1_Height : Int) (a1_Weight : Int) (a1_From : Int) (a1_Ready : Int) (a1_Drive : Int) (a1_Rest : Int) (a2_A : Option Addr) (a2_n : Nat) (a2_c : Nat) (R : Value → Hp → Prop) (h : BS σ a0_Parking_A a0_Parking_n a0_Parking_c a0_Roads_A a0_Roads_n a0_Roads_c a1_Height a1_Weight a1_From a1_Ready a1_Drive a1_Rest a2_A a2_n a2_c R) : Ag Try.prog 35 #[(.agg #[(.slice a0_Parking_A a0_Parking_n a0_Parking_c), (.slice a0_Roads_A a0_Roads_n a0_Roads_c)]), (.agg #[(.int .i64 a1_Height), (.int .i64 a1_Weight), (.int .i64 a1_From), (.int .i64 a1_Ready), (.int .i64 a1_Drive), (.int .i64 a1_Rest)]), (.slice a2_A a2_n a2_c)] σ R :=
  An CC EF Try.func35 rfl (by kernel_rfl) (by kernel_rfl) (M := BS σ a0_Parking_A a0_Parking_n a0_Parking_c a0_Roads_A a0_Roads_n a0_Roads_c a1_Height a1_Weight a1_From a1_Ready a1_Drive a1_Rest a2_A a2_n a2_c R) (by kernel_rfl) h
theorem DF : Aw Try.prog 35 = true := by kernel_rfl
abbrev HQ : FuncId := 20
def E3 (σ : Hp) (m_Parking_A : Option Addr) (m_Parking_n : Nat) (_ : Nat) (m_Roads_A : Option Addr) (m_Roads_n : Nat) (_ : Nat) (R : Value → Hp → Prop) : Prop :=
  ((∃ ys1 : List Bool, RdS [.bool] σ m_Parking_A m_Parking_n ys1 ∧ Ew (List.length ([] : List Bool) + List.length ys1) (∃ ys2 : List (Int × Int × Int × Int × Int), RdS [.int .i64, .int .i64, .int .i64, .int .i64, .int .i64] σ m_Roads_A m_Roads_n ys2 ∧ 
    Ew (List.length ([] : List (Int × Int × Int × Int × Int)) + List.length ys2) (exl 4 [.bool] (([] : List Bool) ++ ys1) σ (fun A3 l3 c3 σ4 => 
    exl 51 [.int .i64, .int .i64, .int .i64, .int .i64, .int .i64] (([] : List (Int × Int × Int × Int × Int)) ++ ys2) σ4 (fun A5 l5 c5 σ6 => 
    rt σ6 R (.agg #[(.slice A3 l3 c3), (.slice A5 l5 c5)])))))) ∧ (∃ ys7 : List Bool, RdS [.bool] σ m_Parking_A m_Parking_n ys7 ∧ 
    Ew (List.length ([] : List Bool) + List.length ys7) (∃ ys8 : List (Int × Int × Int × Int × Int), RdS [.int .i64, .int .i64, .int .i64, .int .i64, .int .i64] σ m_Roads_A m_Roads_n ys8 ∧ 
    Ew (List.length ([] : List (Int × Int × Int × Int × Int)) + List.length ys8) (exl 4 [.bool] (([] : List Bool) ++ ys7) σ (fun A9 l9 c9 σ10 => 
    exl 51 [.int .i64, .int .i64, .int .i64, .int .i64, .int .i64] (([] : List (Int × Int × Int × Int × Int)) ++ ys8) σ10 (fun A11 l11 c11 σ12 => 
    rt σ12 R (.agg #[(.slice A9 l9 c9), (.slice A11 l11 c11)])))))))
def Az : OA := ⟨[], false, []⟩
def IW : MAn := (.seq (.txt []) (.seq (.plan [3, 7, 9] (.take 1 Az (.take 2 Az (.take 5 Az (.new 0 Az (.new 4 Az (.alt 3 false Az (.take 6 Az (.alt 7 false Az (.take 8 Az (.alt 9 false Az .done .done)) .done)) (.alt 6 true Az (.alt 3 false Az (.alt 7 false Az (.take 8 Az (.alt 9 false Az .done .done)) .done) .done) .done)))))))) .leaf))
set_option maxRecDepth 100000 in
theorem IP (σ : Hp) (m_Parking_A : Option Addr) (m_Parking_n : Nat) (m_Parking_c : Nat) (m_Roads_A : Option Addr) (m_Roads_n : Nat) (m_Roads_c : Nat) (R : Value → Hp → Prop) (h : E3 σ m_Parking_A m_Parking_n m_Parking_c m_Roads_A m_Roads_n m_Roads_c R) : Ag Try.prog 20 #[(.agg #[(.slice m_Parking_A m_Parking_n m_Parking_c), (.slice m_Roads_A m_Roads_n m_Roads_c)])] σ R :=
  An CC IW Try.func20 rfl (by kernel_rfl) (by kernel_rfl) (M := E3 σ m_Parking_A m_Parking_n m_Parking_c m_Roads_A m_Roads_n m_Roads_c R) (by kernel_rfl) h
theorem GX : Aw Try.prog 20 = true := by kernel_rfl
end Go.Proofs.Ytkdjkkimngeloaa
