/- Trimmed by wip/trim.py to what this claim rests on. -/
import Derived.Test.YtkdjkkimngeloaaXB11
namespace Go.Proofs.Ytkdjkkimngeloaa
open Go.RowKit
theorem B1 : Try.prog.follows .mixedOrders = true := by kernel_rfl
abbrev Ia : FuncId := 60
def FC (σ : Hp) (n : Int) (low : Int) (high : Int) (R : Value → Hp → Prop) : Prop :=
  bc (decide (low ≤ n)) (rt σ R (.bool (decide (n ≤ high)))) (rt σ R (.bool false))
def Jz : MAn := (.seq (.txt []) (.seq (.txt [⟨[], false, []⟩, ⟨[], false, []⟩, ⟨[], false, []⟩, ⟨[], true, []⟩]) .leaf))
set_option maxRecDepth 100000 in
theorem Jn (σ : Hp) (n : Int) (low : Int) (high : Int) (R : Value → Hp → Prop) (h : FC σ n low high R) : Ag Try.prog 60 #[(.int .i64 n), (.int .i64 low), (.int .i64 high)] σ R :=
  An B1 Jz Try.func60 rfl (by kernel_rfl) (by kernel_rfl) (M := FC σ n low high R) (by kernel_rfl) h
theorem HC : Az Try.prog 60 = true := by kernel_rfl
abbrev IA : FuncId := 62
def C9 (σ : Hp) (a0_Parking_A : Option Addr) (a0_Parking_n : Nat) (a0_Parking_c : Nat) (a0_Roads_A : Option Addr) (a0_Roads_n : Nat) (a0_Roads_c : Nat) (R : Value → Hp → Prop) : Prop :=
  cut (α := Hp → Prop) (fun  σ2 => ∀ _ : Nat → Value, cut (α := Hp → Prop) (fun  σ5 => ∀ _ : Nat → Value, 
    rt σ5 R (.int .i64 0)) (fun J6 => ∃ I9 : Nat → Int → Hp → Prop, (∃ n100, I9 n100 0 σ2) ∧ ∀ n10 : Nat, ∀ n11 : Int, ∀ σ8 : Hp, I9 n10 n11 σ8 → ∀ _ : Nat → Value, bc (decide (n11 < ((a0_Roads_n : Nat) : Int))) (cut (α := Hp → Prop) (fun  σ13 => 
    ∀ _ : Nat → Value, wk .i64 (n11 + 1) (fun n15 => bk σ13 n10 (fun m16 σ17 => I9 m16 n15 σ17))) (fun J14 => 
    ix a0_Roads_A a0_Roads_n n11 5 (fun b18 a19 => ldI σ8 .i64 b18 a19 (fun n20 => ldI σ8 .i64 b18 (a19 + 1) (fun n21 => 
    ldI σ8 .i64 b18 (a19 + 2) (fun n22 => ldI σ8 .i64 b18 (a19 + 3) (fun n23 => ldI σ8 .i64 b18 (a19 + 4) (fun n24 => 
    cut (α := Bool → Hp → Prop) (fun t28 σ26 => ∀ _ : Nat → Value, bc t28 (rt σ26 R (.int .i64 90)) (J14 σ26)) (fun J27 => 
    cl Try.prog (.func (.func 86) #[] #[]) #[(.agg #[(.slice a0_Parking_A a0_Parking_n a0_Parking_c), (.slice a0_Roads_A a0_Roads_n a0_Roads_c)]), (.int .i64 n20)] σ8 (fun v29 σ30 => 
    ∃ t31 : Bool, (v29 = (.bool t31) ∧ bc (!t31) (J27 true σ30) (cl Try.prog (.func (.func 86) #[] #[]) #[(.agg #[(.slice a0_Parking_A a0_Parking_n a0_Parking_c), (.slice a0_Roads_A a0_Roads_n a0_Roads_c)]), (.int .i64 n21)] σ30 (fun v32 σ33 => 
    ∃ t34 : Bool, (v32 = (.bool t34) ∧ bc (!t34) (J27 true σ33) (bc (decide (n20 = n21)) (J27 true σ33) (cl Try.prog (.func (.func 60) #[] #[]) #[(.int .i64 n22), (.int .i64 1), (.int .i64 500)] σ33 (fun v35 σ36 => 
    ∃ t37 : Bool, (v35 = (.bool t37) ∧ bc (!t37) (J27 true σ36) (cl Try.prog (.func (.func 60) #[] #[]) #[(.int .i64 n23), (.int .i64 0), (.int .i64 1000)] σ36 (fun v38 σ39 => 
    ∃ t40 : Bool, (v38 = (.bool t40) ∧ bc (!t40) (J27 true σ39) (cl Try.prog (.func (.func 60) #[] #[]) #[(.int .i64 n24), (.int .i64 0), (.int .i64 1000)] σ39 (fun v41 σ42 => 
    ∃ t43 : Bool, (v41 = (.bool t43) ∧ J27 (!t43) σ42)))))))))))))))))))))))) (J6 σ8))) (fun J3 => cut (α := Bool → Hp → Prop) (fun t47 σ45 => 
    ∀ _ : Nat → Value, bc t47 (rt σ45 R (.int .i64 90)) (J3 σ45)) (fun J46 => cl Try.prog (.func (.func 60) #[] #[]) #[(.int .i64 ((a0_Parking_n : Nat) : Int)), (.int .i64 1), (.int .i64 12)] σ (fun v48 σ49 => 
    ∃ t50 : Bool, (v48 = (.bool t50) ∧ bc (!t50) (J46 true σ49) (J46 (decide ((30 : Int) < ((a0_Roads_n : Nat) : Int))) σ49)))))
def Ai : OA := ⟨[], false, []⟩
def Hc : MAn := (.seq (.txt []) (.cut ⟨[true], 1, [.slot 1 (.hb 0 0)], []⟩ (.cut ⟨[true], 1, [.slot 1 (.hb 0 0), .slot 15 (.sc (.bool))], []⟩ (.txt [Ai, Ai, Ai, Ai, Ai, ⟨[], true, []⟩]) (.cond (.seq (.txt []) .leaf) .leaf)) (.cut ⟨[true], 1, [], []⟩ (.seq (.txt []) (.block (.loop ⟨[true], 1, [.slot 1 (.hb 0 0), .slot 3 (.sc (.int .i64))], []⟩ (.seq (.seq (.txt []) (.cond .leaf .leaf)) (.cut ⟨[true], 1, [.slot 1 (.hb 0 0)], [(3, true)]⟩ (.block (.seq (.txt []) (.cut ⟨[true, true], 2, [.slot 1 (.hb 0 0), .slot 64 (.sc (.bool))], [(3, true)]⟩ (.txt [Ai, Ai, Ai, Ai, Ai, ⟨[], true, []⟩, Ai, Ai, Ai, Ai, Ai, Ai, ⟨[], true, []⟩, Ai, Ai, Ai, Ai, Ai, Ai, ⟨[], true, []⟩, Ai, Ai, Ai, Ai, Ai, ⟨[], true, []⟩, Ai, Ai, Ai, Ai, Ai, ⟨[], true, []⟩]) (.cond (.seq (.txt []) .leaf) .leaf)))) (.txt [])))))) (.seq (.txt []) .leaf))))
set_option maxRecDepth 100000 in
theorem GZ (σ : Hp) (a0_Parking_A : Option Addr) (a0_Parking_n : Nat) (a0_Parking_c : Nat) (a0_Roads_A : Option Addr) (a0_Roads_n : Nat) (a0_Roads_c : Nat) (R : Value → Hp → Prop) (h : C9 σ a0_Parking_A a0_Parking_n a0_Parking_c a0_Roads_A a0_Roads_n a0_Roads_c R) : Ag Try.prog 62 #[(.agg #[(.slice a0_Parking_A a0_Parking_n a0_Parking_c), (.slice a0_Roads_A a0_Roads_n a0_Roads_c)])] σ R :=
  An B1 Hc Try.func62 rfl (by kernel_rfl) (by kernel_rfl) (M := C9 σ a0_Parking_A a0_Parking_n a0_Parking_c a0_Roads_A a0_Roads_n a0_Roads_c R) (by kernel_rfl) h
theorem CY : Az Try.prog 62 = true := by kernel_rfl
abbrev Ij : FuncId := 86
def Fc (σ : Hp) (_ : Option Addr) (m_Parking_n : Nat) (_ : Nat) (_ : Option Addr) (_ : Nat) (_ : Nat) (n : Int) (R : Value → Hp → Prop) : Prop :=
  wk .i64 (((m_Parking_n : Nat) : Int) - 1) (fun n1 => cl Try.prog (.func (.func 60) #[] #[]) #[(.int .i64 n), (.int .i64 0), (.int .i64 n1)] σ (fun v2 σ3 => 
    ∃ t4 : Bool, (v2 = (.bool t4) ∧ rt σ3 R (.bool t4))))
def JB : MAn := (.seq (.txt []) (.seq (.txt []) .leaf))
set_option maxRecDepth 100000 in
theorem Jt (σ : Hp) (m_Parking_A : Option Addr) (m_Parking_n : Nat) (m_Parking_c : Nat) (m_Roads_A : Option Addr) (m_Roads_n : Nat) (m_Roads_c : Nat) (n : Int) (R : Value → Hp → Prop) (h : Fc σ m_Parking_A m_Parking_n m_Parking_c m_Roads_A m_Roads_n m_Roads_c n R) : Ag Try.prog 86 #[(.agg #[(.slice m_Parking_A m_Parking_n m_Parking_c), (.slice m_Roads_A m_Roads_n m_Roads_c)]), (.int .i64 n)] σ R :=
  An B1 JB Try.func86 rfl (by kernel_rfl) (by kernel_rfl) (M := Fc σ m_Parking_A m_Parking_n m_Parking_c m_Roads_A m_Roads_n m_Roads_c n R) (by kernel_rfl) h
theorem Hu : Az Try.prog 86 = true := by kernel_rfl
abbrev Hq : FuncId := 63
def CF (σ : Hp) (m_Parking_A : Option Addr) (m_Parking_n : Nat) (m_Parking_c : Nat) (m_Roads_A : Option Addr) (m_Roads_n : Nat) (m_Roads_c : Nat) (l_Height : Int) (l_Weight : Int) (l_From : Int) (l_Ready : Int) (l_Drive : Int) (l_Rest : Int) (R : Value → Hp → Prop) : Prop :=
  cut (α := Hp → Prop) (fun  σ2 => ∀ _ : Nat → Value, rt σ2 R (.int .i64 0)) (fun J3 => cut (α := Bool → Hp → Prop) (fun t7 σ5 => 
    ∀ _ : Nat → Value, bc t7 (rt σ5 R (.int .i64 91)) (J3 σ5)) (fun J6 => cl Try.prog (.func (.func 60) #[] #[]) #[(.int .i64 l_Height), (.int .i64 0), (.int .i64 1000)] σ (fun v8 σ9 => 
    ∃ t10 : Bool, (v8 = (.bool t10) ∧ bc (!t10) (J6 true σ9) (cl Try.prog (.func (.func 60) #[] #[]) #[(.int .i64 l_Weight), (.int .i64 0), (.int .i64 1000)] σ9 (fun v11 σ12 => 
    ∃ t13 : Bool, (v11 = (.bool t13) ∧ bc (!t13) (J6 true σ12) (cl Try.prog (.func (.func 86) #[] #[]) #[(.agg #[(.slice m_Parking_A m_Parking_n m_Parking_c), (.slice m_Roads_A m_Roads_n m_Roads_c)]), (.int .i64 l_From)] σ12 (fun v14 σ15 => 
    ∃ t16 : Bool, (v14 = (.bool t16) ∧ bc (!t16) (J6 true σ15) (cl Try.prog (.func (.func 60) #[] #[]) #[(.int .i64 l_Ready), (.int .i64 0), (.int .i64 2000)] σ15 (fun v17 σ18 => 
    ∃ t19 : Bool, (v17 = (.bool t19) ∧ bc (!t19) (J6 true σ18) (cl Try.prog (.func (.func 60) #[] #[]) #[(.int .i64 l_Drive), (.int .i64 1), (.int .i64 500)] σ18 (fun v20 σ21 => 
    ∃ t22 : Bool, (v20 = (.bool t22) ∧ bc (!t22) (J6 true σ21) (cl Try.prog (.func (.func 60) #[] #[]) #[(.int .i64 l_Rest), (.int .i64 1), (.int .i64 500)] σ21 (fun v23 σ24 => 
    ∃ t25 : Bool, (v23 = (.bool t25) ∧ J6 (!t25) σ24)))))))))))))))))))
def Al : OA := ⟨[], false, []⟩
def F2 : MAn := (.seq (.txt []) (.cut ⟨[true, true], 2, [], []⟩ (.cut ⟨[true, true], 2, [.slot 39 (.sc (.bool))], []⟩ (.txt [Al, Al, Al, Al, ⟨[], true, []⟩, Al, Al, Al, Al, Al, ⟨[], true, []⟩, Al, Al, Al, Al, Al, Al, ⟨[], true, []⟩, Al, Al, Al, Al, Al, ⟨[], true, []⟩, Al, Al, Al, Al, Al, ⟨[], true, []⟩]) (.cond (.seq (.txt []) .leaf) .leaf)) (.seq (.txt []) .leaf)))
set_option maxRecDepth 100000 in
theorem FX (σ : Hp) (m_Parking_A : Option Addr) (m_Parking_n : Nat) (m_Parking_c : Nat) (m_Roads_A : Option Addr) (m_Roads_n : Nat) (m_Roads_c : Nat) (l_Height : Int) (l_Weight : Int) (l_From : Int) (l_Ready : Int) (l_Drive : Int) (l_Rest : Int) (R : Value → Hp → Prop) (h : CF σ m_Parking_A m_Parking_n m_Parking_c m_Roads_A m_Roads_n m_Roads_c l_Height l_Weight l_From l_Ready l_Drive l_Rest R) : Ag Try.prog 63 #[(.agg #[(.slice m_Parking_A m_Parking_n m_Parking_c), (.slice m_Roads_A m_Roads_n m_Roads_c)]), (.agg #[(.int .i64 l_Height), (.int .i64 l_Weight), (.int .i64 l_From), (.int .i64 l_Ready), (.int .i64 l_Drive), (.int .i64 l_Rest)])] σ R :=
  An B1 F2 Try.func63 rfl (by kernel_rfl) (by kernel_rfl) (M := CF σ m_Parking_A m_Parking_n m_Parking_c m_Roads_A m_Roads_n m_Roads_c l_Height l_Weight l_From l_Ready l_Drive l_Rest R) (by kernel_rfl) h
theorem Cv : Az Try.prog 63 = true := by kernel_rfl
abbrev KW : FuncId := 29
def ED (σ : Hp) (m_Parking_A : Option Addr) (m_Parking_n : Nat) (m_Parking_c : Nat) (m_Roads_A : Option Addr) (m_Roads_n : Nat) (m_Roads_c : Nat) (l_Height : Int) (l_Weight : Int) (l_From : Int) (l_Ready : Int) (l_Drive : Int) (l_Rest : Int) (R : Value → Hp → Prop) : Prop :=
  cl Try.prog (.func (.func 62) #[] #[]) #[(.agg #[(.slice m_Parking_A m_Parking_n m_Parking_c), (.slice m_Roads_A m_Roads_n m_Roads_c)])] σ (fun v1 σ2 => 
    ∃ n3 : Int, (v1 = (.int .i64 n3) ∧ bc (!decide (n3 = 0)) (rt σ2 R (.int .i64 n3)) (cl Try.prog (.func (.func 63) #[] #[]) #[(.agg #[(.slice m_Parking_A m_Parking_n m_Parking_c), (.slice m_Roads_A m_Roads_n m_Roads_c)]), (.agg #[(.int .i64 l_Height), (.int .i64 l_Weight), (.int .i64 l_From), (.int .i64 l_Ready), (.int .i64 l_Drive), (.int .i64 l_Rest)])] σ2 (fun v4 σ5 => 
    ∃ n6 : Int, (v4 = (.int .i64 n6) ∧ rt σ5 R (.int .i64 n6))))))
def IM : MAn := (.seq (.txt []) (.seq (.txt []) (.seq (.seq (.txt []) (.cond (.seq (.txt []) .leaf) .leaf)) (.seq (.txt []) .leaf))))
set_option maxRecDepth 100000 in
theorem IU (σ : Hp) (m_Parking_A : Option Addr) (m_Parking_n : Nat) (m_Parking_c : Nat) (m_Roads_A : Option Addr) (m_Roads_n : Nat) (m_Roads_c : Nat) (l_Height : Int) (l_Weight : Int) (l_From : Int) (l_Ready : Int) (l_Drive : Int) (l_Rest : Int) (R : Value → Hp → Prop) (h : ED σ m_Parking_A m_Parking_n m_Parking_c m_Roads_A m_Roads_n m_Roads_c l_Height l_Weight l_From l_Ready l_Drive l_Rest R) : Ag Try.prog 29 #[(.agg #[(.slice m_Parking_A m_Parking_n m_Parking_c), (.slice m_Roads_A m_Roads_n m_Roads_c)]), (.agg #[(.int .i64 l_Height), (.int .i64 l_Weight), (.int .i64 l_From), (.int .i64 l_Ready), (.int .i64 l_Drive), (.int .i64 l_Rest)])] σ R :=
  An B1 IM Try.func29 rfl (by kernel_rfl) (by kernel_rfl) (M := ED σ m_Parking_A m_Parking_n m_Parking_c m_Roads_A m_Roads_n m_Roads_c l_Height l_Weight l_From l_Ready l_Drive l_Rest R) (by kernel_rfl) h
theorem G0 : Az Try.prog 29 = true := by kernel_rfl
abbrev Fa : FuncId := 61
def Fv (σ : Hp) (l_Height : Int) (l_Weight : Int) (_ : Int) (_ : Int) (_ : Int) (_ : Int) (_ : Int) (_ : Int) (_ : Int) (r_Height : Int) (r_Weight : Int) (R : Value → Hp → Prop) : Prop :=
  bc (decide (l_Height ≤ r_Height)) (rt σ R (.bool (decide (l_Weight ≤ r_Weight)))) (rt σ R (.bool false))
def Jx : MAn := (.seq (.txt []) (.seq (.txt [⟨[], false, []⟩, ⟨[], false, []⟩, ⟨[], false, []⟩, ⟨[], false, []⟩, ⟨[], false, []⟩, ⟨[], true, []⟩]) .leaf))
set_option maxRecDepth 100000 in
theorem JA (σ : Hp) (l_Height : Int) (l_Weight : Int) (l_From : Int) (l_Ready : Int) (l_Drive : Int) (l_Rest : Int) (r_A : Int) (r_B : Int) (r_Length : Int) (r_Height : Int) (r_Weight : Int) (R : Value → Hp → Prop) (h : Fv σ l_Height l_Weight l_From l_Ready l_Drive l_Rest r_A r_B r_Length r_Height r_Weight R) : Ag Try.prog 61 #[(.agg #[(.int .i64 l_Height), (.int .i64 l_Weight), (.int .i64 l_From), (.int .i64 l_Ready), (.int .i64 l_Drive), (.int .i64 l_Rest)]), (.agg #[(.int .i64 r_A), (.int .i64 r_B), (.int .i64 r_Length), (.int .i64 r_Height), (.int .i64 r_Weight)])] σ R :=
  An B1 Jx Try.func61 rfl (by kernel_rfl) (by kernel_rfl) (M := Fv σ l_Height l_Weight l_From l_Ready l_Drive l_Rest r_A r_B r_Length r_Height r_Weight R) (by kernel_rfl) h
theorem Hz : Az Try.prog 61 = true := by kernel_rfl
abbrev Mk : FuncId := 65
def Gj (σ : Hp) (a0_Parking_A : Option Addr) (a0_Parking_n : Nat) (_ : Nat) (a0_Roads_A : Option Addr) (a0_Roads_n : Nat) (_ : Nat) (a1_Height : Int) (a1_Weight : Int) (a1_From : Int) (a1_Ready : Int) (a1_Drive : Int) (a1_Rest : Int) (a2_at : Int) (a2_since : Int) (a2_driven : Int) (a3_Road : Int) (a3_Depart : Int) (R : Value → Hp → Prop) : Prop :=
  ix a0_Roads_A a0_Roads_n a3_Road 5 (fun b1 a2 => ldI σ .i64 b1 a2 (fun n3 => ldI σ .i64 b1 (a2 + 1) (fun n4 => 
    ldI σ .i64 b1 (a2 + 2) (fun n5 => ldI σ .i64 b1 (a2 + 3) (fun n6 => ldI σ .i64 b1 (a2 + 4) (fun n7 => 
    cut (α := Int → Int → Int → Hp → Prop) (fun _ _ _ σ9 => ∀ _ : Nat → Value, cut (α := Int → Hp → Prop) (fun n17 σ15 => 
    ∀ _ : Nat → Value, wk .i64 (n3 + n4) (fun n18 => wk .i64 (n18 - a2_at) (fun n19 => wk .i64 (a3_Depart + n5) (fun n20 => 
    wk .i64 (n17 + n5) (fun n21 => ((wk .i64 (n17 + n5) (fun n22 => ((rt σ15 R (.tuple #[(.agg #[(.int .i64 n19), (.int .i64 n20), (.int .i64 n21)]), (.bool (decide (n22 ≤ a1_Drive)))])) ∧ 
    (rt σ15 R (.tuple #[(.agg #[(.int .i64 n19), (.int .i64 n20), (.int .i64 n21)]), (.bool (decide (n22 ≤ a1_Drive)))]))))) ∧ 
    ((wk .i64 (n17 + n5) (fun n23 => rt σ15 R (.tuple #[(.agg #[(.int .i64 n19), (.int .i64 n20), (.int .i64 n21)]), (.bool (decide (n23 ≤ a1_Drive)))]))) ∧ 
    (wk .i64 (n17 + n5) (fun n24 => rt σ15 R (.tuple #[(.agg #[(.int .i64 n19), (.int .i64 n20), (.int .i64 n21)]), (.bool (decide (n24 ≤ a1_Drive)))])))) ∧ 
    (wk .i64 (n17 + n5) (fun n25 => rt σ15 R (.tuple #[(.agg #[(.int .i64 n19), (.int .i64 n20), (.int .i64 n21)]), (.bool (decide (n25 ≤ a1_Drive)))]))))))))) (fun J16 => 
    cut (α := Bool → Hp → Prop) (fun t29 σ27 => ∀ _ : Nat → Value, bc t29 (J16 0 σ27) (J16 a2_driven σ27)) (fun J28 => 
    ix a0_Parking_A a0_Parking_n a2_at 1 (fun b30 a31 => ldB σ9 b30 a31 (fun t32 => bc t32 (wk .i64 (a3_Depart - a2_since) (fun n33 => 
    J28 (decide (a1_Rest ≤ n33)) σ9)) (J28 false σ9)))))) (fun J10 => cut (α := Bool → Hp → Prop) (fun t37 σ35 => 
    ∀ _ : Nat → Value, bc t37 (rt σ35 R (.tuple #[(.agg #[(.int .i64 a2_at), (.int .i64 a2_since), (.int .i64 a2_driven)]), (.bool false)])) (J10 0 0 0 σ35)) (fun J36 => 
    bc (!decide (a2_at = n3)) (bc (!decide (a2_at = n4)) (J36 true σ) (cl Try.prog (.func (.func 61) #[] #[]) #[(.agg #[(.int .i64 a1_Height), (.int .i64 a1_Weight), (.int .i64 a1_From), (.int .i64 a1_Ready), (.int .i64 a1_Drive), (.int .i64 a1_Rest)]), (.agg #[(.int .i64 n3), (.int .i64 n4), (.int .i64 n5), (.int .i64 n6), (.int .i64 n7)])] σ (fun v38 σ39 => 
    ∃ t40 : Bool, (v38 = (.bool t40) ∧ bc (!t40) (J36 true σ39) (J36 (decide (a3_Depart < a2_since)) σ39))))) (cl Try.prog (.func (.func 61) #[] #[]) #[(.agg #[(.int .i64 a1_Height), (.int .i64 a1_Weight), (.int .i64 a1_From), (.int .i64 a1_Ready), (.int .i64 a1_Drive), (.int .i64 a1_Rest)]), (.agg #[(.int .i64 n3), (.int .i64 n4), (.int .i64 n5), (.int .i64 n6), (.int .i64 n7)])] σ (fun v41 σ42 => 
    ∃ t43 : Bool, (v41 = (.bool t43) ∧ bc (!t43) (J36 true σ42) (J36 (decide (a3_Depart < a2_since)) σ42))))))))))))
def Ad : OA := ⟨[], false, []⟩
def J7 : MAn := (.seq (.txt []) (.seq (.txt []) (.cut ⟨[true, true, true, true, false, true], 6, [.slot 4 (.hb 0 0), .slot 5 (.hb 1 0), .slot 6 (.hb 2 0), .slot 7 (.hb 3 0), .slot 8 (.hb 4 0), .slot 10 (.hb 5 0), .modb 4 88 [.sc (.int .i64), .sc (.int .i64), .sc (.int .i64)]], []⟩ (.cut ⟨[true, true, true, true, true, true], 6, [.slot 4 (.hb 0 0), .slot 5 (.hb 1 0), .slot 6 (.hb 2 0), .slot 7 (.hb 3 0), .slot 8 (.hb 4 0), .slot 10 (.hb 5 0), .slot 42 (.sc (.bool))], []⟩ (.txt [Ad, Ad, Ad, Ad, Ad, ⟨[], true, []⟩, Ad, Ad, Ad, Ad, Ad, Ad, ⟨[], true, []⟩, Ad, Ad, Ad, Ad, Ad, ⟨[], true, []⟩]) (.cond (.seq (.txt []) .leaf) .leaf)) (.seq (.txt []) (.cut ⟨[true, true, true, true, true, true], 6, [.slot 5 (.hb 1 0), .slot 6 (.hb 2 0), .slot 7 (.hb 3 0), .slot 8 (.hb 4 0), .slot 10 (.hb 5 0), .slot 11 (.sc (.int .i64))], []⟩ (.cut ⟨[true, true, true, true, true, true], 6, [.slot 5 (.hb 1 0), .slot 6 (.hb 2 0), .slot 7 (.hb 3 0), .slot 8 (.hb 4 0), .slot 10 (.hb 5 0), .slot 61 (.sc (.bool))], [(11, true)]⟩ (.txt [Ad, Ad, Ad, Ad, Ad, Ad, ⟨[], true, []⟩]) (.cond (.txt []) .leaf)) (.seq (.plan [25] (.take 0 Ad (.take 1 Ad (.take 2 Ad (.take 3 Ad (.take 4 Ad (.take 5 Ad (.take 6 Ad (.take 7 Ad (.take 8 Ad (.take 9 Ad (.take 10 Ad (.take 11 Ad (.take 12 Ad (.take 13 Ad (.take 14 Ad (.take 15 Ad (.take 16 Ad (.take 17 Ad (.take 18 Ad (.take 19 Ad (.take 22 Ad (.alt 20 true Ad (.take 21 Ad (.alt 23 true Ad (.take 24 Ad (.alt 25 false Ad (.take 26 Ad .done) .done)) (.alt 25 false Ad (.take 23 Ad (.take 24 Ad (.take 26 Ad .done))) .done))) (.alt 23 true Ad (.alt 20 true Ad (.take 21 Ad (.take 24 Ad (.alt 25 false Ad (.take 26 Ad .done) .done))) (.alt 25 false Ad (.take 20 Ad (.take 21 Ad (.take 24 Ad (.take 26 Ad .done)))) .done)) (.alt 25 false Ad (.take 20 Ad (.take 21 Ad (.take 23 Ad (.take 24 Ad (.take 26 Ad .done))))) .done))))))))))))))))))))))))) .leaf))))))
set_option maxRecDepth 100000 in
theorem KI (σ : Hp) (a0_Parking_A : Option Addr) (a0_Parking_n : Nat) (a0_Parking_c : Nat) (a0_Roads_A : Option Addr) (a0_Roads_n : Nat) (a0_Roads_c : Nat) (a1_Height : Int) (a1_Weight : Int) (a1_From : Int) (a1_Ready : Int) (a1_Drive : Int) (a1_Rest : Int) (a2_at : Int) (a2_since : Int) (a2_driven : Int) (a3_Road : Int) (a3_Depart : Int) (R : Value → Hp → Prop) (h : Gj σ a0_Parking_A a0_Parking_n a0_Parking_c a0_Roads_A a0_Roads_n a0_Roads_c a1_Height a1_Weight a1_From a1_Ready a1_Drive a1_Rest a2_at a2_since a2_driven a3_Road a3_Depart R) : Ag Try.prog 65 #[(.agg #[(.slice a0_Parking_A a0_Parking_n a0_Parking_c), (.slice a0_Roads_A a0_Roads_n a0_Roads_c)]), (.agg #[(.int .i64 a1_Height), (.int .i64 a1_Weight), (.int .i64 a1_From), (.int .i64 a1_Ready), (.int .i64 a1_Drive), (.int .i64 a1_Rest)]), (.agg #[(.int .i64 a2_at), (.int .i64 a2_since), (.int .i64 a2_driven)]), (.agg #[(.int .i64 a3_Road), (.int .i64 a3_Depart)])] σ R :=
  An B1 J7 Try.func65 rfl (by kernel_rfl) (by kernel_rfl) (M := Gj σ a0_Parking_A a0_Parking_n a0_Parking_c a0_Roads_A a0_Roads_n a0_Roads_c a1_Height a1_Weight a1_From a1_Ready a1_Drive a1_Rest a2_at a2_since a2_driven a3_Road a3_Depart R) (by kernel_rfl) h
theorem El : Az Try.prog 65 = true := by kernel_rfl
abbrev Gv : FuncId := 35
def Cj (σ : Hp) (a0_Parking_A : Option Addr) (a0_Parking_n : Nat) (a0_Parking_c : Nat) (a0_Roads_A : Option Addr) (a0_Roads_n : Nat) (a0_Roads_c : Nat) (a1_Height : Int) (a1_Weight : Int) (a1_From : Int) (a1_Ready : Int) (a1_Drive : Int) (a1_Rest : Int) (a2_A : Option Addr) (a2_n : Nat) (_ : Nat) (R : Value → Hp → Prop) : Prop :=
  cl Try.prog (.func (.func 29) #[] #[]) #[(.agg #[(.slice a0_Parking_A a0_Parking_n a0_Parking_c), (.slice a0_Roads_A a0_Roads_n a0_Roads_c)]), (.agg #[(.int .i64 a1_Height), (.int .i64 a1_Weight), (.int .i64 a1_From), (.int .i64 a1_Ready), (.int .i64 a1_Drive), (.int .i64 a1_Rest)])] σ (fun v1 σ2 => 
    ∃ n3 : Int, (v1 = (.int .i64 n3) ∧ bc (!decide (n3 = 0)) (rt σ2 R (.tuple #[(.int .i64 0), (.int .i64 0), (.int .i64 0), (.int .i64 n3)])) (bc (decide ((60 : Int) < ((a2_n : Nat) : Int))) (rt σ2 R (.tuple #[(.int .i64 0), (.int .i64 0), (.int .i64 0), (.int .i64 2)])) (cut (α := Hp → Prop) (fun  σ5 => 
    ∀ _ : Nat → Value, cut (α := Int → Int → Int → Hp → Prop) (fun n10 n11 _ σ8 => ∀ _ : Nat → Value, 
    rt σ8 R (.tuple #[(.int .i64 n10), (.int .i64 n11), (.int .i64 0), (.int .i64 0)])) (fun J9 => ∃ I15 : Nat → Int → Int → Int → Int → Hp → Prop, (∃ n160, I15 n160 0 a1_From a1_Ready 0 σ5) ∧ 
    ∀ n16 : Nat, ∀ n17 : Int, ∀ n18 : Int, ∀ n19 : Int, ∀ n20 : Int, ∀ σ14 : Hp, I15 n16 n17 n18 n19 n20 σ14 → ∀ _ : Nat → Value, bc (decide (n17 < ((a2_n : Nat) : Int))) (cut (α := Option Addr → Bool → Hp → Prop) (fun p24 t25 σ22 => 
    ∀ _ : Nat → Value, bc (!t25) (rt σ22 R (.tuple #[(.int .i64 0), (.int .i64 0), (.int .i64 n17), (.int .i64 92)])) (dr p24 (fun b26 o27 => 
    ldI σ22 .i64 b26 o27 (fun n28 => ldI σ22 .i64 b26 (o27 + 1) (fun n29 => ldI σ22 .i64 b26 (o27 + 2) (fun n30 => 
    wk .i64 (n17 + 1) (fun n31 => bk σ22 n16 (fun m32 σ33 => I15 m32 n31 n28 n29 n30 σ33)))))))) (fun J23 => 
    ix a2_A a2_n n17 2 (fun b34 a35 => ldI σ14 .i64 b34 a35 (fun n36 => ldI σ14 .i64 b34 (a35 + 1) (fun n37 => 
    ((cl Try.prog (.func (.func 65) #[] #[]) #[(.agg #[(.slice a0_Parking_A a0_Parking_n a0_Parking_c), (.slice a0_Roads_A a0_Roads_n a0_Roads_c)]), (.agg #[(.int .i64 a1_Height), (.int .i64 a1_Weight), (.int .i64 a1_From), (.int .i64 a1_Ready), (.int .i64 a1_Drive), (.int .i64 a1_Rest)]), (.agg #[(.int .i64 n18), (.int .i64 n19), (.int .i64 n20)]), (.agg #[(.int .i64 n36), (.int .i64 n37)])] σ14 (fun v38 σ39 => 
    ∃ n40 : Int, ∃ n41 : Int, ∃ n42 : Int, ∃ t43 : Bool, (v38 = (.tuple #[(.agg #[(.int .i64 n40), (.int .i64 n41), (.int .i64 n42)]), (.bool t43)]) ∧ 
    bx σ39 (.cells #[(.int .i64 n40), (.int .i64 n41), (.int .i64 n42)] 88) (fun b44 σ45 => J23 (some ⟨b44, 0, none⟩) t43 σ45)))) ∧ 
    (cl Try.prog (.func (.func 65) #[] #[]) #[(.agg #[(.slice a0_Parking_A a0_Parking_n a0_Parking_c), (.slice a0_Roads_A a0_Roads_n a0_Roads_c)]), (.agg #[(.int .i64 a1_Height), (.int .i64 a1_Weight), (.int .i64 a1_From), (.int .i64 a1_Ready), (.int .i64 a1_Drive), (.int .i64 a1_Rest)]), (.agg #[(.int .i64 n18), (.int .i64 n19), (.int .i64 n20)]), (.agg #[(.int .i64 n36), (.int .i64 n37)])] σ14 (fun v46 σ47 => 
    ∃ n48 : Int, ∃ n49 : Int, ∃ n50 : Int, ∃ t51 : Bool, (v46 = (.tuple #[(.agg #[(.int .i64 n48), (.int .i64 n49), (.int .i64 n50)]), (.bool t51)]) ∧ 
    bx σ47 (.cells #[(.int .i64 n48), (.int .i64 n49), (.int .i64 n50)] 88) (fun b52 σ53 => J23 (some ⟨b52, 0, none⟩) t51 σ53)))))))))) (J9 n18 n19 n20 σ14))) (fun J6 => 
    ∃ I56 : Nat → Int → Hp → Prop, (∃ n570, I56 n570 0 σ2) ∧ ∀ n57 : Nat, ∀ n58 : Int, ∀ σ55 : Hp, I56 n57 n58 σ55 → ∀ _ : Nat → Value, bc (decide (n58 < ((a2_n : Nat) : Int))) (cut (α := Hp → Prop) (fun  σ60 => 
    ∀ _ : Nat → Value, wk .i64 (n58 + 1) (fun n62 => bk σ60 n57 (fun m63 σ64 => I56 m63 n62 σ64))) (fun J61 => 
    cut (α := Bool → Hp → Prop) (fun t68 σ66 => ∀ _ : Nat → Value, bc t68 (rt σ66 R (.tuple #[(.int .i64 0), (.int .i64 0), (.int .i64 n58), (.int .i64 1)])) (J61 σ66)) (fun J67 => 
    ix a2_A a2_n n58 2 (fun b69 a70 => ldI σ55 .i64 b69 a70 (fun n71 => wk .i64 (((a0_Roads_n : Nat) : Int) - 1) (fun n72 => 
    cl Try.prog (.func (.func 60) #[] #[]) #[(.int .i64 n71), (.int .i64 0), (.int .i64 n72)] σ55 (fun v73 σ74 => 
    ∃ t75 : Bool, (v73 = (.bool t75) ∧ bc (!t75) (J67 true σ74) (ix a2_A a2_n n58 2 (fun b76 a77 => ldI σ74 .i64 b76 (a77 + 1) (fun n78 => 
    cl Try.prog (.func (.func 60) #[] #[]) #[(.int .i64 n78), (.int .i64 0), (.int .i64 100000)] σ74 (fun v79 σ80 => 
    ∃ t81 : Bool, (v79 = (.bool t81) ∧ J67 (!t81) σ80))))))))))))) (J6 σ55))))))
def Ac : OA := ⟨[], false, []⟩
def E5 : MAn := (.seq (.txt []) (.seq (.txt []) (.seq (.seq (.txt []) (.cond (.seq (.txt []) .leaf) .leaf)) (.seq (.seq (.txt []) (.cond (.seq (.txt []) .leaf) .leaf)) (.cut ⟨[true, true], 2, [.slot 3 (.hb 0 0), .slot 4 (.hb 1 0)], [(2, true)]⟩ (.seq (.txt []) (.block (.loop ⟨[true, true], 2, [.slot 3 (.hb 0 0), .slot 4 (.hb 1 0), .slot 11 (.sc (.int .i64))], [(2, true)]⟩ (.seq (.seq (.txt []) (.cond .leaf .leaf)) (.cut ⟨[true, true], 2, [.slot 3 (.hb 0 0), .slot 4 (.hb 1 0)], [(2, true), (11, true)]⟩ (.block (.cut ⟨[true, true], 2, [.slot 3 (.hb 0 0), .slot 4 (.hb 1 0), .slot 50 (.sc (.bool))], [(2, true), (11, true)]⟩ (.plan [9, 17] (.take 0 Ac (.take 1 Ac (.take 2 Ac (.take 3 Ac (.take 4 Ac (.take 5 Ac (.take 6 Ac (.take 7 Ac (.take 8 Ac (.alt 9 false Ac (.take 10 Ac (.take 11 ⟨[], true, []⟩ (.take 12 Ac (.take 13 Ac (.take 14 Ac (.take 15 Ac (.take 16 Ac (.alt 17 false Ac (.take 18 Ac (.take 19 Ac .done)) .done)))))))) .done))))))))))) (.cond (.seq (.txt []) .leaf) .leaf))) (.txt [])))))) (.seq (.txt []) (.cut ⟨[true, true, false], 3, [.slot 12 (.hb 2 0), .modb 2 88 [.sc (.int .i64), .sc (.int .i64), .sc (.int .i64)]], []⟩ (.seq (.txt []) (.block (.loop ⟨[true, true, false], 3, [.slot 3 (.hb 0 0), .slot 4 (.hb 1 0), .slot 12 (.hb 2 0), .slot 13 (.sc (.int .i64)), .modb 2 88 [.sc (.int .i64), .sc (.int .i64), .sc (.int .i64)]], [(2, true)]⟩ (.seq (.seq (.txt []) (.cond .leaf .leaf)) (.seq (.block (.cut ⟨[true, true, true], 3, [.slot 3 (.hb 0 0), .slot 4 (.hb 1 0), .slot 12 (.hb 2 0), .slot 14 (.sc (.ptr)), .slot 15 (.sc (.bool))], [(2, true), (13, true)]⟩ (.plan [12, 7] (.take 0 Ac (.take 1 Ac (.take 2 Ac (.take 3 Ac (.take 4 Ac (.take 5 Ac (.take 6 Ac (.alt 7 false Ac (.take 8 Ac (.take 9 Ac (.take 10 Ac (.alt 11 true Ac (.alt 12 false Ac (.take 13 Ac .done) .done) .done)))) (.alt 11 true Ac (.alt 7 false Ac (.take 8 Ac (.take 9 Ac (.take 10 Ac (.alt 12 false Ac (.take 13 Ac .done) .done)))) .done) .done)))))))))) (.seq (.seq (.txt []) (.cond (.seq (.txt []) .leaf) .leaf)) (.txt [])))) (.txt [])))))) (.seq (.plan [] (.take 0 Ac (.take 1 Ac (.take 2 Ac (.take 3 Ac (.take 4 Ac (.take 5 Ac (.take 6 Ac (.take 7 Ac .done))))))))) .leaf))))))))
set_option maxRecDepth 100000 in
theorem E2 (σ : Hp) (a0_Parking_A : Option Addr) (a0_Parking_n : Nat) (a0_Parking_c : Nat) (a0_Roads_A : Option Addr) (a0_Roads_n : Nat) (a0_Roads_c : Nat) (a1_Height : Int) (a1_Weight : Int) (a1_From : Int) (a1_Ready : Int) (a1_Drive : Int) (a1_Rest : Int) (a2_A : Option Addr) (a2_n : Nat) (a2_c : Nat) (R : Value → Hp → Prop) (h : Cj σ a0_Parking_A a0_Parking_n a0_Parking_c a0_Roads_A a0_Roads_n a0_Roads_c a1_Height a1_Weight a1_From a1_Ready a1_Drive a1_Rest a2_A a2_n a2_c R) : Ag Try.prog 35 #[(.agg #[(.slice a0_Parking_A a0_Parking_n a0_Parking_c), (.slice a0_Roads_A a0_Roads_n a0_Roads_c)]), (.agg #[(.int .i64 a1_Height), (.int .i64 a1_Weight), (.int .i64 a1_From), (.int .i64 a1_Ready), (.int .i64 a1_Drive), (.int .i64 a1_Rest)]), (.slice a2_A a2_n a2_c)] σ R :=
  An B1 E5 Try.func35 rfl (by kernel_rfl) (by kernel_rfl) (M := Cj σ a0_Parking_A a0_Parking_n a0_Parking_c a0_Roads_A a0_Roads_n a0_Roads_c a1_Height a1_Weight a1_From a1_Ready a1_Drive a1_Rest a2_A a2_n a2_c R) (by kernel_rfl) h
theorem DW : Az Try.prog 35 = true := by kernel_rfl
abbrev G9 : FuncId := 66
def Cr (σ : Hp) (m_Parking_A : Option Addr) (m_Parking_n : Nat) (m_Parking_c : Nat) (m_Roads_A : Option Addr) (m_Roads_n : Nat) (m_Roads_c : Nat) (l_A : Option Addr) (l_n : Nat) (_ : Nat) (to : Int) (gap : Int) (R : Value → Hp → Prop) : Prop :=
  cl Try.prog (.func (.func 62) #[] #[]) #[(.agg #[(.slice m_Parking_A m_Parking_n m_Parking_c), (.slice m_Roads_A m_Roads_n m_Roads_c)])] σ (fun v1 σ2 => 
    ∃ n3 : Int, (v1 = (.int .i64 n3) ∧ bc (!decide (n3 = 0)) (rt σ2 R (.int .i64 n3)) (bc (decide ((8 : Int) < ((l_n : Nat) : Int))) (rt σ2 R (.int .i64 2)) (cut (α := Hp → Prop) (fun  σ5 => 
    ∀ _ : Nat → Value, cut (α := Hp → Prop) (fun  σ8 => ∀ _ : Nat → Value, rt σ8 R (.int .i64 0)) (fun J9 => 
    cut (α := Bool → Hp → Prop) (fun t13 σ11 => ∀ _ : Nat → Value, bc t13 (rt σ11 R (.int .i64 1)) (J9 σ11)) (fun J12 => 
    cl Try.prog (.func (.func 86) #[] #[]) #[(.agg #[(.slice m_Parking_A m_Parking_n m_Parking_c), (.slice m_Roads_A m_Roads_n m_Roads_c)]), (.int .i64 to)] σ5 (fun v14 σ15 => 
    ∃ t16 : Bool, (v14 = (.bool t16) ∧ bc (!t16) (J12 true σ15) (cl Try.prog (.func (.func 60) #[] #[]) #[(.int .i64 gap), (.int .i64 0), (.int .i64 100)] σ15 (fun v17 σ18 => 
    ∃ t19 : Bool, (v17 = (.bool t19) ∧ J12 (!t19) σ18)))))))) (fun J6 => ∃ I22 : Nat → Int → Hp → Prop, (∃ n230, I22 n230 0 σ2) ∧ 
    ∀ n23 : Nat, ∀ n24 : Int, ∀ σ21 : Hp, I22 n23 n24 σ21 → ∀ _ : Nat → Value, bc (decide (n24 < ((l_n : Nat) : Int))) (ix l_A l_n n24 6 (fun b25 a26 => 
    ldI σ21 .i64 b25 a26 (fun n27 => ldI σ21 .i64 b25 (a26 + 1) (fun n28 => ldI σ21 .i64 b25 (a26 + 2) (fun n29 => 
    ldI σ21 .i64 b25 (a26 + 3) (fun n30 => ldI σ21 .i64 b25 (a26 + 4) (fun n31 => ldI σ21 .i64 b25 (a26 + 5) (fun n32 => 
    cl Try.prog (.func (.func 63) #[] #[]) #[(.agg #[(.slice m_Parking_A m_Parking_n m_Parking_c), (.slice m_Roads_A m_Roads_n m_Roads_c)]), (.agg #[(.int .i64 n27), (.int .i64 n28), (.int .i64 n29), (.int .i64 n30), (.int .i64 n31), (.int .i64 n32)])] σ21 (fun v33 σ34 => 
    ∃ n35 : Int, (v33 = (.int .i64 n35) ∧ bc (!decide (n35 = 0)) (rt σ34 R (.int .i64 n35)) (wk .i64 (n24 + 1) (fun n36 => 
    bk σ34 n23 (fun m37 σ38 => I22 m37 n36 σ38))))))))))))) (J6 σ21))))))
def AA : OA := ⟨[], false, []⟩
def FK : MAn := (.seq (.txt []) (.seq (.txt []) (.seq (.seq (.txt []) (.cond (.seq (.txt []) .leaf) .leaf)) (.seq (.seq (.txt []) (.cond (.seq (.txt []) .leaf) .leaf)) (.cut ⟨[true], 1, [.slot 4 (.hb 0 0)], [(2, true), (3, true)]⟩ (.seq (.txt []) (.block (.loop ⟨[true], 1, [.slot 4 (.hb 0 0), .slot 10 (.sc (.int .i64))], [(1, true), (2, true), (3, true)]⟩ (.seq (.seq (.txt []) (.cond .leaf .leaf)) (.seq (.block (.seq (.plan [5] (.take 0 AA (.take 1 AA (.take 2 AA (.take 3 AA (.take 4 AA (.alt 5 false AA (.take 6 AA .done) .done))))))) (.seq (.txt []) (.cond (.seq (.txt []) .leaf) .leaf)))) (.txt [])))))) (.cut ⟨[true], 1, [], []⟩ (.cut ⟨[true], 1, [.slot 43 (.sc (.bool))], []⟩ (.txt [AA, AA, AA, AA, ⟨[], true, []⟩]) (.cond (.seq (.txt []) .leaf) .leaf)) (.seq (.txt []) .leaf)))))))
set_option maxRecDepth 100000 in
theorem Ft (σ : Hp) (m_Parking_A : Option Addr) (m_Parking_n : Nat) (m_Parking_c : Nat) (m_Roads_A : Option Addr) (m_Roads_n : Nat) (m_Roads_c : Nat) (l_A : Option Addr) (l_n : Nat) (l_c : Nat) (to : Int) (gap : Int) (R : Value → Hp → Prop) (h : Cr σ m_Parking_A m_Parking_n m_Parking_c m_Roads_A m_Roads_n m_Roads_c l_A l_n l_c to gap R) : Ag Try.prog 66 #[(.agg #[(.slice m_Parking_A m_Parking_n m_Parking_c), (.slice m_Roads_A m_Roads_n m_Roads_c)]), (.slice l_A l_n l_c), (.int .i64 to), (.int .i64 gap)] σ R :=
  An B1 FK Try.func66 rfl (by kernel_rfl) (by kernel_rfl) (M := Cr σ m_Parking_A m_Parking_n m_Parking_c m_Roads_A m_Roads_n m_Roads_c l_A l_n l_c to gap R) (by kernel_rfl) h
theorem Ef : Az Try.prog 66 = true := by kernel_rfl
abbrev G5 : FuncId := 38
def Ct (σ : Hp) (a0_Parking_A : Option Addr) (a0_Parking_n : Nat) (a0_Parking_c : Nat) (a0_Roads_A : Option Addr) (a0_Roads_n : Nat) (a0_Roads_c : Nat) (a1_A : Option Addr) (a1_n : Nat) (a1_c : Nat) (a2 : Int) (a3 : Int) (a4_A : Option Addr) (a4_n : Nat) (_ : Nat) (R : Value → Hp → Prop) : Prop :=
  cl Try.prog (.func (.func 66) #[] #[]) #[(.agg #[(.slice a0_Parking_A a0_Parking_n a0_Parking_c), (.slice a0_Roads_A a0_Roads_n a0_Roads_c)]), (.slice a1_A a1_n a1_c), (.int .i64 a2), (.int .i64 a3)] σ (fun v1 σ2 => 
    ∃ n3 : Int, (v1 = (.int .i64 n3) ∧ bc (!decide (n3 = 0)) (rt σ2 R (.tuple #[(.int .i64 0), (.int .i64 n3)])) (bc (!decide (((a4_n : Nat) : Int) = ((a1_n : Nat) : Int))) (rt σ2 R (.tuple #[(.int .i64 0), (.int .i64 1)])) (cut (α := Hp → Prop) (fun  σ5 => 
    ∀ _ : Nat → Value, rt σ5 R (.tuple #[(.int .i64 0), (.int .i64 0)])) (fun J6 => ∃ I9 : Nat → Int → Int → Hp → Prop, (∃ n100, I9 n100 0 0 σ2) ∧ 
    ∀ n10 : Nat, ∀ n11 : Int, ∀ n12 : Int, ∀ σ8 : Hp, I9 n10 n11 n12 σ8 → ∀ _ : Nat → Value, bc (decide (n12 < ((a1_n : Nat) : Int))) (cut (α := Int → Hp → Prop) (fun n16 σ14 => 
    ∀ _ : Nat → Value, wk .i64 (n12 + 1) (fun n17 => bk σ14 n10 (fun m18 σ19 => I9 m18 n16 n17 σ19))) (fun J15 => 
    ix a1_A a1_n n12 6 (fun b20 a21 => ldI σ8 .i64 b20 a21 (fun n22 => ldI σ8 .i64 b20 (a21 + 1) (fun n23 => 
    ldI σ8 .i64 b20 (a21 + 2) (fun n24 => ldI σ8 .i64 b20 (a21 + 3) (fun n25 => ldI σ8 .i64 b20 (a21 + 4) (fun n26 => 
    ldI σ8 .i64 b20 (a21 + 5) (fun n27 => ix a4_A a4_n n12 1 (fun b28 a29 => ldS σ8 b28 a29 (fun A30 l30 c30 => 
    cl Try.prog (.func (.func 35) #[] #[]) #[(.agg #[(.slice a0_Parking_A a0_Parking_n a0_Parking_c), (.slice a0_Roads_A a0_Roads_n a0_Roads_c)]), (.agg #[(.int .i64 n22), (.int .i64 n23), (.int .i64 n24), (.int .i64 n25), (.int .i64 n26), (.int .i64 n27)]), (.slice A30 l30 c30)] σ8 (fun v31 σ32 => 
    ∃ n33 : Int, ∃ n34 : Int, ∃ n35 : Int, ∃ n36 : Int, (v31 = (.tuple #[(.int .i64 n33), (.int .i64 n34), (.int .i64 n35), (.int .i64 n36)]) ∧ 
    bc (!decide (n36 = 0)) (rt σ32 R (.tuple #[(.int .i64 n12), (.int .i64 n36)])) (cut (α := Hp → Prop) (fun  σ38 => 
    ∀ _ : Nat → Value, J15 n34 σ38) (fun J39 => cut (α := Bool → Hp → Prop) (fun t43 σ41 => ∀ _ : Nat → Value, 
    bc t43 (rt σ41 R (.tuple #[(.int .i64 n12), (.int .i64 92)])) (J39 σ41)) (fun J42 => bc (!decide (n33 = a2)) (J42 true σ32) (bc (decide ((0 : Int) < n12)) (wk .i64 (n11 + a3) (fun n44 => 
    J42 (decide (n34 < n44)) σ32)) (J42 false σ32)))))))))))))))))) (J6 σ8))))))
def Ak : OA := ⟨[], false, []⟩
def Fs : MAn := (.seq (.txt []) (.seq (.txt []) (.seq (.seq (.txt []) (.cond (.seq (.txt []) .leaf) .leaf)) (.seq (.seq (.txt []) (.cond (.seq (.txt []) .leaf) .leaf)) (.seq (.txt []) (.cut ⟨[true], 1, [], []⟩ (.seq (.txt []) (.block (.loop ⟨[true], 1, [.slot 5 (.hb 0 0), .slot 13 (.sc (.int .i64)), .slot 14 (.sc (.int .i64))], [(1, true), (2, true), (3, true), (4, true)]⟩ (.seq (.seq (.txt []) (.cond .leaf .leaf)) (.cut ⟨[true], 1, [.slot 5 (.hb 0 0), .slot 13 (.sc (.int .i64))], [(1, true), (2, true), (3, true), (4, true), (14, true)]⟩ (.block (.seq (.plan [9] (.take 0 Ak (.take 1 Ak (.take 2 Ak (.take 3 Ak (.take 4 Ak (.take 5 Ak (.take 6 Ak (.take 7 Ak (.take 8 Ak (.alt 9 false Ak (.take 10 Ak (.take 11 Ak (.take 12 Ak (.take 13 Ak (.take 14 Ak (.take 15 Ak (.take 16 Ak (.take 17 Ak (.take 18 Ak .done))))))))) .done))))))))))) (.seq (.seq (.txt []) (.cond (.seq (.txt []) .leaf) .leaf)) (.cut ⟨[true], 1, [.slot 5 (.hb 0 0)], [(1, true), (2, true), (3, true), (4, true), (14, true), (16, true)]⟩ (.cut ⟨[true], 1, [.slot 5 (.hb 0 0), .slot 70 (.sc (.bool))], [(1, true), (2, true), (3, true), (4, true), (14, true), (16, true)]⟩ (.txt [Ak, Ak, Ak, ⟨[], true, []⟩, Ak, Ak, ⟨[], true, []⟩]) (.cond (.seq (.txt []) .leaf) .leaf)) (.txt []))))) (.txt [])))))) (.seq (.txt []) .leaf)))))))
set_option maxRecDepth 100000 in
theorem FF (σ : Hp) (a0_Parking_A : Option Addr) (a0_Parking_n : Nat) (a0_Parking_c : Nat) (a0_Roads_A : Option Addr) (a0_Roads_n : Nat) (a0_Roads_c : Nat) (a1_A : Option Addr) (a1_n : Nat) (a1_c : Nat) (a2 : Int) (a3 : Int) (a4_A : Option Addr) (a4_n : Nat) (a4_c : Nat) (R : Value → Hp → Prop) (h : Ct σ a0_Parking_A a0_Parking_n a0_Parking_c a0_Roads_A a0_Roads_n a0_Roads_c a1_A a1_n a1_c a2 a3 a4_A a4_n a4_c R) : Ag Try.prog 38 #[(.agg #[(.slice a0_Parking_A a0_Parking_n a0_Parking_c), (.slice a0_Roads_A a0_Roads_n a0_Roads_c)]), (.slice a1_A a1_n a1_c), (.int .i64 a2), (.int .i64 a3), (.slice a4_A a4_n a4_c)] σ R :=
  An B1 Fs Try.func38 rfl (by kernel_rfl) (by kernel_rfl) (M := Ct σ a0_Parking_A a0_Parking_n a0_Parking_c a0_Roads_A a0_Roads_n a0_Roads_c a1_A a1_n a1_c a2 a3 a4_A a4_n a4_c R) (by kernel_rfl) h
theorem Ea : Az Try.prog 38 = true := by kernel_rfl
abbrev FD : FuncId := 20
def Fk (σ : Hp) (m_Parking_A : Option Addr) (m_Parking_n : Nat) (_ : Nat) (m_Roads_A : Option Addr) (m_Roads_n : Nat) (_ : Nat) (R : Value → Hp → Prop) : Prop :=
  ((∃ ys1 : List Bool, RdS [.bool] σ m_Parking_A m_Parking_n ys1 ∧ BS (List.length ([] : List Bool) + List.length ys1) (∃ ys2 : List (Int × Int × Int × Int × Int), RdS [.int .i64, .int .i64, .int .i64, .int .i64, .int .i64] σ m_Roads_A m_Roads_n ys2 ∧ 
    BS (List.length ([] : List (Int × Int × Int × Int × Int)) + List.length ys2) (exl 4 [.bool] (([] : List Bool) ++ ys1) σ (fun A3 l3 c3 σ4 => 
    exl 51 [.int .i64, .int .i64, .int .i64, .int .i64, .int .i64] (([] : List (Int × Int × Int × Int × Int)) ++ ys2) σ4 (fun A5 l5 c5 σ6 => 
    rt σ6 R (.agg #[(.slice A3 l3 c3), (.slice A5 l5 c5)])))))) ∧ (∃ ys7 : List Bool, RdS [.bool] σ m_Parking_A m_Parking_n ys7 ∧ 
    BS (List.length ([] : List Bool) + List.length ys7) (∃ ys8 : List (Int × Int × Int × Int × Int), RdS [.int .i64, .int .i64, .int .i64, .int .i64, .int .i64] σ m_Roads_A m_Roads_n ys8 ∧ 
    BS (List.length ([] : List (Int × Int × Int × Int × Int)) + List.length ys8) (exl 4 [.bool] (([] : List Bool) ++ ys7) σ (fun A9 l9 c9 σ10 => 
    exl 51 [.int .i64, .int .i64, .int .i64, .int .i64, .int .i64] (([] : List (Int × Int × Int × Int × Int)) ++ ys8) σ10 (fun A11 l11 c11 σ12 => 
    rt σ12 R (.agg #[(.slice A9 l9 c9), (.slice A11 l11 c11)])))))))
def AD : OA := ⟨[], false, []⟩
def Jv : MAn := (.seq (.txt []) (.seq (.plan [3, 7, 9] (.take 1 AD (.take 2 AD (.take 5 AD (.new 0 AD (.new 4 AD (.alt 3 false AD (.take 6 AD (.alt 7 false AD (.take 8 AD (.alt 9 false AD .done .done)) .done)) (.alt 6 true AD (.alt 3 false AD (.alt 7 false AD (.take 8 AD (.alt 9 false AD .done .done)) .done) .done) .done)))))))) .leaf))
set_option maxRecDepth 100000 in
theorem JC (σ : Hp) (m_Parking_A : Option Addr) (m_Parking_n : Nat) (m_Parking_c : Nat) (m_Roads_A : Option Addr) (m_Roads_n : Nat) (m_Roads_c : Nat) (R : Value → Hp → Prop) (h : Fk σ m_Parking_A m_Parking_n m_Parking_c m_Roads_A m_Roads_n m_Roads_c R) : Ag Try.prog 20 #[(.agg #[(.slice m_Parking_A m_Parking_n m_Parking_c), (.slice m_Roads_A m_Roads_n m_Roads_c)])] σ R :=
  An B1 Jv Try.func20 rfl (by kernel_rfl) (by kernel_rfl) (M := Fk σ m_Parking_A m_Parking_n m_Parking_c m_Roads_A m_Roads_n m_Roads_c R) (by kernel_rfl) h
theorem Hn : Az Try.prog 20 = true := by kernel_rfl
abbrev EQ : FuncId := 37
def C7 (σ : Hp) (j_A : Option Addr) (j_n : Nat) (_ : Nat) (R : Value → Hp → Prop) : Prop :=
  cut (α := List ((Option Addr × Nat × Nat)) → Hp → Prop) (fun xs4 σ2 => ∀ _ : Nat → Value, exl 32 [.slc] xs4 σ2 (fun A5 l5 c5 σ6 => 
    rt σ6 R (.slice A5 l5 c5))) (fun J3 => ∃ I9 : Nat → List ((Option Addr × Nat × Nat)) → Int → Hp → Prop, (∃ n100, adp 32 [.slc] none 0 0 σ (fun (xs11 : List ((Option Addr × Nat × Nat))) σ12 => 
    I9 n100 xs11 0 σ12)) ∧ ∀ n10 : Nat, ∀ xs13 : List ((Option Addr × Nat × Nat)), ∀ n14 : Int, ∀ σ8 : Hp, I9 n10 xs13 n14 σ8 → ∀ _ : Nat → Value, bc (decide (n14 < ((j_n : Nat) : Int))) (ix j_A j_n n14 1 (fun b15 a16 => 
    ldS σ8 b15 a16 (fun A17 l17 _ => ∃ ys18 : List (Int × Int), RdS [.int .i64, .int .i64] σ8 A17 l17 ys18 ∧ 
    BS (List.length ([] : List (Int × Int)) + List.length ys18) (exl 60 [.int .i64, .int .i64] (([] : List (Int × Int)) ++ ys18) σ8 (fun A19 l19 c19 σ20 => 
    bx σ20 (.cells #[(.slice A19 l19 c19)] 32) (fun b21 σ22 => ∃ ys23 : List ((Option Addr × Nat × Nat)), RdS [.slc] σ22 (some ⟨b21, 0, none⟩) 1 ys23 ∧ 
    BS (List.length xs13 + List.length ys23) (wk .i64 (n14 + 1) (fun n24 => bk σ22 n10 (fun m25 σ26 => 
    I9 m25 (xs13 ++ ys23) n24 σ26))))))))) (J3 xs13 σ8))
def Hb : MAn := (.seq (.txt []) (.seq (.txt []) (.cut ⟨[], 1, [.slot 3 (.lst 0 32 [.slc])], []⟩ (.seq (.txt []) (.block (.loop ⟨[], 1, [.slot 3 (.lst 0 32 [.slc]), .slot 4 (.sc (.int .i64))], [(0, true)]⟩ (.seq (.seq (.txt []) (.cond .leaf .leaf)) (.seq (.block (.txt [])) (.txt [])))))) (.seq (.txt []) .leaf))))
set_option maxRecDepth 100000 in
theorem GV (σ : Hp) (j_A : Option Addr) (j_n : Nat) (j_c : Nat) (R : Value → Hp → Prop) (h : C7 σ j_A j_n j_c R) : Ag Try.prog 37 #[(.slice j_A j_n j_c)] σ R :=
  An B1 Hb Try.func37 rfl (by kernel_rfl) (by kernel_rfl) (M := C7 σ j_A j_n j_c R) (by kernel_rfl) h
theorem Fb : Az Try.prog 37 = true := by kernel_rfl
end Go.Proofs.Ytkdjkkimngeloaa
