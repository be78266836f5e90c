/- Trimmed by wip/trim.py to what this claim rests on. -/
import Derived.Test.YtkdjkkimngeloaaZB11
namespace Go.Proofs.Ytkdjkkimngeloaa
open Go.RowKit
theorem BF : Try.prog.follows .mixedOrders = true := by kernel_rfl
abbrev Kh : FuncId := 60
def Gg (σ : Hp) (n : Int) (low : Int) (high : Int) (R : Value → Hp → Prop) : Prop :=
  bc (decide (low ≤ n)) (rt σ R (.bool (decide (n ≤ high)))) (rt σ R (.bool false))
def Ly : MAn := (.seq (.txt []) (.seq (.txt [⟨[], false, []⟩, ⟨[], false, []⟩, ⟨[], false, []⟩, ⟨[], true, []⟩]) .leaf))
set_option maxRecDepth 100000 in
theorem Lo (σ : Hp) (n : Int) (low : Int) (high : Int) (R : Value → Hp → Prop) (h : Gg σ n low high R) : Ag Try.prog 60 #[(.int .i64 n), (.int .i64 low), (.int .i64 high)] σ R :=
  Ai BF Ly Try.func60 rfl (by kernel_rfl) (by kernel_rfl) (M := Gg σ n low high R) (by kernel_rfl) h
theorem Jn : Aw Try.prog 60 = true := by kernel_rfl
abbrev K1 : FuncId := 62
def DD (σ : Hp) (a0_Parking_A : Option Addr) (a0_Parking_n : Nat) (a0_Parking_c : Nat) (a0_Roads_A : Option Addr) (a0_Roads_n : Nat) (a0_Roads_c : Nat) (R : Value → Hp → Prop) : Prop :=
  cut (α := Hp → Prop) (fun  σ2 => ∀ _ : Nat → Value, cut (α := Hp → Prop) (fun  σ5 => ∀ _ : Nat → Value, 
    rt σ5 R (.int .i64 0)) (fun J6 => ∃ I9 : Nat → Int → Hp → Prop, (∃ n100, I9 n100 0 σ2) ∧ ∀ n10 : Nat, ∀ n11 : Int, ∀ σ8 : Hp, I9 n10 n11 σ8 → ∀ _ : Nat → Value, bc (decide (n11 < ((a0_Roads_n : Nat) : Int))) (cut (α := Hp → Prop) (fun  σ13 => 
    ∀ _ : Nat → Value, wk .i64 (n11 + 1) (fun n15 => bk σ13 n10 (fun m16 σ17 => I9 m16 n15 σ17))) (fun J14 => 
    ix a0_Roads_A a0_Roads_n n11 5 (fun b18 a19 => ldI σ8 .i64 b18 a19 (fun n20 => ldI σ8 .i64 b18 (a19 + 1) (fun n21 => 
    ldI σ8 .i64 b18 (a19 + 2) (fun n22 => ldI σ8 .i64 b18 (a19 + 3) (fun n23 => ldI σ8 .i64 b18 (a19 + 4) (fun n24 => 
    cut (α := Bool → Hp → Prop) (fun t28 σ26 => ∀ _ : Nat → Value, bc t28 (rt σ26 R (.int .i64 90)) (J14 σ26)) (fun J27 => 
    cl Try.prog (.func (.func 86) #[] #[]) #[(.agg #[(.slice a0_Parking_A a0_Parking_n a0_Parking_c), (.slice a0_Roads_A a0_Roads_n a0_Roads_c)]), (.int .i64 n20)] σ8 (fun v29 σ30 => 
    ∃ t31 : Bool, (v29 = (.bool t31) ∧ bc (!t31) (J27 true σ30) (cl Try.prog (.func (.func 86) #[] #[]) #[(.agg #[(.slice a0_Parking_A a0_Parking_n a0_Parking_c), (.slice a0_Roads_A a0_Roads_n a0_Roads_c)]), (.int .i64 n21)] σ30 (fun v32 σ33 => 
    ∃ t34 : Bool, (v32 = (.bool t34) ∧ bc (!t34) (J27 true σ33) (bc (decide (n20 = n21)) (J27 true σ33) (cl Try.prog (.func (.func 60) #[] #[]) #[(.int .i64 n22), (.int .i64 1), (.int .i64 500)] σ33 (fun v35 σ36 => 
    ∃ t37 : Bool, (v35 = (.bool t37) ∧ bc (!t37) (J27 true σ36) (cl Try.prog (.func (.func 60) #[] #[]) #[(.int .i64 n23), (.int .i64 0), (.int .i64 1000)] σ36 (fun v38 σ39 => 
    ∃ t40 : Bool, (v38 = (.bool t40) ∧ bc (!t40) (J27 true σ39) (cl Try.prog (.func (.func 60) #[] #[]) #[(.int .i64 n24), (.int .i64 0), (.int .i64 1000)] σ39 (fun v41 σ42 => 
    ∃ t43 : Bool, (v41 = (.bool t43) ∧ J27 (!t43) σ42)))))))))))))))))))))))) (J6 σ8))) (fun J3 => cut (α := Bool → Hp → Prop) (fun t47 σ45 => 
    ∀ _ : Nat → Value, bc t47 (rt σ45 R (.int .i64 90)) (J3 σ45)) (fun J46 => cl Try.prog (.func (.func 60) #[] #[]) #[(.int .i64 ((a0_Parking_n : Nat) : Int)), (.int .i64 1), (.int .i64 12)] σ (fun v48 σ49 => 
    ∃ t50 : Bool, (v48 = (.bool t50) ∧ bc (!t50) (J46 true σ49) (J46 (decide ((30 : Int) < ((a0_Roads_n : Nat) : Int))) σ49)))))
def Ak : OA := ⟨[], false, []⟩
def IF : MAn := (.seq (.txt []) (.cut ⟨[true], 1, [.slot 1 (.hb 0 0)], []⟩ (.cut ⟨[true], 1, [.slot 1 (.hb 0 0), .slot 15 (.sc (.bool))], []⟩ (.txt [Ak, Ak, Ak, Ak, Ak, ⟨[], true, []⟩]) (.cond (.seq (.txt []) .leaf) .leaf)) (.cut ⟨[true], 1, [], []⟩ (.seq (.txt []) (.block (.loop ⟨[true], 1, [.slot 1 (.hb 0 0), .slot 3 (.sc (.int .i64))], []⟩ (.seq (.seq (.txt []) (.cond .leaf .leaf)) (.cut ⟨[true], 1, [.slot 1 (.hb 0 0)], [(3, true)]⟩ (.block (.seq (.txt []) (.cut ⟨[true, true], 2, [.slot 1 (.hb 0 0), .slot 64 (.sc (.bool))], [(3, true)]⟩ (.txt [Ak, Ak, Ak, Ak, Ak, ⟨[], true, []⟩, Ak, Ak, Ak, Ak, Ak, Ak, ⟨[], true, []⟩, Ak, Ak, Ak, Ak, Ak, Ak, ⟨[], true, []⟩, Ak, Ak, Ak, Ak, Ak, ⟨[], true, []⟩, Ak, Ak, Ak, Ak, Ak, ⟨[], true, []⟩]) (.cond (.seq (.txt []) .leaf) .leaf)))) (.txt [])))))) (.seq (.txt []) .leaf))))
set_option maxRecDepth 100000 in
theorem IC (σ : Hp) (a0_Parking_A : Option Addr) (a0_Parking_n : Nat) (a0_Parking_c : Nat) (a0_Roads_A : Option Addr) (a0_Roads_n : Nat) (a0_Roads_c : Nat) (R : Value → Hp → Prop) (h : DD σ a0_Parking_A a0_Parking_n a0_Parking_c a0_Roads_A a0_Roads_n a0_Roads_c R) : Ag Try.prog 62 #[(.agg #[(.slice a0_Parking_A a0_Parking_n a0_Parking_c), (.slice a0_Roads_A a0_Roads_n a0_Roads_c)])] σ R :=
  Ai BF IF Try.func62 rfl (by kernel_rfl) (by kernel_rfl) (M := DD σ a0_Parking_A a0_Parking_n a0_Parking_c a0_Roads_A a0_Roads_n a0_Roads_c R) (by kernel_rfl) h
theorem Gt : Aw Try.prog 62 = true := by kernel_rfl
abbrev Kg : FuncId := 86
def GD (σ : Hp) (_ : Option Addr) (m_Parking_n : Nat) (_ : Nat) (_ : Option Addr) (_ : Nat) (_ : Nat) (n : Int) (R : Value → Hp → Prop) : Prop :=
  wk .i64 (((m_Parking_n : Nat) : Int) - 1) (fun n1 => cl Try.prog (.func (.func 60) #[] #[]) #[(.int .i64 n), (.int .i64 0), (.int .i64 n1)] σ (fun v2 σ3 => 
    ∃ t4 : Bool, (v2 = (.bool t4) ∧ rt σ3 R (.bool t4))))
def Lr : MAn := (.seq (.txt []) (.seq (.txt []) .leaf))
set_option maxRecDepth 100000 in
theorem Lx (σ : Hp) (m_Parking_A : Option Addr) (m_Parking_n : Nat) (m_Parking_c : Nat) (m_Roads_A : Option Addr) (m_Roads_n : Nat) (m_Roads_c : Nat) (n : Int) (R : Value → Hp → Prop) (h : GD σ m_Parking_A m_Parking_n m_Parking_c m_Roads_A m_Roads_n m_Roads_c n R) : Ag Try.prog 86 #[(.agg #[(.slice m_Parking_A m_Parking_n m_Parking_c), (.slice m_Roads_A m_Roads_n m_Roads_c)]), (.int .i64 n)] σ R :=
  Ai BF Lr Try.func86 rfl (by kernel_rfl) (by kernel_rfl) (M := GD σ m_Parking_A m_Parking_n m_Parking_c m_Roads_A m_Roads_n m_Roads_c n R) (by kernel_rfl) h
theorem Jh : Aw Try.prog 86 = true := by kernel_rfl
abbrev I5 : FuncId := 63
def CZ (σ : Hp) (m_Parking_A : Option Addr) (m_Parking_n : Nat) (m_Parking_c : Nat) (m_Roads_A : Option Addr) (m_Roads_n : Nat) (m_Roads_c : Nat) (l_Height : Int) (l_Weight : Int) (l_From : Int) (l_Ready : Int) (l_Drive : Int) (l_Rest : Int) (R : Value → Hp → Prop) : Prop :=
  cut (α := Hp → Prop) (fun  σ2 => ∀ _ : Nat → Value, rt σ2 R (.int .i64 0)) (fun J3 => cut (α := Bool → Hp → Prop) (fun t7 σ5 => 
    ∀ _ : Nat → Value, bc t7 (rt σ5 R (.int .i64 91)) (J3 σ5)) (fun J6 => cl Try.prog (.func (.func 60) #[] #[]) #[(.int .i64 l_Height), (.int .i64 0), (.int .i64 1000)] σ (fun v8 σ9 => 
    ∃ t10 : Bool, (v8 = (.bool t10) ∧ bc (!t10) (J6 true σ9) (cl Try.prog (.func (.func 60) #[] #[]) #[(.int .i64 l_Weight), (.int .i64 0), (.int .i64 1000)] σ9 (fun v11 σ12 => 
    ∃ t13 : Bool, (v11 = (.bool t13) ∧ bc (!t13) (J6 true σ12) (cl Try.prog (.func (.func 86) #[] #[]) #[(.agg #[(.slice m_Parking_A m_Parking_n m_Parking_c), (.slice m_Roads_A m_Roads_n m_Roads_c)]), (.int .i64 l_From)] σ12 (fun v14 σ15 => 
    ∃ t16 : Bool, (v14 = (.bool t16) ∧ bc (!t16) (J6 true σ15) (cl Try.prog (.func (.func 60) #[] #[]) #[(.int .i64 l_Ready), (.int .i64 0), (.int .i64 2000)] σ15 (fun v17 σ18 => 
    ∃ t19 : Bool, (v17 = (.bool t19) ∧ bc (!t19) (J6 true σ18) (cl Try.prog (.func (.func 60) #[] #[]) #[(.int .i64 l_Drive), (.int .i64 1), (.int .i64 500)] σ18 (fun v20 σ21 => 
    ∃ t22 : Bool, (v20 = (.bool t22) ∧ bc (!t22) (J6 true σ21) (cl Try.prog (.func (.func 60) #[] #[]) #[(.int .i64 l_Rest), (.int .i64 1), (.int .i64 500)] σ21 (fun v23 σ24 => 
    ∃ t25 : Bool, (v23 = (.bool t25) ∧ J6 (!t25) σ24)))))))))))))))))))
def An : OA := ⟨[], false, []⟩
def He : MAn := (.seq (.txt []) (.cut ⟨[true, true], 2, [], []⟩ (.cut ⟨[true, true], 2, [.slot 39 (.sc (.bool))], []⟩ (.txt [An, An, An, An, ⟨[], true, []⟩, An, An, An, An, An, ⟨[], true, []⟩, An, An, An, An, An, An, ⟨[], true, []⟩, An, An, An, An, An, ⟨[], true, []⟩, An, An, An, An, An, ⟨[], true, []⟩]) (.cond (.seq (.txt []) .leaf) .leaf)) (.seq (.txt []) .leaf)))
set_option maxRecDepth 100000 in
theorem G7 (σ : Hp) (m_Parking_A : Option Addr) (m_Parking_n : Nat) (m_Parking_c : Nat) (m_Roads_A : Option Addr) (m_Roads_n : Nat) (m_Roads_c : Nat) (l_Height : Int) (l_Weight : Int) (l_From : Int) (l_Ready : Int) (l_Drive : Int) (l_Rest : Int) (R : Value → Hp → Prop) (h : CZ σ m_Parking_A m_Parking_n m_Parking_c m_Roads_A m_Roads_n m_Roads_c l_Height l_Weight l_From l_Ready l_Drive l_Rest R) : Ag Try.prog 63 #[(.agg #[(.slice m_Parking_A m_Parking_n m_Parking_c), (.slice m_Roads_A m_Roads_n m_Roads_c)]), (.agg #[(.int .i64 l_Height), (.int .i64 l_Weight), (.int .i64 l_From), (.int .i64 l_Ready), (.int .i64 l_Drive), (.int .i64 l_Rest)])] σ R :=
  Ai BF He Try.func63 rfl (by kernel_rfl) (by kernel_rfl) (M := CZ σ m_Parking_A m_Parking_n m_Parking_c m_Roads_A m_Roads_n m_Roads_c l_Height l_Weight l_From l_Ready l_Drive l_Rest R) (by kernel_rfl) h
theorem Fk : Aw Try.prog 63 = true := by kernel_rfl
abbrev GF : FuncId := 61
def Gk (σ : Hp) (l_Height : Int) (l_Weight : Int) (_ : Int) (_ : Int) (_ : Int) (_ : Int) (_ : Int) (_ : Int) (_ : Int) (r_Height : Int) (r_Weight : Int) (R : Value → Hp → Prop) : Prop :=
  bc (decide (l_Height ≤ r_Height)) (rt σ R (.bool (decide (l_Weight ≤ r_Weight)))) (rt σ R (.bool false))
def LK : MAn := (.seq (.txt []) (.seq (.txt [⟨[], false, []⟩, ⟨[], false, []⟩, ⟨[], false, []⟩, ⟨[], false, []⟩, ⟨[], false, []⟩, ⟨[], true, []⟩]) .leaf))
set_option maxRecDepth 100000 in
theorem LE (σ : Hp) (l_Height : Int) (l_Weight : Int) (l_From : Int) (l_Ready : Int) (l_Drive : Int) (l_Rest : Int) (r_A : Int) (r_B : Int) (r_Length : Int) (r_Height : Int) (r_Weight : Int) (R : Value → Hp → Prop) (h : Gk σ l_Height l_Weight l_From l_Ready l_Drive l_Rest r_A r_B r_Length r_Height r_Weight R) : Ag Try.prog 61 #[(.agg #[(.int .i64 l_Height), (.int .i64 l_Weight), (.int .i64 l_From), (.int .i64 l_Ready), (.int .i64 l_Drive), (.int .i64 l_Rest)]), (.agg #[(.int .i64 r_A), (.int .i64 r_B), (.int .i64 r_Length), (.int .i64 r_Height), (.int .i64 r_Weight)])] σ R :=
  Ai BF LK Try.func61 rfl (by kernel_rfl) (by kernel_rfl) (M := Gk σ l_Height l_Weight l_From l_Ready l_Drive l_Rest r_A r_B r_Length r_Height r_Weight R) (by kernel_rfl) h
theorem Ja : Aw Try.prog 61 = true := by kernel_rfl
abbrev PD : FuncId := 65
def HM (σ : Hp) (a0_Parking_A : Option Addr) (a0_Parking_n : Nat) (_ : Nat) (a0_Roads_A : Option Addr) (a0_Roads_n : Nat) (_ : Nat) (a1_Height : Int) (a1_Weight : Int) (a1_From : Int) (a1_Ready : Int) (a1_Drive : Int) (a1_Rest : Int) (a2_at : Int) (a2_since : Int) (a2_driven : Int) (a3_Road : Int) (a3_Depart : Int) (R : Value → Hp → Prop) : Prop :=
  ix a0_Roads_A a0_Roads_n a3_Road 5 (fun b1 a2 => ldI σ .i64 b1 a2 (fun n3 => ldI σ .i64 b1 (a2 + 1) (fun n4 => 
    ldI σ .i64 b1 (a2 + 2) (fun n5 => ldI σ .i64 b1 (a2 + 3) (fun n6 => ldI σ .i64 b1 (a2 + 4) (fun n7 => 
    cut (α := Int → Int → Int → Hp → Prop) (fun _ _ _ σ9 => ∀ _ : Nat → Value, cut (α := Int → Hp → Prop) (fun n17 σ15 => 
    ∀ _ : Nat → Value, wk .i64 (n3 + n4) (fun n18 => wk .i64 (n18 - a2_at) (fun n19 => wk .i64 (a3_Depart + n5) (fun n20 => 
    wk .i64 (n17 + n5) (fun n21 => ((wk .i64 (n17 + n5) (fun n22 => ((rt σ15 R (.tuple #[(.agg #[(.int .i64 n19), (.int .i64 n20), (.int .i64 n21)]), (.bool (decide (n22 ≤ a1_Drive)))])) ∧ 
    (rt σ15 R (.tuple #[(.agg #[(.int .i64 n19), (.int .i64 n20), (.int .i64 n21)]), (.bool (decide (n22 ≤ a1_Drive)))]))))) ∧ 
    ((wk .i64 (n17 + n5) (fun n23 => rt σ15 R (.tuple #[(.agg #[(.int .i64 n19), (.int .i64 n20), (.int .i64 n21)]), (.bool (decide (n23 ≤ a1_Drive)))]))) ∧ 
    (wk .i64 (n17 + n5) (fun n24 => rt σ15 R (.tuple #[(.agg #[(.int .i64 n19), (.int .i64 n20), (.int .i64 n21)]), (.bool (decide (n24 ≤ a1_Drive)))])))) ∧ 
    (wk .i64 (n17 + n5) (fun n25 => rt σ15 R (.tuple #[(.agg #[(.int .i64 n19), (.int .i64 n20), (.int .i64 n21)]), (.bool (decide (n25 ≤ a1_Drive)))]))))))))) (fun J16 => 
    cut (α := Bool → Hp → Prop) (fun t29 σ27 => ∀ _ : Nat → Value, bc t29 (J16 0 σ27) (J16 a2_driven σ27)) (fun J28 => 
    ix a0_Parking_A a0_Parking_n a2_at 1 (fun b30 a31 => ldB σ9 b30 a31 (fun t32 => bc t32 (wk .i64 (a3_Depart - a2_since) (fun n33 => 
    J28 (decide (a1_Rest ≤ n33)) σ9)) (J28 false σ9)))))) (fun J10 => cut (α := Bool → Hp → Prop) (fun t37 σ35 => 
    ∀ _ : Nat → Value, bc t37 (rt σ35 R (.tuple #[(.agg #[(.int .i64 a2_at), (.int .i64 a2_since), (.int .i64 a2_driven)]), (.bool false)])) (J10 0 0 0 σ35)) (fun J36 => 
    bc (!decide (a2_at = n3)) (bc (!decide (a2_at = n4)) (J36 true σ) (cl Try.prog (.func (.func 61) #[] #[]) #[(.agg #[(.int .i64 a1_Height), (.int .i64 a1_Weight), (.int .i64 a1_From), (.int .i64 a1_Ready), (.int .i64 a1_Drive), (.int .i64 a1_Rest)]), (.agg #[(.int .i64 n3), (.int .i64 n4), (.int .i64 n5), (.int .i64 n6), (.int .i64 n7)])] σ (fun v38 σ39 => 
    ∃ t40 : Bool, (v38 = (.bool t40) ∧ bc (!t40) (J36 true σ39) (J36 (decide (a3_Depart < a2_since)) σ39))))) (cl Try.prog (.func (.func 61) #[] #[]) #[(.agg #[(.int .i64 a1_Height), (.int .i64 a1_Weight), (.int .i64 a1_From), (.int .i64 a1_Ready), (.int .i64 a1_Drive), (.int .i64 a1_Rest)]), (.agg #[(.int .i64 n3), (.int .i64 n4), (.int .i64 n5), (.int .i64 n6), (.int .i64 n7)])] σ (fun v41 σ42 => 
    ∃ t43 : Bool, (v41 = (.bool t43) ∧ bc (!t43) (J36 true σ42) (J36 (decide (a3_Depart < a2_since)) σ42))))))))))))
def Ac : OA := ⟨[], false, []⟩
def M0 : MAn := (.seq (.txt []) (.seq (.txt []) (.cut ⟨[true, true, true, true, false, true], 6, [.slot 4 (.hb 0 0), .slot 5 (.hb 1 0), .slot 6 (.hb 2 0), .slot 7 (.hb 3 0), .slot 8 (.hb 4 0), .slot 10 (.hb 5 0), .modb 4 88 [.sc (.int .i64), .sc (.int .i64), .sc (.int .i64)]], []⟩ (.cut ⟨[true, true, true, true, true, true], 6, [.slot 4 (.hb 0 0), .slot 5 (.hb 1 0), .slot 6 (.hb 2 0), .slot 7 (.hb 3 0), .slot 8 (.hb 4 0), .slot 10 (.hb 5 0), .slot 42 (.sc (.bool))], []⟩ (.txt [Ac, Ac, Ac, Ac, Ac, ⟨[], true, []⟩, Ac, Ac, Ac, Ac, Ac, Ac, ⟨[], true, []⟩, Ac, Ac, Ac, Ac, Ac, ⟨[], true, []⟩]) (.cond (.seq (.txt []) .leaf) .leaf)) (.seq (.txt []) (.cut ⟨[true, true, true, true, true, true], 6, [.slot 5 (.hb 1 0), .slot 6 (.hb 2 0), .slot 7 (.hb 3 0), .slot 8 (.hb 4 0), .slot 10 (.hb 5 0), .slot 11 (.sc (.int .i64))], []⟩ (.cut ⟨[true, true, true, true, true, true], 6, [.slot 5 (.hb 1 0), .slot 6 (.hb 2 0), .slot 7 (.hb 3 0), .slot 8 (.hb 4 0), .slot 10 (.hb 5 0), .slot 61 (.sc (.bool))], [(11, true)]⟩ (.txt [Ac, Ac, Ac, Ac, Ac, Ac, ⟨[], true, []⟩]) (.cond (.txt []) .leaf)) (.seq (.plan [25] (.take 0 Ac (.take 1 Ac (.take 2 Ac (.take 3 Ac (.take 4 Ac (.take 5 Ac (.take 6 Ac (.take 7 Ac (.take 8 Ac (.take 9 Ac (.take 10 Ac (.take 11 Ac (.take 12 Ac (.take 13 Ac (.take 14 Ac (.take 15 Ac (.take 16 Ac (.take 17 Ac (.take 18 Ac (.take 19 Ac (.take 22 Ac (.alt 20 true Ac (.take 21 Ac (.alt 23 true Ac (.take 24 Ac (.alt 25 false Ac (.take 26 Ac .done) .done)) (.alt 25 false Ac (.take 23 Ac (.take 24 Ac (.take 26 Ac .done))) .done))) (.alt 23 true Ac (.alt 20 true Ac (.take 21 Ac (.take 24 Ac (.alt 25 false Ac (.take 26 Ac .done) .done))) (.alt 25 false Ac (.take 20 Ac (.take 21 Ac (.take 24 Ac (.take 26 Ac .done)))) .done)) (.alt 25 false Ac (.take 20 Ac (.take 21 Ac (.take 23 Ac (.take 24 Ac (.take 26 Ac .done))))) .done))))))))))))))))))))))))) .leaf))))))
set_option maxRecDepth 100000 in
theorem Mm (σ : Hp) (a0_Parking_A : Option Addr) (a0_Parking_n : Nat) (a0_Parking_c : Nat) (a0_Roads_A : Option Addr) (a0_Roads_n : Nat) (a0_Roads_c : Nat) (a1_Height : Int) (a1_Weight : Int) (a1_From : Int) (a1_Ready : Int) (a1_Drive : Int) (a1_Rest : Int) (a2_at : Int) (a2_since : Int) (a2_driven : Int) (a3_Road : Int) (a3_Depart : Int) (R : Value → Hp → Prop) (h : HM σ a0_Parking_A a0_Parking_n a0_Parking_c a0_Roads_A a0_Roads_n a0_Roads_c a1_Height a1_Weight a1_From a1_Ready a1_Drive a1_Rest a2_at a2_since a2_driven a3_Road a3_Depart R) : Ag Try.prog 65 #[(.agg #[(.slice a0_Parking_A a0_Parking_n a0_Parking_c), (.slice a0_Roads_A a0_Roads_n a0_Roads_c)]), (.agg #[(.int .i64 a1_Height), (.int .i64 a1_Weight), (.int .i64 a1_From), (.int .i64 a1_Ready), (.int .i64 a1_Drive), (.int .i64 a1_Rest)]), (.agg #[(.int .i64 a2_at), (.int .i64 a2_since), (.int .i64 a2_driven)]), (.agg #[(.int .i64 a3_Road), (.int .i64 a3_Depart)])] σ R :=
  Ai BF M0 Try.func65 rfl (by kernel_rfl) (by kernel_rfl) (M := HM σ a0_Parking_A a0_Parking_n a0_Parking_c a0_Roads_A a0_Roads_n a0_Roads_c a1_Height a1_Weight a1_From a1_Ready a1_Drive a1_Rest a2_at a2_since a2_driven a3_Road a3_Depart R) (by kernel_rfl) h
theorem Js : Aw Try.prog 65 = true := by kernel_rfl
abbrev M5 : FuncId := 88
def EH (σ : Hp) (_ : Int) (a0_s_since : Int) (_ : Int) (a0_j_A : Option Addr) (a0_j_n : Nat) (_ : Nat) (_ : Int) (a1_s_since : Int) (_ : Int) (a1_j_A : Option Addr) (a1_j_n : Nat) (_ : Nat) (R : Value → Hp → Prop) : Prop :=
  bc (!decide (a0_s_since = a1_s_since)) (rt σ R (.bool (decide (a0_s_since < a1_s_since)))) (bc (!decide (((a0_j_n : Nat) : Int) = ((a1_j_n : Nat) : Int))) (rt σ R (.bool (decide (((a0_j_n : Nat) : Int) < ((a1_j_n : Nat) : Int))))) (cut (α := Hp → Prop) (fun  σ2 => 
    ∀ _ : Nat → Value, rt σ2 R (.bool false)) (fun J3 => ∃ I6 : Nat → Int → Hp → Prop, (∃ n70, I6 n70 0 σ) ∧ 
    ∀ n7 : Nat, ∀ n8 : Int, ∀ σ5 : Hp, I6 n7 n8 σ5 → ∀ _ : Nat → Value, bc (decide (n8 < ((a0_j_n : Nat) : Int))) (ix a0_j_A a0_j_n n8 2 (fun b9 a10 => 
    ldI σ5 .i64 b9 a10 (fun n11 => ix a1_j_A a1_j_n n8 2 (fun b12 a13 => ldI σ5 .i64 b12 a13 (fun n14 => 
    bc (!decide (n11 = n14)) (ix a0_j_A a0_j_n n8 2 (fun b15 a16 => ldI σ5 .i64 b15 a16 (fun n17 => ix a1_j_A a1_j_n n8 2 (fun b18 a19 => 
    ldI σ5 .i64 b18 a19 (fun n20 => rt σ5 R (.bool (decide (n17 < n20)))))))) (ix a0_j_A a0_j_n n8 2 (fun b21 a22 => 
    ldI σ5 .i64 b21 (a22 + 1) (fun n23 => ix a1_j_A a1_j_n n8 2 (fun b24 a25 => ldI σ5 .i64 b24 (a25 + 1) (fun n26 => 
    bc (!decide (n23 = n26)) (ix a0_j_A a0_j_n n8 2 (fun b27 a28 => ldI σ5 .i64 b27 (a28 + 1) (fun n29 => 
    ix a1_j_A a1_j_n n8 2 (fun b30 a31 => ldI σ5 .i64 b30 (a31 + 1) (fun n32 => rt σ5 R (.bool (decide (n29 < n32)))))))) (wk .i64 (n8 + 1) (fun n33 => 
    bk σ5 n7 (fun m34 σ35 => I6 m34 n33 σ35))))))))))))) (J3 σ5))))
def As : OA := ⟨[], false, []⟩
def E5 : MAn := (.seq (.plan [] (.take 0 As (.take 1 As (.take 2 As (.take 3 As (.take 4 As (.take 5 As (.take 6 As (.take 7 As (.take 8 As (.take 9 As (.take 10 As (.take 11 As (.take 12 As .done)))))))))))))) (.cond (.seq (.plan [] (.take 0 As (.take 1 As (.take 2 As (.take 3 As (.take 4 As (.take 5 As (.take 6 As (.take 7 As (.take 8 As (.take 9 As (.take 10 As (.take 11 As (.take 12 As (.take 13 As .done))))))))))))))) .leaf) .leaf))
def Ku : MAn := (.seq (.txt []) (.seq (.seq (.txt []) (.cond (.seq (.txt []) .leaf) .leaf)) (.seq (.seq (.txt []) (.cond (.seq (.txt []) .leaf) .leaf)) (.cut ⟨[true, true], 2, [], []⟩ (.seq (.txt []) (.block (.loop ⟨[true, true], 2, [.slot 2 (.hb 0 0), .slot 3 (.hb 1 0), .slot 5 (.sc (.int .i64))], []⟩ (.seq (.seq (.txt []) (.cond .leaf .leaf)) (.seq (.block (.seq E5 E5)) (.txt [])))))) (.seq (.txt []) .leaf)))))
set_option maxRecDepth 100000 in
theorem JT (σ : Hp) (a0_s_at : Int) (a0_s_since : Int) (a0_s_driven : Int) (a0_j_A : Option Addr) (a0_j_n : Nat) (a0_j_c : Nat) (a1_s_at : Int) (a1_s_since : Int) (a1_s_driven : Int) (a1_j_A : Option Addr) (a1_j_n : Nat) (a1_j_c : Nat) (R : Value → Hp → Prop) (h : EH σ a0_s_at a0_s_since a0_s_driven a0_j_A a0_j_n a0_j_c a1_s_at a1_s_since a1_s_driven a1_j_A a1_j_n a1_j_c R) : Ag Try.prog 88 #[(.agg #[(.int .i64 a0_s_at), (.int .i64 a0_s_since), (.int .i64 a0_s_driven), (.slice a0_j_A a0_j_n a0_j_c)]), (.agg #[(.int .i64 a1_s_at), (.int .i64 a1_s_since), (.int .i64 a1_s_driven), (.slice a1_j_A a1_j_n a1_j_c)])] σ R :=
  Ai BF Ku Try.func88 rfl (by kernel_rfl) (by kernel_rfl) (M := EH σ a0_s_at a0_s_since a0_s_driven a0_j_A a0_j_n a0_j_c a1_s_at a1_s_since a1_s_driven a1_j_A a1_j_n a1_j_c R) (by kernel_rfl) h
theorem DU : Aw Try.prog 88 = true := by kernel_rfl
abbrev Na : FuncId := 87
def Fq (σ : Hp) (a0_Parking_A : Option Addr) (a0_Parking_n : Nat) (a0_Parking_c : Nat) (a0_Roads_A : Option Addr) (a0_Roads_n : Nat) (a0_Roads_c : Nat) (a1_Height : Int) (a1_Weight : Int) (a1_From : Int) (a1_Ready : Int) (a1_Drive : Int) (a1_Rest : Int) (R : Value → Hp → Prop) : Prop :=
  cut (α := List (Int × Int × Int × (Option Addr × Nat × Nat)) → Hp → Prop) (fun xs4 σ2 => ∀ _ : Nat → Value, 
    exl 90 [.int .i64, .int .i64, .int .i64, .slc] xs4 σ2 (fun A5 l5 c5 σ6 => rt σ6 R (.slice A5 l5 c5))) (fun J3 => 
    ∃ I9 : Nat → Bool → List (Int × Int × Int × (Option Addr × Nat × Nat)) → Hp → Prop, (∃ n100, I9 n100 true ([(a1_From, a1_Ready, 0, (none, 0, 0))] : List (Int × Int × Int × (Option Addr × Nat × Nat))) σ) ∧ 
    ∀ n10 : Nat, ∀ t11 : Bool, ∀ xs12 : List (Int × Int × Int × (Option Addr × Nat × Nat)), ∀ σ8 : Hp, I9 n10 t11 xs12 σ8 → ∀ _ : Nat → Value, bc t11 (∃ I15 : Nat → Bool → Int → List (Int × Int × Int × (Option Addr × Nat × Nat)) → Hp → Prop, (∃ n160, I15 n160 false 0 xs12 σ8) ∧ 
    ∀ n16 : Nat, ∀ t17 : Bool, ∀ n18 : Int, ∀ xs19 : List (Int × Int × Int × (Option Addr × Nat × Nat)), ∀ σ14 : Hp, I15 n16 t17 n18 xs19 σ14 → ∀ _ : Nat → Value, bc (decide (n18 < ((List.length xs19 : Nat) : Int))) (cut (α := Bool → List (Int × Int × Int × (Option Addr × Nat × Nat)) → Hp → Prop) (fun t23 xs24 σ21 => 
    ∀ _ : Nat → Value, wk .i64 (n18 + 1) (fun n25 => bk σ21 n16 (fun m26 σ27 => I15 m26 t23 n25 xs24 σ27))) (fun J22 => 
    ∃ I30 : Nat → Bool → Int → List (Int × Int × Int × (Option Addr × Nat × Nat)) → Hp → Prop, (∃ n310, I30 n310 t17 0 xs19 σ14) ∧ 
    ∀ n31 : Nat, ∀ t32 : Bool, ∀ n33 : Int, ∀ xs34 : List (Int × Int × Int × (Option Addr × Nat × Nat)), ∀ σ29 : Hp, I30 n31 t32 n33 xs34 σ29 → ∀ _ : Nat → Value, bc (decide (n33 < ((a0_Roads_n : Nat) : Int))) (cut (α := Bool → List (Int × Int × Int × (Option Addr × Nat × Nat)) → Hp → Prop) (fun t38 xs39 σ36 => 
    ∀ _ : Nat → Value, wk .i64 (n33 + 1) (fun n40 => bk σ36 n31 (fun m41 σ42 => I30 m41 t38 n40 xs39 σ42))) (fun J37 => 
    ∃ I45 : Nat → Bool → Int → List (Int × Int × Int × (Option Addr × Nat × Nat)) → Hp → Prop, (∃ n460, I45 n460 t32 0 xs34 σ29) ∧ 
    ∀ n46 : Nat, ∀ t47 : Bool, ∀ n48 : Int, ∀ xs49 : List (Int × Int × Int × (Option Addr × Nat × Nat)), ∀ σ44 : Hp, I45 n46 t47 n48 xs49 σ44 → ∀ _ : Nat → Value, bc (decide (n48 < 2)) (cut (α := List (Int × Int × Int × (Option Addr × Nat × Nat)) → Bool → Hp → Prop) (fun xs53 t54 σ51 => 
    ∀ _ : Nat → Value, wk .i64 (n48 + 1) (fun n55 => bk σ51 n46 (fun m56 σ57 => I45 m56 t54 n55 xs53 σ57))) (fun J52 => 
    (0 ≤ n18 ∧ n18 < ((List.length xs49 : Nat) : Int) ∧ lat xs49 ((n18 : Int).toNat) (fun r58 => wk .i64 (n48 * a1_Rest) (fun n59 => 
    wk .i64 (r58.2.1 + n59) (fun n60 => cl Try.prog (.func (.func 65) #[] #[]) #[(.agg #[(.slice a0_Parking_A a0_Parking_n a0_Parking_c), (.slice a0_Roads_A a0_Roads_n a0_Roads_c)]), (.agg #[(.int .i64 a1_Height), (.int .i64 a1_Weight), (.int .i64 a1_From), (.int .i64 a1_Ready), (.int .i64 a1_Drive), (.int .i64 a1_Rest)]), (.agg #[(.int .i64 r58.1), (.int .i64 r58.2.1), (.int .i64 r58.2.2.1)]), (.agg #[(.int .i64 n33), (.int .i64 n60)])] σ44 (fun v61 σ62 => 
    ∃ n63 : Int, ∃ n64 : Int, ∃ n65 : Int, ∃ t66 : Bool, (v61 = (.tuple #[(.agg #[(.int .i64 n63), (.int .i64 n64), (.int .i64 n65)]), (.bool t66)]) ∧ 
    bc (!t66) (J52 xs49 t47 σ62) (cut (α := Option Addr → Hp → Prop) (fun p70 σ68 => ∀ _ : Nat → Value, 
    cut (α := Int → Hp → Prop) (fun n74 σ72 => ∀ _ : Nat → Value, bc (decide (n74 = ((List.length xs49 : Nat) : Int))) (dr p70 (fun b75 o76 => 
    ldI σ72 .i64 b75 o76 (fun n77 => ldI σ72 .i64 b75 (o76 + 1) (fun n78 => ldI σ72 .i64 b75 (o76 + 2) (fun n79 => 
    ldS σ72 b75 (o76 + 3) (fun A80 l80 c80 => AO (List.length xs49 + List.length ([(n77, n78, n79, (A80, l80, c80))] : List (Int × Int × Int × (Option Addr × Nat × Nat)))) (J52 (xs49 ++ ([(n77, n78, n79, (A80, l80, c80))] : List (Int × Int × Int × (Option Addr × Nat × Nat)))) true σ72))))))) (dr p70 (fun b81 o82 => 
    ldI σ72 .i64 b81 o82 (fun n83 => ldI σ72 .i64 b81 (o82 + 1) (fun n84 => ldI σ72 .i64 b81 (o82 + 2) (fun n85 => 
    ldS σ72 b81 (o82 + 3) (fun A86 l86 c86 => (0 ≤ n74 ∧ n74 < ((List.length xs49 : Nat) : Int) ∧ lat xs49 ((n74 : Int).toNat) (fun r87 => 
    cl Try.prog (.func (.func 88) #[] #[]) #[(.agg #[(.int .i64 n83), (.int .i64 n84), (.int .i64 n85), (.slice A86 l86 c86)]), (.agg #[(.int .i64 r87.1), (.int .i64 r87.2.1), (.int .i64 r87.2.2.1), (.slice r87.2.2.2.1 r87.2.2.2.2.1 r87.2.2.2.2.2)])] σ72 (fun v88 σ89 => 
    ∃ t90 : Bool, (v88 = (.bool t90) ∧ bc t90 (dr p70 (fun b91 o92 => ldI σ89 .i64 b91 o92 (fun n93 => ldI σ89 .i64 b91 (o92 + 1) (fun n94 => 
    ldI σ89 .i64 b91 (o92 + 2) (fun n95 => ldS σ89 b91 (o92 + 3) (fun A96 l96 c96 => (0 ≤ n74 ∧ n74 < ((List.length xs49 : Nat) : Int) ∧ 
    lat xs49 ((n74 : Int).toNat) (fun _ => J52 (List.set xs49 ((n74 : Int).toNat) (n93, n94, n95, (A96, l96, c96))) true σ89)))))))) (J52 xs49 t47 σ89)))))))))))) (fun J73 => 
    ∃ I100 : Nat → Int → Hp → Prop, (∃ n1010, I100 n1010 0 σ68) ∧ ∀ n101 : Nat, ∀ n102 : Int, ∀ σ99 : Hp, I100 n101 n102 σ99 → ∀ _ : Nat → Value, cut (α := Hp → Prop) (fun  σ104 => 
    ∀ _ : Nat → Value, wk .i64 (n102 + 1) (fun n106 => bk σ104 n101 (fun m107 σ108 => I100 m107 n106 σ108))) (fun J105 => 
    cut (α := Bool → Hp → Prop) (fun t112 σ110 => ∀ _ : Nat → Value, bc t112 (J105 σ110) (J73 n102 σ110)) (fun J111 => 
    bc (decide (n102 < ((List.length xs49 : Nat) : Int))) ((0 ≤ n102 ∧ n102 < ((List.length xs49 : Nat) : Int) ∧ 
    lat xs49 ((n102 : Int).toNat) (fun r113 => bc (!decide (r113.1 = n63)) (J111 true σ99) ((0 ≤ n102 ∧ n102 < ((List.length xs49 : Nat) : Int) ∧ 
    lat xs49 ((n102 : Int).toNat) (fun r114 => J111 (!decide (r114.2.2.1 = n65)) σ99)))))) (J111 false σ99))))) (fun J69 => 
    (((∃ ys115 : List (Int × Int), RdS [.int .i64, .int .i64] σ62 r58.2.2.2.1 r58.2.2.2.2.1 ys115 ∧ AO (List.length ([] : List (Int × Int)) + List.length ys115) (AO (List.length (([] : List (Int × Int)) ++ ys115) + List.length ([(n33, n60)] : List (Int × Int))) (exl 60 [.int .i64, .int .i64] ((([] : List (Int × Int)) ++ ys115) ++ ([(n33, n60)] : List (Int × Int))) σ62 (fun A116 l116 c116 σ117 => 
    bx σ117 (.cells #[(.int .i64 n63), (.int .i64 n64), (.int .i64 n65), (.slice A116 l116 c116)] 90) (fun b118 σ119 => 
    J69 (some ⟨b118, 0, none⟩) σ119))))) ∧ (∃ ys120 : List (Int × Int), RdS [.int .i64, .int .i64] σ62 r58.2.2.2.1 r58.2.2.2.2.1 ys120 ∧ 
    AO (List.length ([] : List (Int × Int)) + List.length ys120) (AO (List.length (([] : List (Int × Int)) ++ ys120) + List.length ([(n33, n60)] : List (Int × Int))) (exl 60 [.int .i64, .int .i64] ((([] : List (Int × Int)) ++ ys120) ++ ([(n33, n60)] : List (Int × Int))) σ62 (fun A121 l121 c121 σ122 => 
    bx σ122 (.cells #[(.int .i64 n63), (.int .i64 n64), (.int .i64 n65), (.slice A121 l121 c121)] 90) (fun b123 σ124 => 
    J69 (some ⟨b123, 0, none⟩) σ124)))))) ∧ (∃ ys125 : List (Int × Int), RdS [.int .i64, .int .i64] σ62 r58.2.2.2.1 r58.2.2.2.2.1 ys125 ∧ 
    AO (List.length ([] : List (Int × Int)) + List.length ys125) (((AO (List.length (([] : List (Int × Int)) ++ ys125) + List.length ([(n33, n60)] : List (Int × Int))) (exl 60 [.int .i64, .int .i64] ((([] : List (Int × Int)) ++ ys125) ++ ([(n33, n60)] : List (Int × Int))) σ62 (fun A126 l126 c126 σ127 => 
    bx σ127 (.cells #[(.int .i64 n63), (.int .i64 n64), (.int .i64 n65), (.slice A126 l126 c126)] 90) (fun b128 σ129 => 
    J69 (some ⟨b128, 0, none⟩) σ129)))) ∧ (AO (List.length (([] : List (Int × Int)) ++ ys125) + List.length ([(n33, n60)] : List (Int × Int))) (exl 60 [.int .i64, .int .i64] ((([] : List (Int × Int)) ++ ys125) ++ ([(n33, n60)] : List (Int × Int))) σ62 (fun A130 l130 c130 σ131 => 
    bx σ131 (.cells #[(.int .i64 n63), (.int .i64 n64), (.int .i64 n65), (.slice A130 l130 c130)] 90) (fun b132 σ133 => 
    J69 (some ⟨b132, 0, none⟩) σ133))))))) ∧ ((∃ ys134 : List (Int × Int), RdS [.int .i64, .int .i64] σ62 r58.2.2.2.1 r58.2.2.2.2.1 ys134 ∧ 
    AO (List.length ([] : List (Int × Int)) + List.length ys134) (AO (List.length (([] : List (Int × Int)) ++ ys134) + List.length ([(n33, n60)] : List (Int × Int))) (exl 60 [.int .i64, .int .i64] ((([] : List (Int × Int)) ++ ys134) ++ ([(n33, n60)] : List (Int × Int))) σ62 (fun A135 l135 c135 σ136 => 
    bx σ136 (.cells #[(.int .i64 n63), (.int .i64 n64), (.int .i64 n65), (.slice A135 l135 c135)] 90) (fun b137 σ138 => 
    J69 (some ⟨b137, 0, none⟩) σ138))))) ∧ (∃ ys139 : List (Int × Int), RdS [.int .i64, .int .i64] σ62 r58.2.2.2.1 r58.2.2.2.2.1 ys139 ∧ 
    AO (List.length ([] : List (Int × Int)) + List.length ys139) (((AO (List.length (([] : List (Int × Int)) ++ ys139) + List.length ([(n33, n60)] : List (Int × Int))) (exl 60 [.int .i64, .int .i64] ((([] : List (Int × Int)) ++ ys139) ++ ([(n33, n60)] : List (Int × Int))) σ62 (fun A140 l140 c140 σ141 => 
    bx σ141 (.cells #[(.int .i64 n63), (.int .i64 n64), (.int .i64 n65), (.slice A140 l140 c140)] 90) (fun b142 σ143 => 
    J69 (some ⟨b142, 0, none⟩) σ143)))) ∧ (AO (List.length (([] : List (Int × Int)) ++ ys139) + List.length ([(n33, n60)] : List (Int × Int))) (exl 60 [.int .i64, .int .i64] ((([] : List (Int × Int)) ++ ys139) ++ ([(n33, n60)] : List (Int × Int))) σ62 (fun A144 l144 c144 σ145 => 
    bx σ145 (.cells #[(.int .i64 n63), (.int .i64 n64), (.int .i64 n65), (.slice A144 l144 c144)] 90) (fun b146 σ147 => 
    J69 (some ⟨b146, 0, none⟩) σ147))))))))))))))))))) (J37 t47 xs49 σ44))) (J22 t32 xs34 σ29))) (bk σ14 n10 (fun m148 σ149 => 
    I9 m148 t17 xs19 σ149))) (J3 xs12 σ8))
def Ae : OA := ⟨[], false, []⟩
def CA : MPlan := (.alt 7 false Ae (.take 8 Ae (.alt 10 false Ae .done .done)) .done)
def FL : MPlan := (.alt 0 true Ae CA (.alt 7 false Ae (.take 0 Ae (.take 8 Ae (.alt 10 false Ae .done .done))) .done))
def KD : MAn := (.seq (.txt []) (.seq (.txt []) (.cut ⟨[true, true, false], 3, [.slot 5 (.hl 2 0), .modl 2 0 90 [.int .i64, .int .i64, .int .i64, .slc]], []⟩ (.seq (.txt []) (.block (.loop ⟨[true, true, false], 3, [.slot 2 (.hb 0 0), .slot 3 (.hb 1 0), .slot 5 (.hl 2 0), .slot 6 (.sc (.bool)), .modl 2 0 90 [.int .i64, .int .i64, .int .i64, .slc]], []⟩ (.seq (.seq (.txt []) (.cond .leaf .leaf)) (.block (.seq (.txt []) (.seq (.txt []) (.block (.loop ⟨[true, true, false], 3, [.slot 2 (.hb 0 0), .slot 3 (.hb 1 0), .slot 5 (.hl 2 0), .slot 6 (.sc (.bool)), .slot 7 (.sc (.int .i64)), .modl 2 0 90 [.int .i64, .int .i64, .int .i64, .slc]], []⟩ (.seq (.seq (.txt []) (.cond .leaf .leaf)) (.cut ⟨[true, true, false], 3, [.slot 2 (.hb 0 0), .slot 3 (.hb 1 0), .slot 5 (.hl 2 0), .slot 6 (.sc (.bool)), .modl 2 0 90 [.int .i64, .int .i64, .int .i64, .slc]], [(7, true)]⟩ (.block (.seq (.txt []) (.block (.loop ⟨[true, true, false], 3, [.slot 2 (.hb 0 0), .slot 3 (.hb 1 0), .slot 5 (.hl 2 0), .slot 6 (.sc (.bool)), .slot 8 (.sc (.int .i64)), .modl 2 0 90 [.int .i64, .int .i64, .int .i64, .slc]], [(7, true)]⟩ (.seq (.seq (.txt []) (.cond .leaf .leaf)) (.cut ⟨[true, true, false], 3, [.slot 2 (.hb 0 0), .slot 3 (.hb 1 0), .slot 5 (.hl 2 0), .slot 6 (.sc (.bool)), .modl 2 0 90 [.int .i64, .int .i64, .int .i64, .slc]], [(7, true), (8, true)]⟩ (.block (.seq (.txt []) (.block (.loop ⟨[true, true, false], 3, [.slot 2 (.hb 0 0), .slot 3 (.hb 1 0), .slot 5 (.hl 2 0), .slot 6 (.sc (.bool)), .slot 9 (.sc (.int .i64)), .modl 2 0 90 [.int .i64, .int .i64, .int .i64, .slc]], [(7, true), (8, true)]⟩ (.seq (.seq (.txt []) (.cond .leaf .leaf)) (.cut ⟨[true, true, false], 3, [.slot 2 (.hb 0 0), .slot 3 (.hb 1 0), .slot 5 (.lst 2 90 [.int .i64, .int .i64, .int .i64, .slc]), .slot 6 (.sc (.bool))], [(7, true), (8, true), (9, true)]⟩ (.block (.seq (.txt []) (.seq (.txt []) (.seq (.txt []) (.seq (.seq (.txt []) (.cond .leaf .leaf)) (.cut ⟨[true, true, true, true, true, true], 6, [.slot 2 (.hb 0 0), .slot 3 (.hb 1 0), .slot 5 (.hl 2 0), .slot 12 (.hb 5 0), .slot 14 (.sc (.ptr))], [(6, true), (7, true), (8, true), (9, true)]⟩ (.plan [4, 7, 10] (.take 2 Ae (.take 3 Ae (.new 1 Ae (.new 9 Ae (.alt 0 true Ae (.alt 4 false Ae (.take 5 Ae (.alt 6 true Ae CA .done)) (.alt 5 true Ae (.new 6 Ae (.alt 4 false Ae CA .done)) .done)) (.alt 4 false Ae (.take 5 Ae (.new 6 Ae FL)) (.alt 5 true Ae (.new 6 Ae (.alt 0 true Ae (.alt 4 false Ae CA .done) (.alt 4 false Ae FL .done))) .done)))))))) (.seq (.txt []) (.cut ⟨[true, true, true, true, true, true], 6, [.slot 2 (.hb 0 0), .slot 3 (.hb 1 0), .slot 5 (.hl 2 0), .slot 15 (.sc (.int .i64))], [(6, true), (7, true), (8, true), (9, true), (14, true)]⟩ (.block (.loop ⟨[true, true, true, true, true, true], 6, [.slot 2 (.hb 0 0), .slot 3 (.hb 1 0), .slot 5 (.hl 2 0), .slot 12 (.hb 5 0), .slot 15 (.sc (.int .i64))], [(6, true), (7, true), (8, true), (9, true), (14, true)]⟩ (.cut ⟨[true, true, true, true, true, true], 6, [.slot 2 (.hb 0 0), .slot 3 (.hb 1 0), .slot 5 (.hl 2 0), .slot 12 (.hb 5 0)], [(6, true), (7, true), (8, true), (9, true), (14, true), (15, true)]⟩ (.cut ⟨[true, true, true, true, true, true], 6, [.slot 2 (.hb 0 0), .slot 3 (.hb 1 0), .slot 5 (.hl 2 0), .slot 12 (.hb 5 0), .slot 100 (.sc (.bool))], [(6, true), (7, true), (8, true), (9, true), (14, true), (15, true)]⟩ (.plan [] (.take 0 Ae (.take 1 Ae (.take 2 Ae (.take 3 Ae (.take 4 ⟨[], true, []⟩ (.take 5 Ae (.take 6 Ae (.take 7 Ae (.take 8 Ae (.take 9 Ae (.take 10 Ae (.take 11 Ae (.take 12 Ae (.take 13 Ae (.take 14 ⟨[], true, []⟩ (.take 15 Ae (.take 16 Ae (.take 17 Ae (.take 18 Ae (.take 19 Ae (.take 20 Ae (.take 21 Ae (.take 22 Ae (.take 23 Ae (.take 24 Ae (.take 25 Ae .done))))))))))))))))))))))))))) (.cond .leaf .leaf)) (.block (.txt []))))) (.seq (.txt []) (.cond (.seq (.txt []) (.txt [])) (.seq (.plan [5] (.take 0 Ae (.take 1 Ae (.take 2 Ae (.take 3 Ae (.take 4 Ae (.alt 5 false Ae .done .done))))))) (.cond (.seq (.txt []) (.txt [])) .leaf)))))))))))) (.txt []))))))) (.txt []))))))) (.txt [])))))))))))) (.seq (.txt []) .leaf))))
set_option maxRecDepth 100000 in
theorem KL (σ : Hp) (a0_Parking_A : Option Addr) (a0_Parking_n : Nat) (a0_Parking_c : Nat) (a0_Roads_A : Option Addr) (a0_Roads_n : Nat) (a0_Roads_c : Nat) (a1_Height : Int) (a1_Weight : Int) (a1_From : Int) (a1_Ready : Int) (a1_Drive : Int) (a1_Rest : Int) (R : Value → Hp → Prop) (h : Fq σ a0_Parking_A a0_Parking_n a0_Parking_c a0_Roads_A a0_Roads_n a0_Roads_c a1_Height a1_Weight a1_From a1_Ready a1_Drive a1_Rest R) : Ag Try.prog 87 #[(.agg #[(.slice a0_Parking_A a0_Parking_n a0_Parking_c), (.slice a0_Roads_A a0_Roads_n a0_Roads_c)]), (.agg #[(.int .i64 a1_Height), (.int .i64 a1_Weight), (.int .i64 a1_From), (.int .i64 a1_Ready), (.int .i64 a1_Drive), (.int .i64 a1_Rest)])] σ R :=
  Ai BF KD Try.func87 rfl (by kernel_rfl) (by kernel_rfl) (M := Fq σ a0_Parking_A a0_Parking_n a0_Parking_c a0_Roads_A a0_Roads_n a0_Roads_c a1_Height a1_Weight a1_From a1_Ready a1_Drive a1_Rest R) (by kernel_rfl) h
theorem Iv : Aw Try.prog 87 = true := by kernel_rfl
abbrev Nl : FuncId := 53
def FC (σ : Hp) (m_Parking_A : Option Addr) (m_Parking_n : Nat) (m_Parking_c : Nat) (m_Roads_A : Option Addr) (m_Roads_n : Nat) (m_Roads_c : Nat) (l_Height : Int) (l_Weight : Int) (l_From : Int) (l_Ready : Int) (l_Drive : Int) (l_Rest : Int) (to : Int) (R : Value → Hp → Prop) : Prop :=
  cl Try.prog (.func (.func 87) #[] #[]) #[(.agg #[(.slice m_Parking_A m_Parking_n m_Parking_c), (.slice m_Roads_A m_Roads_n m_Roads_c)]), (.agg #[(.int .i64 l_Height), (.int .i64 l_Weight), (.int .i64 l_From), (.int .i64 l_Ready), (.int .i64 l_Drive), (.int .i64 l_Rest)])] σ (fun v1 σ2 => 
    ∃ A3 : Option Addr, ∃ l3 : Nat, ∃ c3 : Nat, (v1 = (.slice A3 l3 c3) ∧ cut (α := Int → Hp → Prop) (fun n7 σ5 => 
    ∀ _ : Nat → Value, bc (decide (n7 < 0)) (rt σ5 R (.tuple #[(.agg #[(.int .i64 0), (.int .i64 0), (.int .i64 0), (.slice none 0 0)]), (.bool false)])) (ix A3 l3 n7 4 (fun b8 a9 => 
    ldI σ5 .i64 b8 a9 (fun n10 => ldI σ5 .i64 b8 (a9 + 1) (fun n11 => ldI σ5 .i64 b8 (a9 + 2) (fun n12 => 
    ldS σ5 b8 (a9 + 3) (fun A13 l13 c13 => rt σ5 R (.tuple #[(.agg #[(.int .i64 n10), (.int .i64 n11), (.int .i64 n12), (.slice A13 l13 c13)]), (.bool true)])))))))) (fun J6 => 
    ∃ I16 : Nat → Int → Int → Hp → Prop, (∃ n170, I16 n170 (-1) 0 σ2) ∧ ∀ n17 : Nat, ∀ n18 : Int, ∀ n19 : Int, ∀ σ15 : Hp, I16 n17 n18 n19 σ15 → ∀ _ : Nat → Value, bc (decide (n19 < ((l3 : Nat) : Int))) (cut (α := Int → Hp → Prop) (fun n23 σ21 => 
    ∀ _ : Nat → Value, wk .i64 (n19 + 1) (fun n24 => bk σ21 n17 (fun m25 σ26 => I16 m25 n23 n24 σ26))) (fun J22 => 
    cut (α := Bool → Hp → Prop) (fun t30 σ28 => ∀ _ : Nat → Value, bc t30 (J22 n19 σ28) (J22 n18 σ28)) (fun J29 => 
    ix A3 l3 n19 4 (fun b31 a32 => ldI σ15 .i64 b31 a32 (fun n33 => bc (decide (n33 = to)) (bc (decide (n18 < 0)) (J29 true σ15) (ix A3 l3 n19 4 (fun b34 a35 => 
    ldI σ15 .i64 b34 a35 (fun n36 => ldI σ15 .i64 b34 (a35 + 1) (fun n37 => ldI σ15 .i64 b34 (a35 + 2) (fun n38 => 
    ldS σ15 b34 (a35 + 3) (fun A39 l39 c39 => ix A3 l3 n18 4 (fun b40 a41 => ldI σ15 .i64 b40 a41 (fun n42 => 
    ldI σ15 .i64 b40 (a41 + 1) (fun n43 => ldI σ15 .i64 b40 (a41 + 2) (fun n44 => ldS σ15 b40 (a41 + 3) (fun A45 l45 c45 => 
    cl Try.prog (.func (.func 88) #[] #[]) #[(.agg #[(.int .i64 n36), (.int .i64 n37), (.int .i64 n38), (.slice A39 l39 c39)]), (.agg #[(.int .i64 n42), (.int .i64 n43), (.int .i64 n44), (.slice A45 l45 c45)])] σ15 (fun v46 σ47 => 
    ∃ t48 : Bool, (v46 = (.bool t48) ∧ J29 t48 σ47)))))))))))))) (J29 false σ15)))))) (J6 n18 σ15))))
def Az : OA := ⟨[], false, []⟩
def K8 : MAn := (.seq (.txt []) (.seq (.txt []) (.seq (.txt []) (.cut ⟨[true, true, true], 3, [.slot 6 (.hb 2 0), .slot 9 (.sc (.int .i64))], [(8, true)]⟩ (.seq (.txt []) (.block (.loop ⟨[true, true, true], 3, [.slot 6 (.hb 2 0), .slot 9 (.sc (.int .i64)), .slot 10 (.sc (.int .i64))], [(2, true), (8, true)]⟩ (.seq (.seq (.txt []) (.cond .leaf .leaf)) (.cut ⟨[true, true, true], 3, [.slot 6 (.hb 2 0), .slot 9 (.sc (.int .i64))], [(2, true), (8, true), (10, true)]⟩ (.block (.cut ⟨[true, true, true], 3, [.slot 6 (.hb 2 0), .slot 42 (.sc (.bool))], [(2, true), (8, true), (9, true), (10, true)]⟩ (.plan [20] (.take 0 Az (.take 1 Az (.take 2 Az (.take 3 Az (.take 4 Az (.take 5 Az (.take 6 Az (.take 7 Az (.take 8 ⟨[], true, []⟩ (.take 9 Az (.take 10 Az (.take 11 ⟨[], true, []⟩ (.take 12 Az (.take 13 Az (.take 14 Az (.take 15 Az (.take 16 Az (.take 17 Az (.take 18 Az (.take 19 Az (.alt 20 false Az (.take 21 Az (.take 22 Az .done)) .done)))))))))))))))))))))) (.cond (.txt []) .leaf))) (.txt [])))))) (.seq (.seq (.txt []) (.cond (.seq (.txt []) .leaf) .leaf)) (.seq (.txt []) .leaf))))))
set_option maxRecDepth 100000 in
theorem KV (σ : Hp) (m_Parking_A : Option Addr) (m_Parking_n : Nat) (m_Parking_c : Nat) (m_Roads_A : Option Addr) (m_Roads_n : Nat) (m_Roads_c : Nat) (l_Height : Int) (l_Weight : Int) (l_From : Int) (l_Ready : Int) (l_Drive : Int) (l_Rest : Int) (to : Int) (R : Value → Hp → Prop) (h : FC σ m_Parking_A m_Parking_n m_Parking_c m_Roads_A m_Roads_n m_Roads_c l_Height l_Weight l_From l_Ready l_Drive l_Rest to R) : Ag Try.prog 53 #[(.agg #[(.slice m_Parking_A m_Parking_n m_Parking_c), (.slice m_Roads_A m_Roads_n m_Roads_c)]), (.agg #[(.int .i64 l_Height), (.int .i64 l_Weight), (.int .i64 l_From), (.int .i64 l_Ready), (.int .i64 l_Drive), (.int .i64 l_Rest)]), (.int .i64 to)] σ R :=
  Ai BF K8 Try.func53 rfl (by kernel_rfl) (by kernel_rfl) (M := FC σ m_Parking_A m_Parking_n m_Parking_c m_Roads_A m_Roads_n m_Roads_c l_Height l_Weight l_From l_Ready l_Drive l_Rest to R) (by kernel_rfl) h
theorem Ea : Aw Try.prog 53 = true := by kernel_rfl
abbrev Ip : FuncId := 66
def CK (σ : Hp) (m_Parking_A : Option Addr) (m_Parking_n : Nat) (m_Parking_c : Nat) (m_Roads_A : Option Addr) (m_Roads_n : Nat) (m_Roads_c : Nat) (l_A : Option Addr) (l_n : Nat) (_ : Nat) (to : Int) (gap : Int) (R : Value → Hp → Prop) : Prop :=
  cl Try.prog (.func (.func 62) #[] #[]) #[(.agg #[(.slice m_Parking_A m_Parking_n m_Parking_c), (.slice m_Roads_A m_Roads_n m_Roads_c)])] σ (fun v1 σ2 => 
    ∃ n3 : Int, (v1 = (.int .i64 n3) ∧ bc (!decide (n3 = 0)) (rt σ2 R (.int .i64 n3)) (bc (decide ((8 : Int) < ((l_n : Nat) : Int))) (rt σ2 R (.int .i64 2)) (cut (α := Hp → Prop) (fun  σ5 => 
    ∀ _ : Nat → Value, cut (α := Hp → Prop) (fun  σ8 => ∀ _ : Nat → Value, rt σ8 R (.int .i64 0)) (fun J9 => 
    cut (α := Bool → Hp → Prop) (fun t13 σ11 => ∀ _ : Nat → Value, bc t13 (rt σ11 R (.int .i64 1)) (J9 σ11)) (fun J12 => 
    cl Try.prog (.func (.func 86) #[] #[]) #[(.agg #[(.slice m_Parking_A m_Parking_n m_Parking_c), (.slice m_Roads_A m_Roads_n m_Roads_c)]), (.int .i64 to)] σ5 (fun v14 σ15 => 
    ∃ t16 : Bool, (v14 = (.bool t16) ∧ bc (!t16) (J12 true σ15) (cl Try.prog (.func (.func 60) #[] #[]) #[(.int .i64 gap), (.int .i64 0), (.int .i64 100)] σ15 (fun v17 σ18 => 
    ∃ t19 : Bool, (v17 = (.bool t19) ∧ J12 (!t19) σ18)))))))) (fun J6 => ∃ I22 : Nat → Int → Hp → Prop, (∃ n230, I22 n230 0 σ2) ∧ 
    ∀ n23 : Nat, ∀ n24 : Int, ∀ σ21 : Hp, I22 n23 n24 σ21 → ∀ _ : Nat → Value, bc (decide (n24 < ((l_n : Nat) : Int))) (ix l_A l_n n24 6 (fun b25 a26 => 
    ldI σ21 .i64 b25 a26 (fun n27 => ldI σ21 .i64 b25 (a26 + 1) (fun n28 => ldI σ21 .i64 b25 (a26 + 2) (fun n29 => 
    ldI σ21 .i64 b25 (a26 + 3) (fun n30 => ldI σ21 .i64 b25 (a26 + 4) (fun n31 => ldI σ21 .i64 b25 (a26 + 5) (fun n32 => 
    cl Try.prog (.func (.func 63) #[] #[]) #[(.agg #[(.slice m_Parking_A m_Parking_n m_Parking_c), (.slice m_Roads_A m_Roads_n m_Roads_c)]), (.agg #[(.int .i64 n27), (.int .i64 n28), (.int .i64 n29), (.int .i64 n30), (.int .i64 n31), (.int .i64 n32)])] σ21 (fun v33 σ34 => 
    ∃ n35 : Int, (v33 = (.int .i64 n35) ∧ bc (!decide (n35 = 0)) (rt σ34 R (.int .i64 n35)) (wk .i64 (n24 + 1) (fun n36 => 
    bk σ34 n23 (fun m37 σ38 => I22 m37 n36 σ38))))))))))))) (J6 σ21))))))
def AE : OA := ⟨[], false, []⟩
def GA : MAn := (.seq (.txt []) (.seq (.txt []) (.seq (.seq (.txt []) (.cond (.seq (.txt []) .leaf) .leaf)) (.seq (.seq (.txt []) (.cond (.seq (.txt []) .leaf) .leaf)) (.cut ⟨[true], 1, [.slot 4 (.hb 0 0)], [(2, true), (3, true)]⟩ (.seq (.txt []) (.block (.loop ⟨[true], 1, [.slot 4 (.hb 0 0), .slot 10 (.sc (.int .i64))], [(1, true), (2, true), (3, true)]⟩ (.seq (.seq (.txt []) (.cond .leaf .leaf)) (.seq (.block (.seq (.plan [5] (.take 0 AE (.take 1 AE (.take 2 AE (.take 3 AE (.take 4 AE (.alt 5 false AE (.take 6 AE .done) .done))))))) (.seq (.txt []) (.cond (.seq (.txt []) .leaf) .leaf)))) (.txt [])))))) (.cut ⟨[true], 1, [], []⟩ (.cut ⟨[true], 1, [.slot 43 (.sc (.bool))], []⟩ (.txt [AE, AE, AE, AE, ⟨[], true, []⟩]) (.cond (.seq (.txt []) .leaf) .leaf)) (.seq (.txt []) .leaf)))))))
set_option maxRecDepth 100000 in
theorem GB (σ : Hp) (m_Parking_A : Option Addr) (m_Parking_n : Nat) (m_Parking_c : Nat) (m_Roads_A : Option Addr) (m_Roads_n : Nat) (m_Roads_c : Nat) (l_A : Option Addr) (l_n : Nat) (l_c : Nat) (to : Int) (gap : Int) (R : Value → Hp → Prop) (h : CK σ m_Parking_A m_Parking_n m_Parking_c m_Roads_A m_Roads_n m_Roads_c l_A l_n l_c to gap R) : Ag Try.prog 66 #[(.agg #[(.slice m_Parking_A m_Parking_n m_Parking_c), (.slice m_Roads_A m_Roads_n m_Roads_c)]), (.slice l_A l_n l_c), (.int .i64 to), (.int .i64 gap)] σ R :=
  Ai BF GA Try.func66 rfl (by kernel_rfl) (by kernel_rfl) (M := CK σ m_Parking_A m_Parking_n m_Parking_c m_Roads_A m_Roads_n m_Roads_c l_A l_n l_c to gap R) (by kernel_rfl) h
theorem E3 : Aw Try.prog 66 = true := by kernel_rfl
abbrev LJ : FuncId := 70
def D7 (σ : Hp) (m_Parking_A : Option Addr) (m_Parking_n : Nat) (m_Parking_c : Nat) (m_Roads_A : Option Addr) (m_Roads_n : Nat) (m_Roads_c : Nat) (l_A : Option Addr) (l_n : Nat) (_ : Nat) (to : Int) (R : Value → Hp → Prop) : Prop :=
  cut (α := List Int → Hp → Prop) (fun xs4 σ2 => ∀ _ : Nat → Value, exl 3 [.int .i64] xs4 σ2 (fun A5 l5 c5 σ6 => 
    rt σ6 R (.tuple #[(.slice A5 l5 c5), (.bool true)]))) (fun J3 => ∃ I9 : Nat → List Int → Int → Hp → Prop, (∃ n100, adp 3 [.int .i64] none 0 0 σ (fun (xs11 : List Int) σ12 => 
    I9 n100 xs11 0 σ12)) ∧ ∀ n10 : Nat, ∀ xs13 : List Int, ∀ n14 : Int, ∀ σ8 : Hp, I9 n10 xs13 n14 σ8 → ∀ _ : Nat → Value, bc (decide (n14 < ((l_n : Nat) : Int))) (cut (α := Option Addr → Bool → Hp → Prop) (fun p18 t19 σ16 => 
    ∀ _ : Nat → Value, bc (!t19) (rt σ16 R (.tuple #[(.slice none 0 0), (.bool false)])) (dr p18 (fun b20 o21 => 
    ldI σ16 .i64 b20 (o21 + 1) (fun n22 => AO (List.length xs13 + List.length ([n22] : List Int)) (wk .i64 (n14 + 1) (fun n23 => 
    bk σ16 n10 (fun m24 σ25 => I9 m24 (xs13 ++ ([n22] : List Int)) n23 σ25))))))) (fun J17 => ix l_A l_n n14 6 (fun b26 a27 => 
    ldI σ8 .i64 b26 a27 (fun n28 => ldI σ8 .i64 b26 (a27 + 1) (fun n29 => ldI σ8 .i64 b26 (a27 + 2) (fun n30 => 
    ldI σ8 .i64 b26 (a27 + 3) (fun n31 => ldI σ8 .i64 b26 (a27 + 4) (fun n32 => ldI σ8 .i64 b26 (a27 + 5) (fun n33 => 
    ((cl Try.prog (.func (.func 53) #[] #[]) #[(.agg #[(.slice m_Parking_A m_Parking_n m_Parking_c), (.slice m_Roads_A m_Roads_n m_Roads_c)]), (.agg #[(.int .i64 n28), (.int .i64 n29), (.int .i64 n30), (.int .i64 n31), (.int .i64 n32), (.int .i64 n33)]), (.int .i64 to)] σ8 (fun v34 σ35 => 
    ∃ n36 : Int, ∃ n37 : Int, ∃ n38 : Int, ∃ A39 : Option Addr, ∃ l39 : Nat, ∃ c39 : Nat, ∃ t40 : Bool, (v34 = (.tuple #[(.agg #[(.int .i64 n36), (.int .i64 n37), (.int .i64 n38), (.slice A39 l39 c39)]), (.bool t40)]) ∧ 
    bx σ35 (.cells #[(.int .i64 n36), (.int .i64 n37), (.int .i64 n38), (.slice A39 l39 c39)] 90) (fun b41 σ42 => 
    J17 (some ⟨b41, 0, none⟩) t40 σ42)))) ∧ (cl Try.prog (.func (.func 53) #[] #[]) #[(.agg #[(.slice m_Parking_A m_Parking_n m_Parking_c), (.slice m_Roads_A m_Roads_n m_Roads_c)]), (.agg #[(.int .i64 n28), (.int .i64 n29), (.int .i64 n30), (.int .i64 n31), (.int .i64 n32), (.int .i64 n33)]), (.int .i64 to)] σ8 (fun v43 σ44 => 
    ∃ n45 : Int, ∃ n46 : Int, ∃ n47 : Int, ∃ A48 : Option Addr, ∃ l48 : Nat, ∃ c48 : Nat, ∃ t49 : Bool, (v43 = (.tuple #[(.agg #[(.int .i64 n45), (.int .i64 n46), (.int .i64 n47), (.slice A48 l48 c48)]), (.bool t49)]) ∧ 
    bx σ44 (.cells #[(.int .i64 n45), (.int .i64 n46), (.int .i64 n47), (.slice A48 l48 c48)] 90) (fun b50 σ51 => 
    J17 (some ⟨b50, 0, none⟩) t49 σ51)))))))))))))) (J3 xs13 σ8))
def Ay : OA := ⟨[], false, []⟩
def Jl : MAn := (.seq (.txt []) (.seq (.txt []) (.cut ⟨[true], 2, [.slot 8 (.lst 1 3 [.int .i64])], []⟩ (.seq (.txt []) (.block (.loop ⟨[true], 2, [.slot 3 (.hb 0 0), .slot 8 (.lst 1 3 [.int .i64]), .slot 9 (.sc (.int .i64))], [(1, true), (2, true)]⟩ (.seq (.seq (.txt []) (.cond .leaf .leaf)) (.seq (.block (.cut ⟨[true, true], 2, [.slot 3 (.hb 0 0), .slot 8 (.hl 1 0), .slot 10 (.sc (.ptr)), .slot 11 (.sc (.bool))], [(1, true), (2, true), (9, true)]⟩ (.plan [11, 6] (.take 0 Ay (.take 1 Ay (.take 2 Ay (.take 3 Ay (.take 4 Ay (.take 5 Ay (.alt 6 false Ay (.take 7 Ay (.take 8 Ay (.take 9 Ay (.alt 10 true Ay (.alt 11 false Ay (.take 12 Ay .done) .done) .done)))) (.alt 10 true Ay (.alt 6 false Ay (.take 7 Ay (.take 8 Ay (.take 9 Ay (.alt 11 false Ay (.take 12 Ay .done) .done)))) .done) .done))))))))) (.seq (.seq (.txt []) (.cond (.seq (.txt []) .leaf) .leaf)) (.txt [])))) (.txt [])))))) (.seq (.txt []) .leaf))))
set_option maxRecDepth 100000 in
theorem I1 (σ : Hp) (m_Parking_A : Option Addr) (m_Parking_n : Nat) (m_Parking_c : Nat) (m_Roads_A : Option Addr) (m_Roads_n : Nat) (m_Roads_c : Nat) (l_A : Option Addr) (l_n : Nat) (l_c : Nat) (to : Int) (R : Value → Hp → Prop) (h : D7 σ m_Parking_A m_Parking_n m_Parking_c m_Roads_A m_Roads_n m_Roads_c l_A l_n l_c to R) : Ag Try.prog 70 #[(.agg #[(.slice m_Parking_A m_Parking_n m_Parking_c), (.slice m_Roads_A m_Roads_n m_Roads_c)]), (.slice l_A l_n l_c), (.int .i64 to)] σ R :=
  Ai BF Jl Try.func70 rfl (by kernel_rfl) (by kernel_rfl) (M := D7 σ m_Parking_A m_Parking_n m_Parking_c m_Roads_A m_Roads_n m_Roads_c l_A l_n l_c to R) (by kernel_rfl) h
theorem Hc : Aw Try.prog 70 = true := by kernel_rfl
abbrev M8 : FuncId := 71
def Fg (σ : Hp) (soon_A : Option Addr) (soon_n : Nat) (_ : Nat) (order_A : Option Addr) (order_n : Nat) (_ : Nat) (gap : Int) (R : Value → Hp → Prop) : Prop :=
  cut (α := List Int → Hp → Prop) (fun xs4 σ2 => ∀ _ : Nat → Value, exl 3 [.int .i64] xs4 σ2 (fun A5 l5 c5 σ6 => 
    rt σ6 R (.slice A5 l5 c5))) (fun J3 => ∃ I9 : Nat → List Int → Int → Hp → Prop, (∃ n100, adp 3 [.int .i64] none 0 0 σ (fun (xs11 : List Int) σ12 => 
    I9 n100 xs11 0 σ12)) ∧ ∀ n10 : Nat, ∀ xs13 : List Int, ∀ n14 : Int, ∀ σ8 : Hp, I9 n10 xs13 n14 σ8 → ∀ _ : Nat → Value, bc (decide (n14 < ((order_n : Nat) : Int))) (cut (α := List Int → Hp → Prop) (fun xs18 σ16 => 
    ∀ _ : Nat → Value, wk .i64 (n14 + 1) (fun n19 => bk σ16 n10 (fun m20 σ21 => I9 m20 xs18 n19 σ21))) (fun J17 => 
    ix order_A order_n n14 1 (fun b22 a23 => ldI σ8 .i64 b22 a23 (fun n24 => ix soon_A soon_n n24 1 (fun b25 a26 => 
    ldI σ8 .i64 b25 a26 (fun n27 => cut (α := Int → Hp → Prop) (fun n31 σ29 => ∀ _ : Nat → Value, AO (List.length xs13 + List.length ([n31] : List Int)) (J17 (xs13 ++ ([n31] : List Int)) σ29)) (fun J30 => 
    bc (decide ((0 : Int) < n14)) (wk .i64 (n14 - 1) (fun n32 => (0 ≤ n32 ∧ n32 < ((List.length xs13 : Nat) : Int) ∧ 
    lat xs13 ((n32 : Int).toNat) (fun r33 => wk .i64 (r33 + gap) (fun n34 => J30 (if n34 > n27 then n34 else n27) σ8))))) (J30 n27 σ8)))))))) (J3 xs13 σ8))
def KR : MAn := (.seq (.txt []) (.seq (.txt []) (.cut ⟨[], 1, [.slot 7 (.lst 0 3 [.int .i64])], []⟩ (.seq (.txt []) (.block (.loop ⟨[], 1, [.slot 7 (.lst 0 3 [.int .i64]), .slot 8 (.sc (.int .i64))], [(0, true), (1, true), (2, true)]⟩ (.seq (.seq (.txt []) (.cond .leaf .leaf)) (.cut ⟨[false], 1, [.slot 7 (.lst 0 3 [.int .i64])], [(0, true), (1, true), (2, true), (8, true)]⟩ (.block (.seq (.txt []) (.cut ⟨[true], 1, [.slot 7 (.hl 0 0), .slot 9 (.sc (.int .i64))], [(0, true), (1, true), (2, true), (8, true)]⟩ (.seq (.txt []) (.cond (.txt []) .leaf)) (.txt [])))) (.txt [])))))) (.seq (.txt []) .leaf))))
set_option maxRecDepth 100000 in
theorem K6 (σ : Hp) (soon_A : Option Addr) (soon_n : Nat) (soon_c : Nat) (order_A : Option Addr) (order_n : Nat) (order_c : Nat) (gap : Int) (R : Value → Hp → Prop) (h : Fg σ soon_A soon_n soon_c order_A order_n order_c gap R) : Ag Try.prog 71 #[(.slice soon_A soon_n soon_c), (.slice order_A order_n order_c), (.int .i64 gap)] σ R :=
  Ai BF KR Try.func71 rfl (by kernel_rfl) (by kernel_rfl) (M := Fg σ soon_A soon_n soon_c order_A order_n order_c gap R) (by kernel_rfl) h
theorem Iw : Aw Try.prog 71 = true := by kernel_rfl
abbrev N3 : FuncId := 77
def Gf (σ : Hp) (soon_A : Option Addr) (soon_n : Nat) (soon_c : Nat) (order_A : Option Addr) (order_n : Nat) (order_c : Nat) (gap : Int) (R : Value → Hp → Prop) : Prop :=
  cl Try.prog (.func (.func 71) #[] #[]) #[(.slice soon_A soon_n soon_c), (.slice order_A order_n order_c), (.int .i64 gap)] σ (fun v1 σ2 => 
    ∃ A3 : Option Addr, ∃ l3 : Nat, ∃ c3 : Nat, (v1 = (.slice A3 l3 c3) ∧ wk .i64 (((l3 : Nat) : Int) - 1) (fun n4 => 
    ix A3 l3 n4 1 (fun b5 a6 => ldI σ2 .i64 b5 a6 (fun n7 => rt σ2 R (.int .i64 n7))))))
def LH : MAn := (.seq (.txt []) (.seq (.txt []) (.seq (.txt []) .leaf)))
set_option maxRecDepth 100000 in
theorem Lu (σ : Hp) (soon_A : Option Addr) (soon_n : Nat) (soon_c : Nat) (order_A : Option Addr) (order_n : Nat) (order_c : Nat) (gap : Int) (R : Value → Hp → Prop) (h : Gf σ soon_A soon_n soon_c order_A order_n order_c gap R) : Ag Try.prog 77 #[(.slice soon_A soon_n soon_c), (.slice order_A order_n order_c), (.int .i64 gap)] σ R :=
  Ai BF LH Try.func77 rfl (by kernel_rfl) (by kernel_rfl) (M := Gf σ soon_A soon_n soon_c order_A order_n order_c gap R) (by kernel_rfl) h
theorem Eo : Aw Try.prog 77 = true := by kernel_rfl
abbrev N7 : FuncId := 78
def Gi (σ : Hp) (a0_A : Option Addr) (a0_n : Nat) (_ : Nat) (a1_A : Option Addr) (a1_n : Nat) (_ : Nat) (R : Value → Hp → Prop) : Prop :=
  cut (α := Option Addr → Nat → Nat → Hp → Prop) (fun A4 l4 c4 σ2 => ∀ _ : Nat → Value, rt σ2 R (.slice A4 l4 c4)) (fun J3 => 
    ∃ I7 : Nat → Option Addr → Nat → Nat → Int → Hp → Prop, (∃ n80, I7 n80 none 0 0 0 σ) ∧ ∀ n8 : Nat, ∀ A9 : Option Addr, ∀ l9 : Nat, ∀ c9 : Nat, ∀ n10 : Int, ∀ σ6 : Hp, I7 n8 A9 l9 c9 n10 σ6 → ∀ _ : Nat → Value, bc (decide (n10 < ((a0_n : Nat) : Int))) (cut (α := Option Addr → Nat → Nat → Hp → Prop) (fun A14 l14 c14 σ12 => 
    ∀ _ : Nat → Value, wk .i64 (n10 + 1) (fun n15 => bk σ12 n8 (fun m16 σ17 => I7 m16 A14 l14 c14 n15 σ17))) (fun J13 => 
    cut (α := Bool → Hp → Prop) (fun t21 σ19 => ∀ _ : Nat → Value, bc t21 (J13 A9 l9 c9 σ19) (adp 3 [.int .i64] A9 l9 c9 σ19 (fun (xs22 : List Int) σ23 => 
    AO (List.length xs22 + List.length ([n10] : List Int)) (wk .i64 (((List.length (xs22 ++ ([n10] : List Int)) : Nat) : Int) - 1) (fun n24 => 
    ∃ I27 : Nat → Int → List Int → Hp → Prop, (∃ n280, I27 n280 n24 (xs22 ++ ([n10] : List Int)) σ23) ∧ ∀ n28 : Nat, ∀ n29 : Int, ∀ xs30 : List Int, ∀ σ26 : Hp, I27 n28 n29 xs30 σ26 → ∀ _ : Nat → Value, cut (α := Hp → Prop) (fun  σ32 => 
    ∀ _ : Nat → Value, wk .i64 (n29 - 1) (fun n34 => wk .i64 (n29 - 1) (fun n35 => (0 ≤ n35 ∧ n35 < ((List.length xs30 : Nat) : Int) ∧ 
    lat xs30 ((n35 : Int).toNat) (fun r36 => (0 ≤ n29 ∧ n29 < ((List.length xs30 : Nat) : Int) ∧ lat xs30 ((n29 : Int).toNat) (fun r37 => 
    (0 ≤ n29 ∧ n29 < ((List.length xs30 : Nat) : Int) ∧ lat xs30 ((n29 : Int).toNat) (fun _ => (0 ≤ n34 ∧ 
    n34 < ((List.length (List.set xs30 ((n29 : Int).toNat) r36) : Nat) : Int) ∧ lat (List.set xs30 ((n29 : Int).toNat) r36) ((n34 : Int).toNat) (fun _ => 
    wk .i64 (n29 - 1) (fun n40 => bk σ32 n28 (fun m41 σ42 => I27 m41 n40 (List.set (List.set xs30 ((n29 : Int).toNat) r36) ((n34 : Int).toNat) r37) σ42))))))))))))) (fun J33 => 
    cut (α := Bool → Hp → Prop) (fun t46 σ44 => ∀ _ : Nat → Value, bc t46 (J33 σ44) (exl 3 [.int .i64] xs30 σ44 (fun A47 l47 c47 σ48 => 
    J13 A47 l47 c47 σ48))) (fun J45 => bc (decide ((0 : Int) < n29)) ((0 ≤ n29 ∧ n29 < ((List.length xs30 : Nat) : Int) ∧ 
    lat xs30 ((n29 : Int).toNat) (fun r49 => ix a0_A a0_n r49 1 (fun b50 a51 => ldI σ26 .i64 b50 a51 (fun n52 => 
    wk .i64 (n29 - 1) (fun n53 => (0 ≤ n53 ∧ n53 < ((List.length xs30 : Nat) : Int) ∧ lat xs30 ((n53 : Int).toNat) (fun r54 => 
    ix a0_A a0_n r54 1 (fun b55 a56 => ldI σ26 .i64 b55 a56 (fun n57 => J45 (decide (n52 < n57)) σ26)))))))))) (J45 false σ26)))))))) (fun J20 => 
    ∃ I60 : Nat → Bool → Int → Hp → Prop, (∃ n610, I60 n610 false 0 σ6) ∧ ∀ n61 : Nat, ∀ t62 : Bool, ∀ n63 : Int, ∀ σ59 : Hp, I60 n61 t62 n63 σ59 → ∀ _ : Nat → Value, bc (decide (n63 < ((a1_n : Nat) : Int))) (cut (α := Bool → Hp → Prop) (fun t67 σ65 => 
    ∀ _ : Nat → Value, wk .i64 (n63 + 1) (fun n68 => bk σ65 n61 (fun m69 σ70 => I60 m69 t67 n68 σ70))) (fun J66 => 
    bc t62 (J66 true σ59) (ix a1_A a1_n n63 1 (fun b71 a72 => ldI σ59 .i64 b71 a72 (fun n73 => J66 (decide (n73 = n10)) σ59))))) (J20 t62 σ59)))) (J3 A9 l9 c9 σ6))
def Am : OA := ⟨[], false, []⟩
def LG : MAn := (.seq (.txt []) (.seq (.txt []) (.cut ⟨[], 0, [.slot 5 (.sc (.slc))], []⟩ (.seq (.txt []) (.block (.loop ⟨[], 0, [.slot 5 (.sc (.slc)), .slot 6 (.sc (.int .i64))], [(0, true), (1, true)]⟩ (.seq (.seq (.txt []) (.cond .leaf .leaf)) (.cut ⟨[], 0, [.slot 5 (.sc (.slc))], [(0, true), (1, true), (6, true)]⟩ (.block (.seq (.txt []) (.cut ⟨[], 0, [.slot 7 (.sc (.bool))], [(0, true), (1, true), (5, true), (6, true)]⟩ (.seq (.txt []) (.block (.loop ⟨[], 0, [.slot 7 (.sc (.bool)), .slot 8 (.sc (.int .i64))], [(0, true), (1, true), (5, true), (6, true)]⟩ (.seq (.seq (.txt []) (.cond .leaf .leaf)) (.cut ⟨[], 0, [.slot 7 (.sc (.bool))], [(0, true), (1, true), (5, true), (6, true), (8, true)]⟩ (.block (.txt [Am, ⟨[], true, []⟩])) (.txt [])))))) (.seq (.seq (.txt []) (.cond .leaf .leaf)) (.seq (.txt []) (.seq (.txt []) (.block (.loop ⟨[true, false], 2, [.slot 5 (.hl 1 1), .slot 9 (.sc (.int .i64)), .modl 1 1 3 [.int .i64]], [(0, true), (1, true), (6, true)]⟩ (.cut ⟨[true, true], 2, [.slot 5 (.hl 1 1)], [(0, true), (1, true), (6, true), (9, true)]⟩ (.cut ⟨[true, true], 2, [.slot 5 (.hl 1 1), .slot 58 (.sc (.bool))], [(0, true), (1, true), (6, true), (9, true)]⟩ (.plan [] (.take 0 Am (.take 1 Am (.take 2 ⟨[], true, []⟩ (.take 3 Am (.take 4 Am (.take 5 Am (.take 6 Am (.take 7 Am (.take 8 Am (.take 9 Am (.take 10 Am (.take 11 Am (.take 12 Am (.take 13 Am (.take 14 Am (.take 15 Am (.take 16 Am (.take 17 Am (.take 18 Am (.take 19 Am .done))))))))))))))))))))) (.cond .leaf .leaf)) (.seq (.block (.plan [15, 17] (.take 0 Am (.take 1 Am (.take 2 Am (.take 3 Am (.take 4 Am (.take 5 Am (.take 6 Am (.take 7 Am (.take 8 Am (.take 9 Am (.take 10 Am (.take 11 Am (.take 12 Am (.take 13 Am (.take 14 Am (.alt 15 false Am (.take 16 Am (.alt 17 false Am .done .done)) .done)))))))))))))))))) (.txt []))))))))))) (.txt [])))))) (.seq (.txt []) .leaf))))
set_option maxRecDepth 100000 in
theorem LF (σ : Hp) (a0_A : Option Addr) (a0_n : Nat) (a0_c : Nat) (a1_A : Option Addr) (a1_n : Nat) (a1_c : Nat) (R : Value → Hp → Prop) (h : Gi σ a0_A a0_n a0_c a1_A a1_n a1_c R) : Ag Try.prog 78 #[(.slice a0_A a0_n a0_c), (.slice a1_A a1_n a1_c)] σ R :=
  Ai BF LG Try.func78 rfl (by kernel_rfl) (by kernel_rfl) (M := Gi σ a0_A a0_n a0_c a1_A a1_n a1_c R) (by kernel_rfl) h
theorem EJ : Aw Try.prog 78 = true := by kernel_rfl
abbrev IL : FuncId := 46
def Fh (σ : Hp) (a0_Parking_A : Option Addr) (a0_Parking_n : Nat) (a0_Parking_c : Nat) (a0_Roads_A : Option Addr) (a0_Roads_n : Nat) (a0_Roads_c : Nat) (a1_A : Option Addr) (a1_n : Nat) (a1_c : Nat) (a2 : Int) (a3 : Int) (R : Value → Hp → Prop) : Prop :=
  cl Try.prog (.func (.func 66) #[] #[]) #[(.agg #[(.slice a0_Parking_A a0_Parking_n a0_Parking_c), (.slice a0_Roads_A a0_Roads_n a0_Roads_c)]), (.slice a1_A a1_n a1_c), (.int .i64 a2), (.int .i64 a3)] σ (fun v1 σ2 => 
    ∃ n3 : Int, (v1 = (.int .i64 n3) ∧ bc (!decide (n3 = 0)) (rt σ2 R (.tuple #[(.slice none 0 0), (.int .i64 n3)])) (cl Try.prog (.func (.func 70) #[] #[]) #[(.agg #[(.slice a0_Parking_A a0_Parking_n a0_Parking_c), (.slice a0_Roads_A a0_Roads_n a0_Roads_c)]), (.slice a1_A a1_n a1_c), (.int .i64 a2)] σ2 (fun v4 σ5 => 
    ∃ A6 : Option Addr, ∃ l6 : Nat, ∃ c6 : Nat, ∃ t7 : Bool, (v4 = (.tuple #[(.slice A6 l6 c6), (.bool t7)]) ∧ 
    bc (!t7) (rt σ5 R (.tuple #[(.slice none 0 0), (.int .i64 3)])) (bc (decide (((a1_n : Nat) : Int) = 0)) (rt σ5 R (.tuple #[(.slice none 0 0), (.int .i64 0)])) (cl Try.prog (.func (.func 78) #[] #[]) #[(.slice A6 l6 c6), (.slice none 0 0)] σ5 (fun v8 σ9 => 
    ∃ A10 : Option Addr, ∃ l10 : Nat, ∃ c10 : Nat, (v8 = (.slice A10 l10 c10) ∧ cl Try.prog (.func (.func 77) #[] #[]) #[(.slice A6 l6 c6), (.slice A10 l10 c10), (.int .i64 a3)] σ9 (fun v11 σ12 => 
    ∃ n13 : Int, (v11 = (.int .i64 n13) ∧ cut (α := Option Addr → Nat → Nat → Hp → Prop) (fun A17 l17 c17 σ15 => 
    ∀ _ : Nat → Value, rt σ15 R (.tuple #[(.slice A17 l17 c17), (.int .i64 0)])) (fun J16 => ∃ I20 : Nat → Option Addr → Nat → Nat → Hp → Prop, (∃ n210, I20 n210 none 0 0 σ12) ∧ 
    ∀ n21 : Nat, ∀ A22 : Option Addr, ∀ l22 : Nat, ∀ c22 : Nat, ∀ σ19 : Hp, I20 n21 A22 l22 c22 σ19 → ∀ _ : Nat → Value, bc (decide (((l22 : Nat) : Int) < ((a1_n : Nat) : Int))) (∃ I25 : Nat → Option Addr → Nat → Nat → Int → Hp → Prop, (∃ n260, I25 n260 A22 l22 c22 0 σ19) ∧ 
    ∀ n26 : Nat, ∀ A27 : Option Addr, ∀ l27 : Nat, ∀ c27 : Nat, ∀ n28 : Int, ∀ σ24 : Hp, I25 n26 A27 l27 c27 n28 σ24 → ∀ _ : Nat → Value, bc (decide (n28 < ((a1_n : Nat) : Int))) (cut (α := Option Addr → Nat → Nat → Hp → Prop) (fun A32 l32 c32 σ30 => 
    ∀ _ : Nat → Value, wk .i64 (n28 + 1) (fun n33 => bk σ30 n26 (fun m34 σ35 => I25 m34 A32 l32 c32 n33 σ35))) (fun J31 => 
    cut (α := Bool → Hp → Prop) (fun t39 σ37 => ∀ _ : Nat → Value, ∃ ys40 : List Int, RdS [.int .i64] σ37 A27 l27 ys40 ∧ 
    AO (List.length ([] : List Int) + List.length ys40) (AO (List.length (([] : List Int) ++ ys40) + List.length ([n28] : List Int)) (cut (α := Bool → Hp → Prop) (fun t44 σ42 => 
    ∀ _ : Nat → Value, bc t44 (adp 3 [.int .i64] A27 l27 c27 σ42 (fun (xs45 : List Int) σ46 => AO (List.length xs45 + List.length ([n28] : List Int)) (bk σ46 n21 (fun m47 σ48 => 
    exl 3 [.int .i64] (xs45 ++ ([n28] : List Int)) σ48 (fun A49 l49 c49 σ50 => I20 m47 A49 l49 c49 σ50))))) (J31 A27 l27 c27 σ42)) (fun J43 => 
    bc (!t39) (exl 3 [.int .i64] ((([] : List Int) ++ ys40) ++ ([n28] : List Int)) σ37 (fun A51 l51 c51 σ52 => 
    cl Try.prog (.func (.func 78) #[] #[]) #[(.slice A6 l6 c6), (.slice A51 l51 c51)] σ52 (fun v53 σ54 => 
    ∃ A55 : Option Addr, ∃ l55 : Nat, ∃ c55 : Nat, (v53 = (.slice A55 l55 c55) ∧ adp 3 [.int .i64] A51 l51 c51 σ54 (fun (xs56 : List Int) σ57 => 
    ∃ ys58 : List Int, RdS [.int .i64] σ57 A55 l55 ys58 ∧ AO (List.length xs56 + List.length ys58) (exl 3 [.int .i64] (xs56 ++ ys58) σ57 (fun A59 l59 c59 σ60 => 
    cl Try.prog (.func (.func 77) #[] #[]) #[(.slice A6 l6 c6), (.slice A59 l59 c59), (.int .i64 a3)] σ60 (fun v61 σ62 => 
    ∃ n63 : Int, (v61 = (.int .i64 n63) ∧ J43 (decide (n63 = n13)) σ62))))))))) (J43 false σ37))))) (fun J38 => 
    ∃ I66 : Nat → Bool → Int → Hp → Prop, (∃ n670, I66 n670 false 0 σ24) ∧ ∀ n67 : Nat, ∀ t68 : Bool, ∀ n69 : Int, ∀ σ65 : Hp, I66 n67 t68 n69 σ65 → ∀ _ : Nat → Value, bc (decide (n69 < ((l27 : Nat) : Int))) (cut (α := Bool → Hp → Prop) (fun t73 σ71 => 
    ∀ _ : Nat → Value, wk .i64 (n69 + 1) (fun n74 => bk σ71 n67 (fun m75 σ76 => I66 m75 t73 n74 σ76))) (fun J72 => 
    bc t68 (J72 true σ65) (ix A27 l27 n69 1 (fun b77 a78 => ldI σ65 .i64 b77 a78 (fun n79 => J72 (decide (n79 = n28)) σ65))))) (J38 t68 σ65)))) (bk σ24 n21 (fun m80 σ81 => 
    I20 m80 A27 l27 c27 σ81))) (J16 A22 l22 c22 σ19)))))))))))))
def K4 : MAn := (.seq (.txt []) (.seq (.txt []) (.seq (.seq (.txt []) (.cond (.seq (.txt []) .leaf) .leaf)) (.seq (.txt []) (.seq (.seq (.txt []) (.cond (.seq (.txt []) .leaf) .leaf)) (.seq (.seq (.txt []) (.cond (.seq (.txt []) .leaf) .leaf)) (.seq (.txt []) (.seq (.txt []) (.cut ⟨[true], 1, [.slot 14 (.sc (.slc))], []⟩ (.block (.loop ⟨[true], 1, [.slot 14 (.sc (.slc))], [(1, true), (3, true), (11, true), (13, true)]⟩ (.seq (.seq (.txt []) (.cond .leaf .leaf)) (.block (.seq (.txt []) (.block (.loop ⟨[true], 1, [.slot 14 (.sc (.slc)), .slot 15 (.sc (.int .i64))], [(1, true), (3, true), (11, true), (13, true)]⟩ (.seq (.seq (.txt []) (.cond .leaf .leaf)) (.cut ⟨[true], 1, [.slot 14 (.sc (.slc))], [(1, true), (3, true), (11, true), (13, true), (15, true)]⟩ (.block (.seq (.txt []) (.cut ⟨[true], 1, [.slot 16 (.sc (.bool))], [(1, true), (3, true), (11, true), (13, true), (14, true), (15, true)]⟩ (.seq (.txt []) (.block (.loop ⟨[true], 1, [.slot 16 (.sc (.bool)), .slot 17 (.sc (.int .i64))], [(1, true), (3, true), (11, true), (13, true), (14, true), (15, true)]⟩ (.seq (.seq (.txt []) (.cond .leaf .leaf)) (.cut ⟨[true], 1, [.slot 16 (.sc (.bool))], [(1, true), (3, true), (11, true), (13, true), (14, true), (15, true), (17, true)]⟩ (.block (.txt [⟨[], false, []⟩, ⟨[], true, []⟩])) (.txt [])))))) (.seq (.txt []) (.cut ⟨[true, false, true], 3, [.slot 89 (.sc (.bool))], [(1, true), (3, true), (11, true), (13, true), (14, true), (15, true)]⟩ (.txt [⟨[], false, []⟩, ⟨[], false, []⟩, ⟨[], true, []⟩, ⟨[], false, []⟩, ⟨[], false, []⟩, ⟨[], false, []⟩, ⟨[], false, []⟩, ⟨[], false, [.adl 80 3 [.int .i64]]⟩]) (.cond (.seq (.txt []) .leaf) .leaf)))))) (.txt [])))))))))) (.seq (.txt []) .leaf))))))))))
set_option maxRecDepth 100000 in
theorem Ky (σ : Hp) (a0_Parking_A : Option Addr) (a0_Parking_n : Nat) (a0_Parking_c : Nat) (a0_Roads_A : Option Addr) (a0_Roads_n : Nat) (a0_Roads_c : Nat) (a1_A : Option Addr) (a1_n : Nat) (a1_c : Nat) (a2 : Int) (a3 : Int) (R : Value → Hp → Prop) (h : Fh σ a0_Parking_A a0_Parking_n a0_Parking_c a0_Roads_A a0_Roads_n a0_Roads_c a1_A a1_n a1_c a2 a3 R) : Ag Try.prog 46 #[(.agg #[(.slice a0_Parking_A a0_Parking_n a0_Parking_c), (.slice a0_Roads_A a0_Roads_n a0_Roads_c)]), (.slice a1_A a1_n a1_c), (.int .i64 a2), (.int .i64 a3)] σ R :=
  Ai BF K4 Try.func46 rfl (by kernel_rfl) (by kernel_rfl) (M := Fh σ a0_Parking_A a0_Parking_n a0_Parking_c a0_Roads_A a0_Roads_n a0_Roads_c a1_A a1_n a1_c a2 a3 R) (by kernel_rfl) h
theorem Iq : Aw Try.prog 46 = true := by kernel_rfl
abbrev Ow : FuncId := 20
def GI (σ : Hp) (m_Parking_A : Option Addr) (m_Parking_n : Nat) (_ : Nat) (m_Roads_A : Option Addr) (m_Roads_n : Nat) (_ : Nat) (R : Value → Hp → Prop) : Prop :=
  ((∃ ys1 : List Bool, RdS [.bool] σ m_Parking_A m_Parking_n ys1 ∧ AO (List.length ([] : List Bool) + List.length ys1) (∃ ys2 : List (Int × Int × Int × Int × Int), RdS [.int .i64, .int .i64, .int .i64, .int .i64, .int .i64] σ m_Roads_A m_Roads_n ys2 ∧ 
    AO (List.length ([] : List (Int × Int × Int × Int × Int)) + List.length ys2) (exl 4 [.bool] (([] : List Bool) ++ ys1) σ (fun A3 l3 c3 σ4 => 
    exl 51 [.int .i64, .int .i64, .int .i64, .int .i64, .int .i64] (([] : List (Int × Int × Int × Int × Int)) ++ ys2) σ4 (fun A5 l5 c5 σ6 => 
    rt σ6 R (.agg #[(.slice A3 l3 c3), (.slice A5 l5 c5)])))))) ∧ (∃ ys7 : List Bool, RdS [.bool] σ m_Parking_A m_Parking_n ys7 ∧ 
    AO (List.length ([] : List Bool) + List.length ys7) (∃ ys8 : List (Int × Int × Int × Int × Int), RdS [.int .i64, .int .i64, .int .i64, .int .i64, .int .i64] σ m_Roads_A m_Roads_n ys8 ∧ 
    AO (List.length ([] : List (Int × Int × Int × Int × Int)) + List.length ys8) (exl 4 [.bool] (([] : List Bool) ++ ys7) σ (fun A9 l9 c9 σ10 => 
    exl 51 [.int .i64, .int .i64, .int .i64, .int .i64, .int .i64] (([] : List (Int × Int × Int × Int × Int)) ++ ys8) σ10 (fun A11 l11 c11 σ12 => 
    rt σ12 R (.agg #[(.slice A9 l9 c9), (.slice A11 l11 c11)])))))))
def AH : OA := ⟨[], false, []⟩
def Lq : MAn := (.seq (.txt []) (.seq (.plan [3, 7, 9] (.take 1 AH (.take 2 AH (.take 5 AH (.new 0 AH (.new 4 AH (.alt 3 false AH (.take 6 AH (.alt 7 false AH (.take 8 AH (.alt 9 false AH .done .done)) .done)) (.alt 6 true AH (.alt 3 false AH (.alt 7 false AH (.take 8 AH (.alt 9 false AH .done .done)) .done) .done) .done)))))))) .leaf))
set_option maxRecDepth 100000 in
theorem Lz (σ : Hp) (m_Parking_A : Option Addr) (m_Parking_n : Nat) (m_Parking_c : Nat) (m_Roads_A : Option Addr) (m_Roads_n : Nat) (m_Roads_c : Nat) (R : Value → Hp → Prop) (h : GI σ m_Parking_A m_Parking_n m_Parking_c m_Roads_A m_Roads_n m_Roads_c R) : Ag Try.prog 20 #[(.agg #[(.slice m_Parking_A m_Parking_n m_Parking_c), (.slice m_Roads_A m_Roads_n m_Roads_c)])] σ R :=
  Ai BF Lq Try.func20 rfl (by kernel_rfl) (by kernel_rfl) (M := GI σ m_Parking_A m_Parking_n m_Parking_c m_Roads_A m_Roads_n m_Roads_c R) (by kernel_rfl) h
theorem IW : Aw Try.prog 20 = true := by kernel_rfl
end Go.Proofs.Ytkdjkkimngeloaa
