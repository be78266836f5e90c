/- Trimmed by wip/trim.py to what this claim rests on. -/
import Derived.Test.YtkdjkkimngeloaaYB11
namespace Go.Proofs.Ytkdjkkimngeloaa
open Go.RowKit
theorem BC : Try.prog.follows .mixedOrders = true := by kernel_rfl
abbrev Ji : FuncId := 60
def FJ (σ : Hp) (n : Int) (low : Int) (high : Int) (R : Value → Hp → Prop) : Prop :=
  bc (decide (low ≤ n)) (rt σ R (.bool (decide (n ≤ high)))) (rt σ R (.bool false))
def KN : MAn := (.seq (.txt []) (.seq (.txt [⟨[], false, []⟩, ⟨[], false, []⟩, ⟨[], false, []⟩, ⟨[], true, []⟩]) .leaf))
set_option maxRecDepth 100000 in
theorem KM (σ : Hp) (n : Int) (low : Int) (high : Int) (R : Value → Hp → Prop) (h : FJ σ n low high R) : Ah Try.prog 60 #[(.int .i64 n), (.int .i64 low), (.int .i64 high)] σ R :=
  Ak BC KN Try.func60 rfl (by kernel_rfl) (by kernel_rfl) (M := FJ σ n low high R) (by kernel_rfl) h
theorem Ie : AA Try.prog 60 = true := by kernel_rfl
abbrev Kc : FuncId := 62
def Dy (σ : Hp) (a0_Parking_A : Option Addr) (a0_Parking_n : Nat) (a0_Parking_c : Nat) (a0_Roads_A : Option Addr) (a0_Roads_n : Nat) (a0_Roads_c : Nat) (R : Value → Hp → Prop) : Prop :=
  cut (α := Hp → Prop) (fun  σ2 => ∀ _ : Nat → Value, cut (α := Hp → Prop) (fun  σ5 => ∀ _ : Nat → Value, 
    rt σ5 R (.int .i64 0)) (fun J6 => ∃ I9 : Nat → Int → Hp → Prop, (∃ n100, I9 n100 0 σ2) ∧ ∀ n10 : Nat, ∀ n11 : Int, ∀ σ8 : Hp, I9 n10 n11 σ8 → ∀ _ : Nat → Value, bc (decide (n11 < ((a0_Roads_n : Nat) : Int))) (cut (α := Hp → Prop) (fun  σ13 => 
    ∀ _ : Nat → Value, wk .i64 (n11 + 1) (fun n15 => bk σ13 n10 (fun m16 σ17 => I9 m16 n15 σ17))) (fun J14 => 
    ix a0_Roads_A a0_Roads_n n11 5 (fun b18 a19 => ldI σ8 .i64 b18 a19 (fun n20 => ldI σ8 .i64 b18 (a19 + 1) (fun n21 => 
    ldI σ8 .i64 b18 (a19 + 2) (fun n22 => ldI σ8 .i64 b18 (a19 + 3) (fun n23 => ldI σ8 .i64 b18 (a19 + 4) (fun n24 => 
    cut (α := Bool → Hp → Prop) (fun t28 σ26 => ∀ _ : Nat → Value, bc t28 (rt σ26 R (.int .i64 90)) (J14 σ26)) (fun J27 => 
    cl Try.prog (.func (.func 86) #[] #[]) #[(.agg #[(.slice a0_Parking_A a0_Parking_n a0_Parking_c), (.slice a0_Roads_A a0_Roads_n a0_Roads_c)]), (.int .i64 n20)] σ8 (fun v29 σ30 => 
    ∃ t31 : Bool, (v29 = (.bool t31) ∧ bc (!t31) (J27 true σ30) (cl Try.prog (.func (.func 86) #[] #[]) #[(.agg #[(.slice a0_Parking_A a0_Parking_n a0_Parking_c), (.slice a0_Roads_A a0_Roads_n a0_Roads_c)]), (.int .i64 n21)] σ30 (fun v32 σ33 => 
    ∃ t34 : Bool, (v32 = (.bool t34) ∧ bc (!t34) (J27 true σ33) (bc (decide (n20 = n21)) (J27 true σ33) (cl Try.prog (.func (.func 60) #[] #[]) #[(.int .i64 n22), (.int .i64 1), (.int .i64 500)] σ33 (fun v35 σ36 => 
    ∃ t37 : Bool, (v35 = (.bool t37) ∧ bc (!t37) (J27 true σ36) (cl Try.prog (.func (.func 60) #[] #[]) #[(.int .i64 n23), (.int .i64 0), (.int .i64 1000)] σ36 (fun v38 σ39 => 
    ∃ t40 : Bool, (v38 = (.bool t40) ∧ bc (!t40) (J27 true σ39) (cl Try.prog (.func (.func 60) #[] #[]) #[(.int .i64 n24), (.int .i64 0), (.int .i64 1000)] σ39 (fun v41 σ42 => 
    ∃ t43 : Bool, (v41 = (.bool t43) ∧ J27 (!t43) σ42)))))))))))))))))))))))) (J6 σ8))) (fun J3 => cut (α := Bool → Hp → Prop) (fun t47 σ45 => 
    ∀ _ : Nat → Value, bc t47 (rt σ45 R (.int .i64 90)) (J3 σ45)) (fun J46 => cl Try.prog (.func (.func 60) #[] #[]) #[(.int .i64 ((a0_Parking_n : Nat) : Int)), (.int .i64 1), (.int .i64 12)] σ (fun v48 σ49 => 
    ∃ t50 : Bool, (v48 = (.bool t50) ∧ bc (!t50) (J46 true σ49) (J46 (decide ((30 : Int) < ((a0_Roads_n : Nat) : Int))) σ49)))))
def Al : OA := ⟨[], false, []⟩
def H3 : MAn := (.seq (.txt []) (.cut ⟨[true], 1, [.slot 1 (.hb 0 0)], []⟩ (.cut ⟨[true], 1, [.slot 1 (.hb 0 0), .slot 15 (.sc (.bool))], []⟩ (.txt [Al, Al, Al, Al, Al, ⟨[], true, []⟩]) (.cond (.seq (.txt []) .leaf) .leaf)) (.cut ⟨[true], 1, [], []⟩ (.seq (.txt []) (.block (.loop ⟨[true], 1, [.slot 1 (.hb 0 0), .slot 3 (.sc (.int .i64))], []⟩ (.seq (.seq (.txt []) (.cond .leaf .leaf)) (.cut ⟨[true], 1, [.slot 1 (.hb 0 0)], [(3, true)]⟩ (.block (.seq (.txt []) (.cut ⟨[true, true], 2, [.slot 1 (.hb 0 0), .slot 64 (.sc (.bool))], [(3, true)]⟩ (.txt [Al, Al, Al, Al, Al, ⟨[], true, []⟩, Al, Al, Al, Al, Al, Al, ⟨[], true, []⟩, Al, Al, Al, Al, Al, Al, ⟨[], true, []⟩, Al, Al, Al, Al, Al, ⟨[], true, []⟩, Al, Al, Al, Al, Al, ⟨[], true, []⟩]) (.cond (.seq (.txt []) .leaf) .leaf)))) (.txt [])))))) (.seq (.txt []) .leaf))))
set_option maxRecDepth 100000 in
theorem HZ (σ : Hp) (a0_Parking_A : Option Addr) (a0_Parking_n : Nat) (a0_Parking_c : Nat) (a0_Roads_A : Option Addr) (a0_Roads_n : Nat) (a0_Roads_c : Nat) (R : Value → Hp → Prop) (h : Dy σ a0_Parking_A a0_Parking_n a0_Parking_c a0_Roads_A a0_Roads_n a0_Roads_c R) : Ah Try.prog 62 #[(.agg #[(.slice a0_Parking_A a0_Parking_n a0_Parking_c), (.slice a0_Roads_A a0_Roads_n a0_Roads_c)])] σ R :=
  Ak BC H3 Try.func62 rfl (by kernel_rfl) (by kernel_rfl) (M := Dy σ a0_Parking_A a0_Parking_n a0_Parking_c a0_Roads_A a0_Roads_n a0_Roads_c R) (by kernel_rfl) h
theorem Gd : AA Try.prog 62 = true := by kernel_rfl
abbrev Jl : FuncId := 86
def Gp (σ : Hp) (_ : Option Addr) (m_Parking_n : Nat) (_ : Nat) (_ : Option Addr) (_ : Nat) (_ : Nat) (n : Int) (R : Value → Hp → Prop) : Prop :=
  wk .i64 (((m_Parking_n : Nat) : Int) - 1) (fun n1 => cl Try.prog (.func (.func 60) #[] #[]) #[(.int .i64 n), (.int .i64 0), (.int .i64 n1)] σ (fun v2 σ3 => 
    ∃ t4 : Bool, (v2 = (.bool t4) ∧ rt σ3 R (.bool t4))))
def KI : MAn := (.seq (.txt []) (.seq (.txt []) .leaf))
set_option maxRecDepth 100000 in
theorem KS (σ : Hp) (m_Parking_A : Option Addr) (m_Parking_n : Nat) (m_Parking_c : Nat) (m_Roads_A : Option Addr) (m_Roads_n : Nat) (m_Roads_c : Nat) (n : Int) (R : Value → Hp → Prop) (h : Gp σ m_Parking_A m_Parking_n m_Parking_c m_Roads_A m_Roads_n m_Roads_c n R) : Ah Try.prog 86 #[(.agg #[(.slice m_Parking_A m_Parking_n m_Parking_c), (.slice m_Roads_A m_Roads_n m_Roads_c)]), (.int .i64 n)] σ R :=
  Ak BC KI Try.func86 rfl (by kernel_rfl) (by kernel_rfl) (M := Gp σ m_Parking_A m_Parking_n m_Parking_c m_Roads_A m_Roads_n m_Roads_c n R) (by kernel_rfl) h
theorem IB : AA Try.prog 86 = true := by kernel_rfl
abbrev Im : FuncId := 63
def CJ (σ : Hp) (m_Parking_A : Option Addr) (m_Parking_n : Nat) (m_Parking_c : Nat) (m_Roads_A : Option Addr) (m_Roads_n : Nat) (m_Roads_c : Nat) (l_Height : Int) (l_Weight : Int) (l_From : Int) (l_Ready : Int) (l_Drive : Int) (l_Rest : Int) (R : Value → Hp → Prop) : Prop :=
  cut (α := Hp → Prop) (fun  σ2 => ∀ _ : Nat → Value, rt σ2 R (.int .i64 0)) (fun J3 => cut (α := Bool → Hp → Prop) (fun t7 σ5 => 
    ∀ _ : Nat → Value, bc t7 (rt σ5 R (.int .i64 91)) (J3 σ5)) (fun J6 => cl Try.prog (.func (.func 60) #[] #[]) #[(.int .i64 l_Height), (.int .i64 0), (.int .i64 1000)] σ (fun v8 σ9 => 
    ∃ t10 : Bool, (v8 = (.bool t10) ∧ bc (!t10) (J6 true σ9) (cl Try.prog (.func (.func 60) #[] #[]) #[(.int .i64 l_Weight), (.int .i64 0), (.int .i64 1000)] σ9 (fun v11 σ12 => 
    ∃ t13 : Bool, (v11 = (.bool t13) ∧ bc (!t13) (J6 true σ12) (cl Try.prog (.func (.func 86) #[] #[]) #[(.agg #[(.slice m_Parking_A m_Parking_n m_Parking_c), (.slice m_Roads_A m_Roads_n m_Roads_c)]), (.int .i64 l_From)] σ12 (fun v14 σ15 => 
    ∃ t16 : Bool, (v14 = (.bool t16) ∧ bc (!t16) (J6 true σ15) (cl Try.prog (.func (.func 60) #[] #[]) #[(.int .i64 l_Ready), (.int .i64 0), (.int .i64 2000)] σ15 (fun v17 σ18 => 
    ∃ t19 : Bool, (v17 = (.bool t19) ∧ bc (!t19) (J6 true σ18) (cl Try.prog (.func (.func 60) #[] #[]) #[(.int .i64 l_Drive), (.int .i64 1), (.int .i64 500)] σ18 (fun v20 σ21 => 
    ∃ t22 : Bool, (v20 = (.bool t22) ∧ bc (!t22) (J6 true σ21) (cl Try.prog (.func (.func 60) #[] #[]) #[(.int .i64 l_Rest), (.int .i64 1), (.int .i64 500)] σ21 (fun v23 σ24 => 
    ∃ t25 : Bool, (v23 = (.bool t25) ∧ J6 (!t25) σ24)))))))))))))))))))
def Am : OA := ⟨[], false, []⟩
def GE : MAn := (.seq (.txt []) (.cut ⟨[true, true], 2, [], []⟩ (.cut ⟨[true, true], 2, [.slot 39 (.sc (.bool))], []⟩ (.txt [Am, Am, Am, Am, ⟨[], true, []⟩, Am, Am, Am, Am, Am, ⟨[], true, []⟩, Am, Am, Am, Am, Am, Am, ⟨[], true, []⟩, Am, Am, Am, Am, Am, ⟨[], true, []⟩, Am, Am, Am, Am, Am, ⟨[], true, []⟩]) (.cond (.seq (.txt []) .leaf) .leaf)) (.seq (.txt []) .leaf)))
set_option maxRecDepth 100000 in
theorem GD (σ : Hp) (m_Parking_A : Option Addr) (m_Parking_n : Nat) (m_Parking_c : Nat) (m_Roads_A : Option Addr) (m_Roads_n : Nat) (m_Roads_c : Nat) (l_Height : Int) (l_Weight : Int) (l_From : Int) (l_Ready : Int) (l_Drive : Int) (l_Rest : Int) (R : Value → Hp → Prop) (h : CJ σ m_Parking_A m_Parking_n m_Parking_c m_Roads_A m_Roads_n m_Roads_c l_Height l_Weight l_From l_Ready l_Drive l_Rest R) : Ah Try.prog 63 #[(.agg #[(.slice m_Parking_A m_Parking_n m_Parking_c), (.slice m_Roads_A m_Roads_n m_Roads_c)]), (.agg #[(.int .i64 l_Height), (.int .i64 l_Weight), (.int .i64 l_From), (.int .i64 l_Ready), (.int .i64 l_Drive), (.int .i64 l_Rest)])] σ R :=
  Ak BC GE Try.func63 rfl (by kernel_rfl) (by kernel_rfl) (M := CJ σ m_Parking_A m_Parking_n m_Parking_c m_Roads_A m_Roads_n m_Roads_c l_Height l_Weight l_From l_Ready l_Drive l_Rest R) (by kernel_rfl) h
theorem Fh : AA Try.prog 63 = true := by kernel_rfl
abbrev Ge : FuncId := 61
def Gc (σ : Hp) (l_Height : Int) (l_Weight : Int) (_ : Int) (_ : Int) (_ : Int) (_ : Int) (_ : Int) (_ : Int) (_ : Int) (r_Height : Int) (r_Weight : Int) (R : Value → Hp → Prop) : Prop :=
  bc (decide (l_Height ≤ r_Height)) (rt σ R (.bool (decide (l_Weight ≤ r_Weight)))) (rt σ R (.bool false))
def KV : MAn := (.seq (.txt []) (.seq (.txt [⟨[], false, []⟩, ⟨[], false, []⟩, ⟨[], false, []⟩, ⟨[], false, []⟩, ⟨[], false, []⟩, ⟨[], true, []⟩]) .leaf))
set_option maxRecDepth 100000 in
theorem KU (σ : Hp) (l_Height : Int) (l_Weight : Int) (l_From : Int) (l_Ready : Int) (l_Drive : Int) (l_Rest : Int) (r_A : Int) (r_B : Int) (r_Length : Int) (r_Height : Int) (r_Weight : Int) (R : Value → Hp → Prop) (h : Gc σ l_Height l_Weight l_From l_Ready l_Drive l_Rest r_A r_B r_Length r_Height r_Weight R) : Ah Try.prog 61 #[(.agg #[(.int .i64 l_Height), (.int .i64 l_Weight), (.int .i64 l_From), (.int .i64 l_Ready), (.int .i64 l_Drive), (.int .i64 l_Rest)]), (.agg #[(.int .i64 r_A), (.int .i64 r_B), (.int .i64 r_Length), (.int .i64 r_Height), (.int .i64 r_Weight)])] σ R :=
  Ak BC KV Try.func61 rfl (by kernel_rfl) (by kernel_rfl) (M := Gc σ l_Height l_Weight l_From l_Ready l_Drive l_Rest r_A r_B r_Length r_Height r_Weight R) (by kernel_rfl) h
theorem Ii : AA Try.prog 61 = true := by kernel_rfl
abbrev OD : FuncId := 65
def GO (σ : Hp) (a0_Parking_A : Option Addr) (a0_Parking_n : Nat) (_ : Nat) (a0_Roads_A : Option Addr) (a0_Roads_n : Nat) (_ : Nat) (a1_Height : Int) (a1_Weight : Int) (a1_From : Int) (a1_Ready : Int) (a1_Drive : Int) (a1_Rest : Int) (a2_at : Int) (a2_since : Int) (a2_driven : Int) (a3_Road : Int) (a3_Depart : Int) (R : Value → Hp → Prop) : Prop :=
  ix a0_Roads_A a0_Roads_n a3_Road 5 (fun b1 a2 => ldI σ .i64 b1 a2 (fun n3 => ldI σ .i64 b1 (a2 + 1) (fun n4 => 
    ldI σ .i64 b1 (a2 + 2) (fun n5 => ldI σ .i64 b1 (a2 + 3) (fun n6 => ldI σ .i64 b1 (a2 + 4) (fun n7 => 
    cut (α := Int → Int → Int → Hp → Prop) (fun _ _ _ σ9 => ∀ _ : Nat → Value, cut (α := Int → Hp → Prop) (fun n17 σ15 => 
    ∀ _ : Nat → Value, wk .i64 (n3 + n4) (fun n18 => wk .i64 (n18 - a2_at) (fun n19 => wk .i64 (a3_Depart + n5) (fun n20 => 
    wk .i64 (n17 + n5) (fun n21 => ((wk .i64 (n17 + n5) (fun n22 => ((rt σ15 R (.tuple #[(.agg #[(.int .i64 n19), (.int .i64 n20), (.int .i64 n21)]), (.bool (decide (n22 ≤ a1_Drive)))])) ∧ 
    (rt σ15 R (.tuple #[(.agg #[(.int .i64 n19), (.int .i64 n20), (.int .i64 n21)]), (.bool (decide (n22 ≤ a1_Drive)))]))))) ∧ 
    ((wk .i64 (n17 + n5) (fun n23 => rt σ15 R (.tuple #[(.agg #[(.int .i64 n19), (.int .i64 n20), (.int .i64 n21)]), (.bool (decide (n23 ≤ a1_Drive)))]))) ∧ 
    (wk .i64 (n17 + n5) (fun n24 => rt σ15 R (.tuple #[(.agg #[(.int .i64 n19), (.int .i64 n20), (.int .i64 n21)]), (.bool (decide (n24 ≤ a1_Drive)))])))) ∧ 
    (wk .i64 (n17 + n5) (fun n25 => rt σ15 R (.tuple #[(.agg #[(.int .i64 n19), (.int .i64 n20), (.int .i64 n21)]), (.bool (decide (n25 ≤ a1_Drive)))]))))))))) (fun J16 => 
    cut (α := Bool → Hp → Prop) (fun t29 σ27 => ∀ _ : Nat → Value, bc t29 (J16 0 σ27) (J16 a2_driven σ27)) (fun J28 => 
    ix a0_Parking_A a0_Parking_n a2_at 1 (fun b30 a31 => ldB σ9 b30 a31 (fun t32 => bc t32 (wk .i64 (a3_Depart - a2_since) (fun n33 => 
    J28 (decide (a1_Rest ≤ n33)) σ9)) (J28 false σ9)))))) (fun J10 => cut (α := Bool → Hp → Prop) (fun t37 σ35 => 
    ∀ _ : Nat → Value, bc t37 (rt σ35 R (.tuple #[(.agg #[(.int .i64 a2_at), (.int .i64 a2_since), (.int .i64 a2_driven)]), (.bool false)])) (J10 0 0 0 σ35)) (fun J36 => 
    bc (!decide (a2_at = n3)) (bc (!decide (a2_at = n4)) (J36 true σ) (cl Try.prog (.func (.func 61) #[] #[]) #[(.agg #[(.int .i64 a1_Height), (.int .i64 a1_Weight), (.int .i64 a1_From), (.int .i64 a1_Ready), (.int .i64 a1_Drive), (.int .i64 a1_Rest)]), (.agg #[(.int .i64 n3), (.int .i64 n4), (.int .i64 n5), (.int .i64 n6), (.int .i64 n7)])] σ (fun v38 σ39 => 
    ∃ t40 : Bool, (v38 = (.bool t40) ∧ bc (!t40) (J36 true σ39) (J36 (decide (a3_Depart < a2_since)) σ39))))) (cl Try.prog (.func (.func 61) #[] #[]) #[(.agg #[(.int .i64 a1_Height), (.int .i64 a1_Weight), (.int .i64 a1_From), (.int .i64 a1_Ready), (.int .i64 a1_Drive), (.int .i64 a1_Rest)]), (.agg #[(.int .i64 n3), (.int .i64 n4), (.int .i64 n5), (.int .i64 n6), (.int .i64 n7)])] σ (fun v41 σ42 => 
    ∃ t43 : Bool, (v41 = (.bool t43) ∧ bc (!t43) (J36 true σ42) (J36 (decide (a3_Depart < a2_since)) σ42))))))))))))
def Ac : OA := ⟨[], false, []⟩
def Lp : MAn := (.seq (.txt []) (.seq (.txt []) (.cut ⟨[true, true, true, true, false, true], 6, [.slot 4 (.hb 0 0), .slot 5 (.hb 1 0), .slot 6 (.hb 2 0), .slot 7 (.hb 3 0), .slot 8 (.hb 4 0), .slot 10 (.hb 5 0), .modb 4 88 [.sc (.int .i64), .sc (.int .i64), .sc (.int .i64)]], []⟩ (.cut ⟨[true, true, true, true, true, true], 6, [.slot 4 (.hb 0 0), .slot 5 (.hb 1 0), .slot 6 (.hb 2 0), .slot 7 (.hb 3 0), .slot 8 (.hb 4 0), .slot 10 (.hb 5 0), .slot 42 (.sc (.bool))], []⟩ (.txt [Ac, Ac, Ac, Ac, Ac, ⟨[], true, []⟩, Ac, Ac, Ac, Ac, Ac, Ac, ⟨[], true, []⟩, Ac, Ac, Ac, Ac, Ac, ⟨[], true, []⟩]) (.cond (.seq (.txt []) .leaf) .leaf)) (.seq (.txt []) (.cut ⟨[true, true, true, true, true, true], 6, [.slot 5 (.hb 1 0), .slot 6 (.hb 2 0), .slot 7 (.hb 3 0), .slot 8 (.hb 4 0), .slot 10 (.hb 5 0), .slot 11 (.sc (.int .i64))], []⟩ (.cut ⟨[true, true, true, true, true, true], 6, [.slot 5 (.hb 1 0), .slot 6 (.hb 2 0), .slot 7 (.hb 3 0), .slot 8 (.hb 4 0), .slot 10 (.hb 5 0), .slot 61 (.sc (.bool))], [(11, true)]⟩ (.txt [Ac, Ac, Ac, Ac, Ac, Ac, ⟨[], true, []⟩]) (.cond (.txt []) .leaf)) (.seq (.plan [25] (.take 0 Ac (.take 1 Ac (.take 2 Ac (.take 3 Ac (.take 4 Ac (.take 5 Ac (.take 6 Ac (.take 7 Ac (.take 8 Ac (.take 9 Ac (.take 10 Ac (.take 11 Ac (.take 12 Ac (.take 13 Ac (.take 14 Ac (.take 15 Ac (.take 16 Ac (.take 17 Ac (.take 18 Ac (.take 19 Ac (.take 22 Ac (.alt 20 true Ac (.take 21 Ac (.alt 23 true Ac (.take 24 Ac (.alt 25 false Ac (.take 26 Ac .done) .done)) (.alt 25 false Ac (.take 23 Ac (.take 24 Ac (.take 26 Ac .done))) .done))) (.alt 23 true Ac (.alt 20 true Ac (.take 21 Ac (.take 24 Ac (.alt 25 false Ac (.take 26 Ac .done) .done))) (.alt 25 false Ac (.take 20 Ac (.take 21 Ac (.take 24 Ac (.take 26 Ac .done)))) .done)) (.alt 25 false Ac (.take 20 Ac (.take 21 Ac (.take 23 Ac (.take 24 Ac (.take 26 Ac .done))))) .done))))))))))))))))))))))))) .leaf))))))
set_option maxRecDepth 100000 in
theorem Li (σ : Hp) (a0_Parking_A : Option Addr) (a0_Parking_n : Nat) (a0_Parking_c : Nat) (a0_Roads_A : Option Addr) (a0_Roads_n : Nat) (a0_Roads_c : Nat) (a1_Height : Int) (a1_Weight : Int) (a1_From : Int) (a1_Ready : Int) (a1_Drive : Int) (a1_Rest : Int) (a2_at : Int) (a2_since : Int) (a2_driven : Int) (a3_Road : Int) (a3_Depart : Int) (R : Value → Hp → Prop) (h : GO σ a0_Parking_A a0_Parking_n a0_Parking_c a0_Roads_A a0_Roads_n a0_Roads_c a1_Height a1_Weight a1_From a1_Ready a1_Drive a1_Rest a2_at a2_since a2_driven a3_Road a3_Depart R) : Ah Try.prog 65 #[(.agg #[(.slice a0_Parking_A a0_Parking_n a0_Parking_c), (.slice a0_Roads_A a0_Roads_n a0_Roads_c)]), (.agg #[(.int .i64 a1_Height), (.int .i64 a1_Weight), (.int .i64 a1_From), (.int .i64 a1_Ready), (.int .i64 a1_Drive), (.int .i64 a1_Rest)]), (.agg #[(.int .i64 a2_at), (.int .i64 a2_since), (.int .i64 a2_driven)]), (.agg #[(.int .i64 a3_Road), (.int .i64 a3_Depart)])] σ R :=
  Ak BC Lp Try.func65 rfl (by kernel_rfl) (by kernel_rfl) (M := GO σ a0_Parking_A a0_Parking_n a0_Parking_c a0_Roads_A a0_Roads_n a0_Roads_c a1_Height a1_Weight a1_From a1_Ready a1_Drive a1_Rest a2_at a2_since a2_driven a3_Road a3_Depart R) (by kernel_rfl) h
theorem IT : AA Try.prog 65 = true := by kernel_rfl
abbrev Lo : FuncId := 88
def El (σ : Hp) (_ : Int) (a0_s_since : Int) (_ : Int) (a0_j_A : Option Addr) (a0_j_n : Nat) (_ : Nat) (_ : Int) (a1_s_since : Int) (_ : Int) (a1_j_A : Option Addr) (a1_j_n : Nat) (_ : Nat) (R : Value → Hp → Prop) : Prop :=
  bc (!decide (a0_s_since = a1_s_since)) (rt σ R (.bool (decide (a0_s_since < a1_s_since)))) (bc (!decide (((a0_j_n : Nat) : Int) = ((a1_j_n : Nat) : Int))) (rt σ R (.bool (decide (((a0_j_n : Nat) : Int) < ((a1_j_n : Nat) : Int))))) (cut (α := Hp → Prop) (fun  σ2 => 
    ∀ _ : Nat → Value, rt σ2 R (.bool false)) (fun J3 => ∃ I6 : Nat → Int → Hp → Prop, (∃ n70, I6 n70 0 σ) ∧ 
    ∀ n7 : Nat, ∀ n8 : Int, ∀ σ5 : Hp, I6 n7 n8 σ5 → ∀ _ : Nat → Value, bc (decide (n8 < ((a0_j_n : Nat) : Int))) (ix a0_j_A a0_j_n n8 2 (fun b9 a10 => 
    ldI σ5 .i64 b9 a10 (fun n11 => ix a1_j_A a1_j_n n8 2 (fun b12 a13 => ldI σ5 .i64 b12 a13 (fun n14 => 
    bc (!decide (n11 = n14)) (ix a0_j_A a0_j_n n8 2 (fun b15 a16 => ldI σ5 .i64 b15 a16 (fun n17 => ix a1_j_A a1_j_n n8 2 (fun b18 a19 => 
    ldI σ5 .i64 b18 a19 (fun n20 => rt σ5 R (.bool (decide (n17 < n20)))))))) (ix a0_j_A a0_j_n n8 2 (fun b21 a22 => 
    ldI σ5 .i64 b21 (a22 + 1) (fun n23 => ix a1_j_A a1_j_n n8 2 (fun b24 a25 => ldI σ5 .i64 b24 (a25 + 1) (fun n26 => 
    bc (!decide (n23 = n26)) (ix a0_j_A a0_j_n n8 2 (fun b27 a28 => ldI σ5 .i64 b27 (a28 + 1) (fun n29 => 
    ix a1_j_A a1_j_n n8 2 (fun b30 a31 => ldI σ5 .i64 b30 (a31 + 1) (fun n32 => rt σ5 R (.bool (decide (n29 < n32)))))))) (wk .i64 (n8 + 1) (fun n33 => 
    bk σ5 n7 (fun m34 σ35 => I6 m34 n33 σ35))))))))))))) (J3 σ5))))
def As : OA := ⟨[], false, []⟩
def EP : MAn := (.seq (.plan [] (.take 0 As (.take 1 As (.take 2 As (.take 3 As (.take 4 As (.take 5 As (.take 6 As (.take 7 As (.take 8 As (.take 9 As (.take 10 As (.take 11 As (.take 12 As .done)))))))))))))) (.cond (.seq (.plan [] (.take 0 As (.take 1 As (.take 2 As (.take 3 As (.take 4 As (.take 5 As (.take 6 As (.take 7 As (.take 8 As (.take 9 As (.take 10 As (.take 11 As (.take 12 As (.take 13 As .done))))))))))))))) .leaf) .leaf))
def IW : MAn := (.seq (.txt []) (.seq (.seq (.txt []) (.cond (.seq (.txt []) .leaf) .leaf)) (.seq (.seq (.txt []) (.cond (.seq (.txt []) .leaf) .leaf)) (.cut ⟨[true, true], 2, [], []⟩ (.seq (.txt []) (.block (.loop ⟨[true, true], 2, [.slot 2 (.hb 0 0), .slot 3 (.hb 1 0), .slot 5 (.sc (.int .i64))], []⟩ (.seq (.seq (.txt []) (.cond .leaf .leaf)) (.seq (.block (.seq EP EP)) (.txt [])))))) (.seq (.txt []) .leaf)))))
set_option maxRecDepth 100000 in
theorem JD (σ : Hp) (a0_s_at : Int) (a0_s_since : Int) (a0_s_driven : Int) (a0_j_A : Option Addr) (a0_j_n : Nat) (a0_j_c : Nat) (a1_s_at : Int) (a1_s_since : Int) (a1_s_driven : Int) (a1_j_A : Option Addr) (a1_j_n : Nat) (a1_j_c : Nat) (R : Value → Hp → Prop) (h : El σ a0_s_at a0_s_since a0_s_driven a0_j_A a0_j_n a0_j_c a1_s_at a1_s_since a1_s_driven a1_j_A a1_j_n a1_j_c R) : Ah Try.prog 88 #[(.agg #[(.int .i64 a0_s_at), (.int .i64 a0_s_since), (.int .i64 a0_s_driven), (.slice a0_j_A a0_j_n a0_j_c)]), (.agg #[(.int .i64 a1_s_at), (.int .i64 a1_s_since), (.int .i64 a1_s_driven), (.slice a1_j_A a1_j_n a1_j_c)])] σ R :=
  Ak BC IW Try.func88 rfl (by kernel_rfl) (by kernel_rfl) (M := El σ a0_s_at a0_s_since a0_s_driven a0_j_A a0_j_n a0_j_c a1_s_at a1_s_since a1_s_driven a1_j_A a1_j_n a1_j_c R) (by kernel_rfl) h
theorem DD : AA Try.prog 88 = true := by kernel_rfl
abbrev Mf : FuncId := 87
def E3 (σ : Hp) (a0_Parking_A : Option Addr) (a0_Parking_n : Nat) (a0_Parking_c : Nat) (a0_Roads_A : Option Addr) (a0_Roads_n : Nat) (a0_Roads_c : Nat) (a1_Height : Int) (a1_Weight : Int) (a1_From : Int) (a1_Ready : Int) (a1_Drive : Int) (a1_Rest : Int) (R : Value → Hp → Prop) : Prop :=
  cut (α := List (Int × Int × Int × (Option Addr × Nat × Nat)) → Hp → Prop) (fun xs4 σ2 => ∀ _ : Nat → Value, 
    exl 90 [.int .i64, .int .i64, .int .i64, .slc] xs4 σ2 (fun A5 l5 c5 σ6 => rt σ6 R (.slice A5 l5 c5))) (fun J3 => 
    ∃ I9 : Nat → Bool → List (Int × Int × Int × (Option Addr × Nat × Nat)) → Hp → Prop, (∃ n100, I9 n100 true ([(a1_From, a1_Ready, 0, (none, 0, 0))] : List (Int × Int × Int × (Option Addr × Nat × Nat))) σ) ∧ 
    ∀ n10 : Nat, ∀ t11 : Bool, ∀ xs12 : List (Int × Int × Int × (Option Addr × Nat × Nat)), ∀ σ8 : Hp, I9 n10 t11 xs12 σ8 → ∀ _ : Nat → Value, bc t11 (∃ I15 : Nat → Bool → Int → List (Int × Int × Int × (Option Addr × Nat × Nat)) → Hp → Prop, (∃ n160, I15 n160 false 0 xs12 σ8) ∧ 
    ∀ n16 : Nat, ∀ t17 : Bool, ∀ n18 : Int, ∀ xs19 : List (Int × Int × Int × (Option Addr × Nat × Nat)), ∀ σ14 : Hp, I15 n16 t17 n18 xs19 σ14 → ∀ _ : Nat → Value, bc (decide (n18 < ((List.length xs19 : Nat) : Int))) (cut (α := Bool → List (Int × Int × Int × (Option Addr × Nat × Nat)) → Hp → Prop) (fun t23 xs24 σ21 => 
    ∀ _ : Nat → Value, wk .i64 (n18 + 1) (fun n25 => bk σ21 n16 (fun m26 σ27 => I15 m26 t23 n25 xs24 σ27))) (fun J22 => 
    ∃ I30 : Nat → Bool → Int → List (Int × Int × Int × (Option Addr × Nat × Nat)) → Hp → Prop, (∃ n310, I30 n310 t17 0 xs19 σ14) ∧ 
    ∀ n31 : Nat, ∀ t32 : Bool, ∀ n33 : Int, ∀ xs34 : List (Int × Int × Int × (Option Addr × Nat × Nat)), ∀ σ29 : Hp, I30 n31 t32 n33 xs34 σ29 → ∀ _ : Nat → Value, bc (decide (n33 < ((a0_Roads_n : Nat) : Int))) (cut (α := Bool → List (Int × Int × Int × (Option Addr × Nat × Nat)) → Hp → Prop) (fun t38 xs39 σ36 => 
    ∀ _ : Nat → Value, wk .i64 (n33 + 1) (fun n40 => bk σ36 n31 (fun m41 σ42 => I30 m41 t38 n40 xs39 σ42))) (fun J37 => 
    ∃ I45 : Nat → Bool → Int → List (Int × Int × Int × (Option Addr × Nat × Nat)) → Hp → Prop, (∃ n460, I45 n460 t32 0 xs34 σ29) ∧ 
    ∀ n46 : Nat, ∀ t47 : Bool, ∀ n48 : Int, ∀ xs49 : List (Int × Int × Int × (Option Addr × Nat × Nat)), ∀ σ44 : Hp, I45 n46 t47 n48 xs49 σ44 → ∀ _ : Nat → Value, bc (decide (n48 < 2)) (cut (α := List (Int × Int × Int × (Option Addr × Nat × Nat)) → Bool → Hp → Prop) (fun xs53 t54 σ51 => 
    ∀ _ : Nat → Value, wk .i64 (n48 + 1) (fun n55 => bk σ51 n46 (fun m56 σ57 => I45 m56 t54 n55 xs53 σ57))) (fun J52 => 
    (0 ≤ n18 ∧ n18 < ((List.length xs49 : Nat) : Int) ∧ lat xs49 ((n18 : Int).toNat) (fun r58 => wk .i64 (n48 * a1_Rest) (fun n59 => 
    wk .i64 (r58.2.1 + n59) (fun n60 => cl Try.prog (.func (.func 65) #[] #[]) #[(.agg #[(.slice a0_Parking_A a0_Parking_n a0_Parking_c), (.slice a0_Roads_A a0_Roads_n a0_Roads_c)]), (.agg #[(.int .i64 a1_Height), (.int .i64 a1_Weight), (.int .i64 a1_From), (.int .i64 a1_Ready), (.int .i64 a1_Drive), (.int .i64 a1_Rest)]), (.agg #[(.int .i64 r58.1), (.int .i64 r58.2.1), (.int .i64 r58.2.2.1)]), (.agg #[(.int .i64 n33), (.int .i64 n60)])] σ44 (fun v61 σ62 => 
    ∃ n63 : Int, ∃ n64 : Int, ∃ n65 : Int, ∃ t66 : Bool, (v61 = (.tuple #[(.agg #[(.int .i64 n63), (.int .i64 n64), (.int .i64 n65)]), (.bool t66)]) ∧ 
    bc (!t66) (J52 xs49 t47 σ62) (cut (α := Option Addr → Hp → Prop) (fun p70 σ68 => ∀ _ : Nat → Value, 
    cut (α := Int → Hp → Prop) (fun n74 σ72 => ∀ _ : Nat → Value, bc (decide (n74 = ((List.length xs49 : Nat) : Int))) (dr p70 (fun b75 o76 => 
    ldI σ72 .i64 b75 o76 (fun n77 => ldI σ72 .i64 b75 (o76 + 1) (fun n78 => ldI σ72 .i64 b75 (o76 + 2) (fun n79 => 
    ldS σ72 b75 (o76 + 3) (fun A80 l80 c80 => Ba (List.length xs49 + List.length ([(n77, n78, n79, (A80, l80, c80))] : List (Int × Int × Int × (Option Addr × Nat × Nat)))) (J52 (xs49 ++ ([(n77, n78, n79, (A80, l80, c80))] : List (Int × Int × Int × (Option Addr × Nat × Nat)))) true σ72))))))) (dr p70 (fun b81 o82 => 
    ldI σ72 .i64 b81 o82 (fun n83 => ldI σ72 .i64 b81 (o82 + 1) (fun n84 => ldI σ72 .i64 b81 (o82 + 2) (fun n85 => 
    ldS σ72 b81 (o82 + 3) (fun A86 l86 c86 => (0 ≤ n74 ∧ n74 < ((List.length xs49 : Nat) : Int) ∧ lat xs49 ((n74 : Int).toNat) (fun r87 => 
    cl Try.prog (.func (.func 88) #[] #[]) #[(.agg #[(.int .i64 n83), (.int .i64 n84), (.int .i64 n85), (.slice A86 l86 c86)]), (.agg #[(.int .i64 r87.1), (.int .i64 r87.2.1), (.int .i64 r87.2.2.1), (.slice r87.2.2.2.1 r87.2.2.2.2.1 r87.2.2.2.2.2)])] σ72 (fun v88 σ89 => 
    ∃ t90 : Bool, (v88 = (.bool t90) ∧ bc t90 (dr p70 (fun b91 o92 => ldI σ89 .i64 b91 o92 (fun n93 => ldI σ89 .i64 b91 (o92 + 1) (fun n94 => 
    ldI σ89 .i64 b91 (o92 + 2) (fun n95 => ldS σ89 b91 (o92 + 3) (fun A96 l96 c96 => (0 ≤ n74 ∧ n74 < ((List.length xs49 : Nat) : Int) ∧ 
    lat xs49 ((n74 : Int).toNat) (fun _ => J52 (List.set xs49 ((n74 : Int).toNat) (n93, n94, n95, (A96, l96, c96))) true σ89)))))))) (J52 xs49 t47 σ89)))))))))))) (fun J73 => 
    ∃ I100 : Nat → Int → Hp → Prop, (∃ n1010, I100 n1010 0 σ68) ∧ ∀ n101 : Nat, ∀ n102 : Int, ∀ σ99 : Hp, I100 n101 n102 σ99 → ∀ _ : Nat → Value, cut (α := Hp → Prop) (fun  σ104 => 
    ∀ _ : Nat → Value, wk .i64 (n102 + 1) (fun n106 => bk σ104 n101 (fun m107 σ108 => I100 m107 n106 σ108))) (fun J105 => 
    cut (α := Bool → Hp → Prop) (fun t112 σ110 => ∀ _ : Nat → Value, bc t112 (J105 σ110) (J73 n102 σ110)) (fun J111 => 
    bc (decide (n102 < ((List.length xs49 : Nat) : Int))) ((0 ≤ n102 ∧ n102 < ((List.length xs49 : Nat) : Int) ∧ 
    lat xs49 ((n102 : Int).toNat) (fun r113 => bc (!decide (r113.1 = n63)) (J111 true σ99) ((0 ≤ n102 ∧ n102 < ((List.length xs49 : Nat) : Int) ∧ 
    lat xs49 ((n102 : Int).toNat) (fun r114 => J111 (!decide (r114.2.2.1 = n65)) σ99)))))) (J111 false σ99))))) (fun J69 => 
    (((∃ ys115 : List (Int × Int), RdS [.int .i64, .int .i64] σ62 r58.2.2.2.1 r58.2.2.2.2.1 ys115 ∧ Ba (List.length ([] : List (Int × Int)) + List.length ys115) (Ba (List.length (([] : List (Int × Int)) ++ ys115) + List.length ([(n33, n60)] : List (Int × Int))) (exl 60 [.int .i64, .int .i64] ((([] : List (Int × Int)) ++ ys115) ++ ([(n33, n60)] : List (Int × Int))) σ62 (fun A116 l116 c116 σ117 => 
    bx σ117 (.cells #[(.int .i64 n63), (.int .i64 n64), (.int .i64 n65), (.slice A116 l116 c116)] 90) (fun b118 σ119 => 
    J69 (some ⟨b118, 0, none⟩) σ119))))) ∧ (∃ ys120 : List (Int × Int), RdS [.int .i64, .int .i64] σ62 r58.2.2.2.1 r58.2.2.2.2.1 ys120 ∧ 
    Ba (List.length ([] : List (Int × Int)) + List.length ys120) (Ba (List.length (([] : List (Int × Int)) ++ ys120) + List.length ([(n33, n60)] : List (Int × Int))) (exl 60 [.int .i64, .int .i64] ((([] : List (Int × Int)) ++ ys120) ++ ([(n33, n60)] : List (Int × Int))) σ62 (fun A121 l121 c121 σ122 => 
    bx σ122 (.cells #[(.int .i64 n63), (.int .i64 n64), (.int .i64 n65), (.slice A121 l121 c121)] 90) (fun b123 σ124 => 
    J69 (some ⟨b123, 0, none⟩) σ124)))))) ∧ (∃ ys125 : List (Int × Int), RdS [.int .i64, .int .i64] σ62 r58.2.2.2.1 r58.2.2.2.2.1 ys125 ∧ 
    Ba (List.length ([] : List (Int × Int)) + List.length ys125) (((Ba (List.length (([] : List (Int × Int)) ++ ys125) + List.length ([(n33, n60)] : List (Int × Int))) (exl 60 [.int .i64, .int .i64] ((([] : List (Int × Int)) ++ ys125) ++ ([(n33, n60)] : List (Int × Int))) σ62 (fun A126 l126 c126 σ127 => 
    bx σ127 (.cells #[(.int .i64 n63), (.int .i64 n64), (.int .i64 n65), (.slice A126 l126 c126)] 90) (fun b128 σ129 => 
    J69 (some ⟨b128, 0, none⟩) σ129)))) ∧ (Ba (List.length (([] : List (Int × Int)) ++ ys125) + List.length ([(n33, n60)] : List (Int × Int))) (exl 60 [.int .i64, .int .i64] ((([] : List (Int × Int)) ++ ys125) ++ ([(n33, n60)] : List (Int × Int))) σ62 (fun A130 l130 c130 σ131 => 
    bx σ131 (.cells #[(.int .i64 n63), (.int .i64 n64), (.int .i64 n65), (.slice A130 l130 c130)] 90) (fun b132 σ133 => 
    J69 (some ⟨b132, 0, none⟩) σ133))))))) ∧ ((∃ ys134 : List (Int × Int), RdS [.int .i64, .int .i64] σ62 r58.2.2.2.1 r58.2.2.2.2.1 ys134 ∧ 
    Ba (List.length ([] : List (Int × Int)) + List.length ys134) (Ba (List.length (([] : List (Int × Int)) ++ ys134) + List.length ([(n33, n60)] : List (Int × Int))) (exl 60 [.int .i64, .int .i64] ((([] : List (Int × Int)) ++ ys134) ++ ([(n33, n60)] : List (Int × Int))) σ62 (fun A135 l135 c135 σ136 => 
    bx σ136 (.cells #[(.int .i64 n63), (.int .i64 n64), (.int .i64 n65), (.slice A135 l135 c135)] 90) (fun b137 σ138 => 
    J69 (some ⟨b137, 0, none⟩) σ138))))) ∧ (∃ ys139 : List (Int × Int), RdS [.int .i64, .int .i64] σ62 r58.2.2.2.1 r58.2.2.2.2.1 ys139 ∧ 
    Ba (List.length ([] : List (Int × Int)) + List.length ys139) (((Ba (List.length (([] : List (Int × Int)) ++ ys139) + List.length ([(n33, n60)] : List (Int × Int))) (exl 60 [.int .i64, .int .i64] ((([] : List (Int × Int)) ++ ys139) ++ ([(n33, n60)] : List (Int × Int))) σ62 (fun A140 l140 c140 σ141 => 
    bx σ141 (.cells #[(.int .i64 n63), (.int .i64 n64), (.int .i64 n65), (.slice A140 l140 c140)] 90) (fun b142 σ143 => 
    J69 (some ⟨b142, 0, none⟩) σ143)))) ∧ (Ba (List.length (([] : List (Int × Int)) ++ ys139) + List.length ([(n33, n60)] : List (Int × Int))) (exl 60 [.int .i64, .int .i64] ((([] : List (Int × Int)) ++ ys139) ++ ([(n33, n60)] : List (Int × Int))) σ62 (fun A144 l144 c144 σ145 => 
    bx σ145 (.cells #[(.int .i64 n63), (.int .i64 n64), (.int .i64 n65), (.slice A144 l144 c144)] 90) (fun b146 σ147 => 
    J69 (some ⟨b146, 0, none⟩) σ147))))))))))))))))))) (J37 t47 xs49 σ44))) (J22 t32 xs34 σ29))) (bk σ14 n10 (fun m148 σ149 => 
    I9 m148 t17 xs19 σ149))) (J3 xs12 σ8))
def Ad : OA := ⟨[], false, []⟩
def Cv : MPlan := (.alt 7 false Ad (.take 8 Ad (.alt 10 false Ad .done .done)) .done)
def Fy : MPlan := (.alt 0 true Ad Cv (.alt 7 false Ad (.take 0 Ad (.take 8 Ad (.alt 10 false Ad .done .done))) .done))
def Ko : MAn := (.seq (.txt []) (.seq (.txt []) (.cut ⟨[true, true, false], 3, [.slot 5 (.hl 2 0), .modl 2 0 90 [.int .i64, .int .i64, .int .i64, .slc]], []⟩ (.seq (.txt []) (.block (.loop ⟨[true, true, false], 3, [.slot 2 (.hb 0 0), .slot 3 (.hb 1 0), .slot 5 (.hl 2 0), .slot 6 (.sc (.bool)), .modl 2 0 90 [.int .i64, .int .i64, .int .i64, .slc]], []⟩ (.seq (.seq (.txt []) (.cond .leaf .leaf)) (.block (.seq (.txt []) (.seq (.txt []) (.block (.loop ⟨[true, true, false], 3, [.slot 2 (.hb 0 0), .slot 3 (.hb 1 0), .slot 5 (.hl 2 0), .slot 6 (.sc (.bool)), .slot 7 (.sc (.int .i64)), .modl 2 0 90 [.int .i64, .int .i64, .int .i64, .slc]], []⟩ (.seq (.seq (.txt []) (.cond .leaf .leaf)) (.cut ⟨[true, true, false], 3, [.slot 2 (.hb 0 0), .slot 3 (.hb 1 0), .slot 5 (.hl 2 0), .slot 6 (.sc (.bool)), .modl 2 0 90 [.int .i64, .int .i64, .int .i64, .slc]], [(7, true)]⟩ (.block (.seq (.txt []) (.block (.loop ⟨[true, true, false], 3, [.slot 2 (.hb 0 0), .slot 3 (.hb 1 0), .slot 5 (.hl 2 0), .slot 6 (.sc (.bool)), .slot 8 (.sc (.int .i64)), .modl 2 0 90 [.int .i64, .int .i64, .int .i64, .slc]], [(7, true)]⟩ (.seq (.seq (.txt []) (.cond .leaf .leaf)) (.cut ⟨[true, true, false], 3, [.slot 2 (.hb 0 0), .slot 3 (.hb 1 0), .slot 5 (.hl 2 0), .slot 6 (.sc (.bool)), .modl 2 0 90 [.int .i64, .int .i64, .int .i64, .slc]], [(7, true), (8, true)]⟩ (.block (.seq (.txt []) (.block (.loop ⟨[true, true, false], 3, [.slot 2 (.hb 0 0), .slot 3 (.hb 1 0), .slot 5 (.hl 2 0), .slot 6 (.sc (.bool)), .slot 9 (.sc (.int .i64)), .modl 2 0 90 [.int .i64, .int .i64, .int .i64, .slc]], [(7, true), (8, true)]⟩ (.seq (.seq (.txt []) (.cond .leaf .leaf)) (.cut ⟨[true, true, false], 3, [.slot 2 (.hb 0 0), .slot 3 (.hb 1 0), .slot 5 (.lst 2 90 [.int .i64, .int .i64, .int .i64, .slc]), .slot 6 (.sc (.bool))], [(7, true), (8, true), (9, true)]⟩ (.block (.seq (.txt []) (.seq (.txt []) (.seq (.txt []) (.seq (.seq (.txt []) (.cond .leaf .leaf)) (.cut ⟨[true, true, true, true, true, true], 6, [.slot 2 (.hb 0 0), .slot 3 (.hb 1 0), .slot 5 (.hl 2 0), .slot 12 (.hb 5 0), .slot 14 (.sc (.ptr))], [(6, true), (7, true), (8, true), (9, true)]⟩ (.plan [4, 7, 10] (.take 2 Ad (.take 3 Ad (.new 1 Ad (.new 9 Ad (.alt 0 true Ad (.alt 4 false Ad (.take 5 Ad (.alt 6 true Ad Cv .done)) (.alt 5 true Ad (.new 6 Ad (.alt 4 false Ad Cv .done)) .done)) (.alt 4 false Ad (.take 5 Ad (.new 6 Ad Fy)) (.alt 5 true Ad (.new 6 Ad (.alt 0 true Ad (.alt 4 false Ad Cv .done) (.alt 4 false Ad Fy .done))) .done)))))))) (.seq (.txt []) (.cut ⟨[true, true, true, true, true, true], 6, [.slot 2 (.hb 0 0), .slot 3 (.hb 1 0), .slot 5 (.hl 2 0), .slot 15 (.sc (.int .i64))], [(6, true), (7, true), (8, true), (9, true), (14, true)]⟩ (.block (.loop ⟨[true, true, true, true, true, true], 6, [.slot 2 (.hb 0 0), .slot 3 (.hb 1 0), .slot 5 (.hl 2 0), .slot 12 (.hb 5 0), .slot 15 (.sc (.int .i64))], [(6, true), (7, true), (8, true), (9, true), (14, true)]⟩ (.cut ⟨[true, true, true, true, true, true], 6, [.slot 2 (.hb 0 0), .slot 3 (.hb 1 0), .slot 5 (.hl 2 0), .slot 12 (.hb 5 0)], [(6, true), (7, true), (8, true), (9, true), (14, true), (15, true)]⟩ (.cut ⟨[true, true, true, true, true, true], 6, [.slot 2 (.hb 0 0), .slot 3 (.hb 1 0), .slot 5 (.hl 2 0), .slot 12 (.hb 5 0), .slot 100 (.sc (.bool))], [(6, true), (7, true), (8, true), (9, true), (14, true), (15, true)]⟩ (.plan [] (.take 0 Ad (.take 1 Ad (.take 2 Ad (.take 3 Ad (.take 4 ⟨[], true, []⟩ (.take 5 Ad (.take 6 Ad (.take 7 Ad (.take 8 Ad (.take 9 Ad (.take 10 Ad (.take 11 Ad (.take 12 Ad (.take 13 Ad (.take 14 ⟨[], true, []⟩ (.take 15 Ad (.take 16 Ad (.take 17 Ad (.take 18 Ad (.take 19 Ad (.take 20 Ad (.take 21 Ad (.take 22 Ad (.take 23 Ad (.take 24 Ad (.take 25 Ad .done))))))))))))))))))))))))))) (.cond .leaf .leaf)) (.block (.txt []))))) (.seq (.txt []) (.cond (.seq (.txt []) (.txt [])) (.seq (.plan [5] (.take 0 Ad (.take 1 Ad (.take 2 Ad (.take 3 Ad (.take 4 Ad (.alt 5 false Ad .done .done))))))) (.cond (.seq (.txt []) (.txt [])) .leaf)))))))))))) (.txt []))))))) (.txt []))))))) (.txt [])))))))))))) (.seq (.txt []) .leaf))))
set_option maxRecDepth 100000 in
theorem Kb (σ : Hp) (a0_Parking_A : Option Addr) (a0_Parking_n : Nat) (a0_Parking_c : Nat) (a0_Roads_A : Option Addr) (a0_Roads_n : Nat) (a0_Roads_c : Nat) (a1_Height : Int) (a1_Weight : Int) (a1_From : Int) (a1_Ready : Int) (a1_Drive : Int) (a1_Rest : Int) (R : Value → Hp → Prop) (h : E3 σ a0_Parking_A a0_Parking_n a0_Parking_c a0_Roads_A a0_Roads_n a0_Roads_c a1_Height a1_Weight a1_From a1_Ready a1_Drive a1_Rest R) : Ah Try.prog 87 #[(.agg #[(.slice a0_Parking_A a0_Parking_n a0_Parking_c), (.slice a0_Roads_A a0_Roads_n a0_Roads_c)]), (.agg #[(.int .i64 a1_Height), (.int .i64 a1_Weight), (.int .i64 a1_From), (.int .i64 a1_Ready), (.int .i64 a1_Drive), (.int .i64 a1_Rest)])] σ R :=
  Ak BC Ko Try.func87 rfl (by kernel_rfl) (by kernel_rfl) (M := E3 σ a0_Parking_A a0_Parking_n a0_Parking_c a0_Roads_A a0_Roads_n a0_Roads_c a1_Height a1_Weight a1_From a1_Ready a1_Drive a1_Rest R) (by kernel_rfl) h
theorem HH : AA Try.prog 87 = true := by kernel_rfl
abbrev Mc : FuncId := 53
def Ff (σ : Hp) (m_Parking_A : Option Addr) (m_Parking_n : Nat) (m_Parking_c : Nat) (m_Roads_A : Option Addr) (m_Roads_n : Nat) (m_Roads_c : Nat) (l_Height : Int) (l_Weight : Int) (l_From : Int) (l_Ready : Int) (l_Drive : Int) (l_Rest : Int) (to : Int) (R : Value → Hp → Prop) : Prop :=
  cl Try.prog (.func (.func 87) #[] #[]) #[(.agg #[(.slice m_Parking_A m_Parking_n m_Parking_c), (.slice m_Roads_A m_Roads_n m_Roads_c)]), (.agg #[(.int .i64 l_Height), (.int .i64 l_Weight), (.int .i64 l_From), (.int .i64 l_Ready), (.int .i64 l_Drive), (.int .i64 l_Rest)])] σ (fun v1 σ2 => 
    ∃ A3 : Option Addr, ∃ l3 : Nat, ∃ c3 : Nat, (v1 = (.slice A3 l3 c3) ∧ cut (α := Int → Hp → Prop) (fun n7 σ5 => 
    ∀ _ : Nat → Value, bc (decide (n7 < 0)) (rt σ5 R (.tuple #[(.agg #[(.int .i64 0), (.int .i64 0), (.int .i64 0), (.slice none 0 0)]), (.bool false)])) (ix A3 l3 n7 4 (fun b8 a9 => 
    ldI σ5 .i64 b8 a9 (fun n10 => ldI σ5 .i64 b8 (a9 + 1) (fun n11 => ldI σ5 .i64 b8 (a9 + 2) (fun n12 => 
    ldS σ5 b8 (a9 + 3) (fun A13 l13 c13 => rt σ5 R (.tuple #[(.agg #[(.int .i64 n10), (.int .i64 n11), (.int .i64 n12), (.slice A13 l13 c13)]), (.bool true)])))))))) (fun J6 => 
    ∃ I16 : Nat → Int → Int → Hp → Prop, (∃ n170, I16 n170 (-1) 0 σ2) ∧ ∀ n17 : Nat, ∀ n18 : Int, ∀ n19 : Int, ∀ σ15 : Hp, I16 n17 n18 n19 σ15 → ∀ _ : Nat → Value, bc (decide (n19 < ((l3 : Nat) : Int))) (cut (α := Int → Hp → Prop) (fun n23 σ21 => 
    ∀ _ : Nat → Value, wk .i64 (n19 + 1) (fun n24 => bk σ21 n17 (fun m25 σ26 => I16 m25 n23 n24 σ26))) (fun J22 => 
    cut (α := Bool → Hp → Prop) (fun t30 σ28 => ∀ _ : Nat → Value, bc t30 (J22 n19 σ28) (J22 n18 σ28)) (fun J29 => 
    ix A3 l3 n19 4 (fun b31 a32 => ldI σ15 .i64 b31 a32 (fun n33 => bc (decide (n33 = to)) (bc (decide (n18 < 0)) (J29 true σ15) (ix A3 l3 n19 4 (fun b34 a35 => 
    ldI σ15 .i64 b34 a35 (fun n36 => ldI σ15 .i64 b34 (a35 + 1) (fun n37 => ldI σ15 .i64 b34 (a35 + 2) (fun n38 => 
    ldS σ15 b34 (a35 + 3) (fun A39 l39 c39 => ix A3 l3 n18 4 (fun b40 a41 => ldI σ15 .i64 b40 a41 (fun n42 => 
    ldI σ15 .i64 b40 (a41 + 1) (fun n43 => ldI σ15 .i64 b40 (a41 + 2) (fun n44 => ldS σ15 b40 (a41 + 3) (fun A45 l45 c45 => 
    cl Try.prog (.func (.func 88) #[] #[]) #[(.agg #[(.int .i64 n36), (.int .i64 n37), (.int .i64 n38), (.slice A39 l39 c39)]), (.agg #[(.int .i64 n42), (.int .i64 n43), (.int .i64 n44), (.slice A45 l45 c45)])] σ15 (fun v46 σ47 => 
    ∃ t48 : Bool, (v46 = (.bool t48) ∧ J29 t48 σ47)))))))))))))) (J29 false σ15)))))) (J6 n18 σ15))))
def AB : OA := ⟨[], false, []⟩
def JM : MAn := (.seq (.txt []) (.seq (.txt []) (.seq (.txt []) (.cut ⟨[true, true, true], 3, [.slot 6 (.hb 2 0), .slot 9 (.sc (.int .i64))], [(8, true)]⟩ (.seq (.txt []) (.block (.loop ⟨[true, true, true], 3, [.slot 6 (.hb 2 0), .slot 9 (.sc (.int .i64)), .slot 10 (.sc (.int .i64))], [(2, true), (8, true)]⟩ (.seq (.seq (.txt []) (.cond .leaf .leaf)) (.cut ⟨[true, true, true], 3, [.slot 6 (.hb 2 0), .slot 9 (.sc (.int .i64))], [(2, true), (8, true), (10, true)]⟩ (.block (.cut ⟨[true, true, true], 3, [.slot 6 (.hb 2 0), .slot 42 (.sc (.bool))], [(2, true), (8, true), (9, true), (10, true)]⟩ (.plan [20] (.take 0 AB (.take 1 AB (.take 2 AB (.take 3 AB (.take 4 AB (.take 5 AB (.take 6 AB (.take 7 AB (.take 8 ⟨[], true, []⟩ (.take 9 AB (.take 10 AB (.take 11 ⟨[], true, []⟩ (.take 12 AB (.take 13 AB (.take 14 AB (.take 15 AB (.take 16 AB (.take 17 AB (.take 18 AB (.take 19 AB (.alt 20 false AB (.take 21 AB (.take 22 AB .done)) .done)))))))))))))))))))))) (.cond (.txt []) .leaf))) (.txt [])))))) (.seq (.seq (.txt []) (.cond (.seq (.txt []) .leaf) .leaf)) (.seq (.txt []) .leaf))))))
set_option maxRecDepth 100000 in
theorem Kh (σ : Hp) (m_Parking_A : Option Addr) (m_Parking_n : Nat) (m_Parking_c : Nat) (m_Roads_A : Option Addr) (m_Roads_n : Nat) (m_Roads_c : Nat) (l_Height : Int) (l_Weight : Int) (l_From : Int) (l_Ready : Int) (l_Drive : Int) (l_Rest : Int) (to : Int) (R : Value → Hp → Prop) (h : Ff σ m_Parking_A m_Parking_n m_Parking_c m_Roads_A m_Roads_n m_Roads_c l_Height l_Weight l_From l_Ready l_Drive l_Rest to R) : Ah Try.prog 53 #[(.agg #[(.slice m_Parking_A m_Parking_n m_Parking_c), (.slice m_Roads_A m_Roads_n m_Roads_c)]), (.agg #[(.int .i64 l_Height), (.int .i64 l_Weight), (.int .i64 l_From), (.int .i64 l_Ready), (.int .i64 l_Drive), (.int .i64 l_Rest)]), (.int .i64 to)] σ R :=
  Ak BC JM Try.func53 rfl (by kernel_rfl) (by kernel_rfl) (M := Ff σ m_Parking_A m_Parking_n m_Parking_c m_Roads_A m_Roads_n m_Roads_c l_Height l_Weight l_From l_Ready l_Drive l_Rest to R) (by kernel_rfl) h
theorem BZ : AA Try.prog 53 = true := by kernel_rfl
abbrev HN : FuncId := 66
def Cw (σ : Hp) (m_Parking_A : Option Addr) (m_Parking_n : Nat) (m_Parking_c : Nat) (m_Roads_A : Option Addr) (m_Roads_n : Nat) (m_Roads_c : Nat) (l_A : Option Addr) (l_n : Nat) (_ : Nat) (to : Int) (gap : Int) (R : Value → Hp → Prop) : Prop :=
  cl Try.prog (.func (.func 62) #[] #[]) #[(.agg #[(.slice m_Parking_A m_Parking_n m_Parking_c), (.slice m_Roads_A m_Roads_n m_Roads_c)])] σ (fun v1 σ2 => 
    ∃ n3 : Int, (v1 = (.int .i64 n3) ∧ bc (!decide (n3 = 0)) (rt σ2 R (.int .i64 n3)) (bc (decide ((8 : Int) < ((l_n : Nat) : Int))) (rt σ2 R (.int .i64 2)) (cut (α := Hp → Prop) (fun  σ5 => 
    ∀ _ : Nat → Value, cut (α := Hp → Prop) (fun  σ8 => ∀ _ : Nat → Value, rt σ8 R (.int .i64 0)) (fun J9 => 
    cut (α := Bool → Hp → Prop) (fun t13 σ11 => ∀ _ : Nat → Value, bc t13 (rt σ11 R (.int .i64 1)) (J9 σ11)) (fun J12 => 
    cl Try.prog (.func (.func 86) #[] #[]) #[(.agg #[(.slice m_Parking_A m_Parking_n m_Parking_c), (.slice m_Roads_A m_Roads_n m_Roads_c)]), (.int .i64 to)] σ5 (fun v14 σ15 => 
    ∃ t16 : Bool, (v14 = (.bool t16) ∧ bc (!t16) (J12 true σ15) (cl Try.prog (.func (.func 60) #[] #[]) #[(.int .i64 gap), (.int .i64 0), (.int .i64 100)] σ15 (fun v17 σ18 => 
    ∃ t19 : Bool, (v17 = (.bool t19) ∧ J12 (!t19) σ18)))))))) (fun J6 => ∃ I22 : Nat → Int → Hp → Prop, (∃ n230, I22 n230 0 σ2) ∧ 
    ∀ n23 : Nat, ∀ n24 : Int, ∀ σ21 : Hp, I22 n23 n24 σ21 → ∀ _ : Nat → Value, bc (decide (n24 < ((l_n : Nat) : Int))) (ix l_A l_n n24 6 (fun b25 a26 => 
    ldI σ21 .i64 b25 a26 (fun n27 => ldI σ21 .i64 b25 (a26 + 1) (fun n28 => ldI σ21 .i64 b25 (a26 + 2) (fun n29 => 
    ldI σ21 .i64 b25 (a26 + 3) (fun n30 => ldI σ21 .i64 b25 (a26 + 4) (fun n31 => ldI σ21 .i64 b25 (a26 + 5) (fun n32 => 
    cl Try.prog (.func (.func 63) #[] #[]) #[(.agg #[(.slice m_Parking_A m_Parking_n m_Parking_c), (.slice m_Roads_A m_Roads_n m_Roads_c)]), (.agg #[(.int .i64 n27), (.int .i64 n28), (.int .i64 n29), (.int .i64 n30), (.int .i64 n31), (.int .i64 n32)])] σ21 (fun v33 σ34 => 
    ∃ n35 : Int, (v33 = (.int .i64 n35) ∧ bc (!decide (n35 = 0)) (rt σ34 R (.int .i64 n35)) (wk .i64 (n24 + 1) (fun n36 => 
    bk σ34 n23 (fun m37 σ38 => I22 m37 n36 σ38))))))))))))) (J6 σ21))))))
def AI : OA := ⟨[], false, []⟩
def FV : MAn := (.seq (.txt []) (.seq (.txt []) (.seq (.seq (.txt []) (.cond (.seq (.txt []) .leaf) .leaf)) (.seq (.seq (.txt []) (.cond (.seq (.txt []) .leaf) .leaf)) (.cut ⟨[true], 1, [.slot 4 (.hb 0 0)], [(2, true), (3, true)]⟩ (.seq (.txt []) (.block (.loop ⟨[true], 1, [.slot 4 (.hb 0 0), .slot 10 (.sc (.int .i64))], [(1, true), (2, true), (3, true)]⟩ (.seq (.seq (.txt []) (.cond .leaf .leaf)) (.seq (.block (.seq (.plan [5] (.take 0 AI (.take 1 AI (.take 2 AI (.take 3 AI (.take 4 AI (.alt 5 false AI (.take 6 AI .done) .done))))))) (.seq (.txt []) (.cond (.seq (.txt []) .leaf) .leaf)))) (.txt [])))))) (.cut ⟨[true], 1, [], []⟩ (.cut ⟨[true], 1, [.slot 43 (.sc (.bool))], []⟩ (.txt [AI, AI, AI, AI, ⟨[], true, []⟩]) (.cond (.seq (.txt []) .leaf) .leaf)) (.seq (.txt []) .leaf)))))))
set_option maxRecDepth 100000 in
theorem FN (σ : Hp) (m_Parking_A : Option Addr) (m_Parking_n : Nat) (m_Parking_c : Nat) (m_Roads_A : Option Addr) (m_Roads_n : Nat) (m_Roads_c : Nat) (l_A : Option Addr) (l_n : Nat) (l_c : Nat) (to : Int) (gap : Int) (R : Value → Hp → Prop) (h : Cw σ m_Parking_A m_Parking_n m_Parking_c m_Roads_A m_Roads_n m_Roads_c l_A l_n l_c to gap R) : Ah Try.prog 66 #[(.agg #[(.slice m_Parking_A m_Parking_n m_Parking_c), (.slice m_Roads_A m_Roads_n m_Roads_c)]), (.slice l_A l_n l_c), (.int .i64 to), (.int .i64 gap)] σ R :=
  Ak BC FV Try.func66 rfl (by kernel_rfl) (by kernel_rfl) (M := Cw σ m_Parking_A m_Parking_n m_Parking_c m_Roads_A m_Roads_n m_Roads_c l_A l_n l_c to gap R) (by kernel_rfl) h
theorem EI : AA Try.prog 66 = true := by kernel_rfl
abbrev KP : FuncId := 70
def DU (σ : Hp) (m_Parking_A : Option Addr) (m_Parking_n : Nat) (m_Parking_c : Nat) (m_Roads_A : Option Addr) (m_Roads_n : Nat) (m_Roads_c : Nat) (l_A : Option Addr) (l_n : Nat) (_ : Nat) (to : Int) (R : Value → Hp → Prop) : Prop :=
  cut (α := List Int → Hp → Prop) (fun xs4 σ2 => ∀ _ : Nat → Value, exl 3 [.int .i64] xs4 σ2 (fun A5 l5 c5 σ6 => 
    rt σ6 R (.tuple #[(.slice A5 l5 c5), (.bool true)]))) (fun J3 => ∃ I9 : Nat → List Int → Int → Hp → Prop, (∃ n100, adp 3 [.int .i64] none 0 0 σ (fun (xs11 : List Int) σ12 => 
    I9 n100 xs11 0 σ12)) ∧ ∀ n10 : Nat, ∀ xs13 : List Int, ∀ n14 : Int, ∀ σ8 : Hp, I9 n10 xs13 n14 σ8 → ∀ _ : Nat → Value, bc (decide (n14 < ((l_n : Nat) : Int))) (cut (α := Option Addr → Bool → Hp → Prop) (fun p18 t19 σ16 => 
    ∀ _ : Nat → Value, bc (!t19) (rt σ16 R (.tuple #[(.slice none 0 0), (.bool false)])) (dr p18 (fun b20 o21 => 
    ldI σ16 .i64 b20 (o21 + 1) (fun n22 => Ba (List.length xs13 + List.length ([n22] : List Int)) (wk .i64 (n14 + 1) (fun n23 => 
    bk σ16 n10 (fun m24 σ25 => I9 m24 (xs13 ++ ([n22] : List Int)) n23 σ25))))))) (fun J17 => ix l_A l_n n14 6 (fun b26 a27 => 
    ldI σ8 .i64 b26 a27 (fun n28 => ldI σ8 .i64 b26 (a27 + 1) (fun n29 => ldI σ8 .i64 b26 (a27 + 2) (fun n30 => 
    ldI σ8 .i64 b26 (a27 + 3) (fun n31 => ldI σ8 .i64 b26 (a27 + 4) (fun n32 => ldI σ8 .i64 b26 (a27 + 5) (fun n33 => 
    ((cl Try.prog (.func (.func 53) #[] #[]) #[(.agg #[(.slice m_Parking_A m_Parking_n m_Parking_c), (.slice m_Roads_A m_Roads_n m_Roads_c)]), (.agg #[(.int .i64 n28), (.int .i64 n29), (.int .i64 n30), (.int .i64 n31), (.int .i64 n32), (.int .i64 n33)]), (.int .i64 to)] σ8 (fun v34 σ35 => 
    ∃ n36 : Int, ∃ n37 : Int, ∃ n38 : Int, ∃ A39 : Option Addr, ∃ l39 : Nat, ∃ c39 : Nat, ∃ t40 : Bool, (v34 = (.tuple #[(.agg #[(.int .i64 n36), (.int .i64 n37), (.int .i64 n38), (.slice A39 l39 c39)]), (.bool t40)]) ∧ 
    bx σ35 (.cells #[(.int .i64 n36), (.int .i64 n37), (.int .i64 n38), (.slice A39 l39 c39)] 90) (fun b41 σ42 => 
    J17 (some ⟨b41, 0, none⟩) t40 σ42)))) ∧ (cl Try.prog (.func (.func 53) #[] #[]) #[(.agg #[(.slice m_Parking_A m_Parking_n m_Parking_c), (.slice m_Roads_A m_Roads_n m_Roads_c)]), (.agg #[(.int .i64 n28), (.int .i64 n29), (.int .i64 n30), (.int .i64 n31), (.int .i64 n32), (.int .i64 n33)]), (.int .i64 to)] σ8 (fun v43 σ44 => 
    ∃ n45 : Int, ∃ n46 : Int, ∃ n47 : Int, ∃ A48 : Option Addr, ∃ l48 : Nat, ∃ c48 : Nat, ∃ t49 : Bool, (v43 = (.tuple #[(.agg #[(.int .i64 n45), (.int .i64 n46), (.int .i64 n47), (.slice A48 l48 c48)]), (.bool t49)]) ∧ 
    bx σ44 (.cells #[(.int .i64 n45), (.int .i64 n46), (.int .i64 n47), (.slice A48 l48 c48)] 90) (fun b50 σ51 => 
    J17 (some ⟨b50, 0, none⟩) t49 σ51)))))))))))))) (J3 xs13 σ8))
def Az : OA := ⟨[], false, []⟩
def Il : MAn := (.seq (.txt []) (.seq (.txt []) (.cut ⟨[true], 2, [.slot 8 (.lst 1 3 [.int .i64])], []⟩ (.seq (.txt []) (.block (.loop ⟨[true], 2, [.slot 3 (.hb 0 0), .slot 8 (.lst 1 3 [.int .i64]), .slot 9 (.sc (.int .i64))], [(1, true), (2, true)]⟩ (.seq (.seq (.txt []) (.cond .leaf .leaf)) (.seq (.block (.cut ⟨[true, true], 2, [.slot 3 (.hb 0 0), .slot 8 (.hl 1 0), .slot 10 (.sc (.ptr)), .slot 11 (.sc (.bool))], [(1, true), (2, true), (9, true)]⟩ (.plan [11, 6] (.take 0 Az (.take 1 Az (.take 2 Az (.take 3 Az (.take 4 Az (.take 5 Az (.alt 6 false Az (.take 7 Az (.take 8 Az (.take 9 Az (.alt 10 true Az (.alt 11 false Az (.take 12 Az .done) .done) .done)))) (.alt 10 true Az (.alt 6 false Az (.take 7 Az (.take 8 Az (.take 9 Az (.alt 11 false Az (.take 12 Az .done) .done)))) .done) .done))))))))) (.seq (.seq (.txt []) (.cond (.seq (.txt []) .leaf) .leaf)) (.txt [])))) (.txt [])))))) (.seq (.txt []) .leaf))))
set_option maxRecDepth 100000 in
theorem IC (σ : Hp) (m_Parking_A : Option Addr) (m_Parking_n : Nat) (m_Parking_c : Nat) (m_Roads_A : Option Addr) (m_Roads_n : Nat) (m_Roads_c : Nat) (l_A : Option Addr) (l_n : Nat) (l_c : Nat) (to : Int) (R : Value → Hp → Prop) (h : DU σ m_Parking_A m_Parking_n m_Parking_c m_Roads_A m_Roads_n m_Roads_c l_A l_n l_c to R) : Ah Try.prog 70 #[(.agg #[(.slice m_Parking_A m_Parking_n m_Parking_c), (.slice m_Roads_A m_Roads_n m_Roads_c)]), (.slice l_A l_n l_c), (.int .i64 to)] σ R :=
  Ak BC Il Try.func70 rfl (by kernel_rfl) (by kernel_rfl) (M := DU σ m_Parking_A m_Parking_n m_Parking_c m_Roads_A m_Roads_n m_Roads_c l_A l_n l_c to R) (by kernel_rfl) h
theorem GN : AA Try.prog 70 = true := by kernel_rfl
abbrev Mo : FuncId := 71
def EV (σ : Hp) (soon_A : Option Addr) (soon_n : Nat) (_ : Nat) (order_A : Option Addr) (order_n : Nat) (_ : Nat) (gap : Int) (R : Value → Hp → Prop) : Prop :=
  cut (α := List Int → Hp → Prop) (fun xs4 σ2 => ∀ _ : Nat → Value, exl 3 [.int .i64] xs4 σ2 (fun A5 l5 c5 σ6 => 
    rt σ6 R (.slice A5 l5 c5))) (fun J3 => ∃ I9 : Nat → List Int → Int → Hp → Prop, (∃ n100, adp 3 [.int .i64] none 0 0 σ (fun (xs11 : List Int) σ12 => 
    I9 n100 xs11 0 σ12)) ∧ ∀ n10 : Nat, ∀ xs13 : List Int, ∀ n14 : Int, ∀ σ8 : Hp, I9 n10 xs13 n14 σ8 → ∀ _ : Nat → Value, bc (decide (n14 < ((order_n : Nat) : Int))) (cut (α := List Int → Hp → Prop) (fun xs18 σ16 => 
    ∀ _ : Nat → Value, wk .i64 (n14 + 1) (fun n19 => bk σ16 n10 (fun m20 σ21 => I9 m20 xs18 n19 σ21))) (fun J17 => 
    ix order_A order_n n14 1 (fun b22 a23 => ldI σ8 .i64 b22 a23 (fun n24 => ix soon_A soon_n n24 1 (fun b25 a26 => 
    ldI σ8 .i64 b25 a26 (fun n27 => cut (α := Int → Hp → Prop) (fun n31 σ29 => ∀ _ : Nat → Value, Ba (List.length xs13 + List.length ([n31] : List Int)) (J17 (xs13 ++ ([n31] : List Int)) σ29)) (fun J30 => 
    bc (decide ((0 : Int) < n14)) (wk .i64 (n14 - 1) (fun n32 => (0 ≤ n32 ∧ n32 < ((List.length xs13 : Nat) : Int) ∧ 
    lat xs13 ((n32 : Int).toNat) (fun r33 => wk .i64 (r33 + gap) (fun n34 => J30 (if n34 > n27 then n34 else n27) σ8))))) (J30 n27 σ8)))))))) (J3 xs13 σ8))
def J1 : MAn := (.seq (.txt []) (.seq (.txt []) (.cut ⟨[], 1, [.slot 7 (.lst 0 3 [.int .i64])], []⟩ (.seq (.txt []) (.block (.loop ⟨[], 1, [.slot 7 (.lst 0 3 [.int .i64]), .slot 8 (.sc (.int .i64))], [(0, true), (1, true), (2, true)]⟩ (.seq (.seq (.txt []) (.cond .leaf .leaf)) (.cut ⟨[false], 1, [.slot 7 (.lst 0 3 [.int .i64])], [(0, true), (1, true), (2, true), (8, true)]⟩ (.block (.seq (.txt []) (.cut ⟨[true], 1, [.slot 7 (.hl 0 0), .slot 9 (.sc (.int .i64))], [(0, true), (1, true), (2, true), (8, true)]⟩ (.seq (.txt []) (.cond (.txt []) .leaf)) (.txt [])))) (.txt [])))))) (.seq (.txt []) .leaf))))
set_option maxRecDepth 100000 in
theorem JY (σ : Hp) (soon_A : Option Addr) (soon_n : Nat) (soon_c : Nat) (order_A : Option Addr) (order_n : Nat) (order_c : Nat) (gap : Int) (R : Value → Hp → Prop) (h : EV σ soon_A soon_n soon_c order_A order_n order_c gap R) : Ah Try.prog 71 #[(.slice soon_A soon_n soon_c), (.slice order_A order_n order_c), (.int .i64 gap)] σ R :=
  Ak BC J1 Try.func71 rfl (by kernel_rfl) (by kernel_rfl) (M := EV σ soon_A soon_n soon_c order_A order_n order_c gap R) (by kernel_rfl) h
theorem HV : AA Try.prog 71 = true := by kernel_rfl
abbrev JP : FuncId := 72
def Dk (σ : Hp) (n : Int) (R : Value → Hp → Prop) : Prop :=
  cut (α := List Int → Hp → Prop) (fun xs4 σ2 => ∀ _ : Nat → Value, exl 3 [.int .i64] xs4 σ2 (fun A5 l5 c5 σ6 => 
    rt σ6 R (.slice A5 l5 c5))) (fun J3 => ∃ I9 : Nat → List Int → Int → Hp → Prop, (∃ n100, adp 3 [.int .i64] none 0 0 σ (fun (xs11 : List Int) σ12 => 
    I9 n100 xs11 0 σ12)) ∧ ∀ n10 : Nat, ∀ xs13 : List Int, ∀ n14 : Int, ∀ σ8 : Hp, I9 n10 xs13 n14 σ8 → ∀ _ : Nat → Value, bc (decide (n14 < n)) (Ba (List.length xs13 + List.length ([n14] : List Int)) (wk .i64 (n14 + 1) (fun n15 => 
    bk σ8 n10 (fun m16 σ17 => I9 m16 (xs13 ++ ([n14] : List Int)) n15 σ17)))) (J3 xs13 σ8))
def H0 : MAn := (.seq (.txt []) (.seq (.txt []) (.cut ⟨[], 1, [.slot 3 (.lst 0 3 [.int .i64])], []⟩ (.seq (.txt []) (.block (.loop ⟨[], 1, [.slot 3 (.lst 0 3 [.int .i64]), .slot 4 (.sc (.int .i64))], [(0, true)]⟩ (.seq (.seq (.txt []) (.cond .leaf .leaf)) (.seq (.block (.txt [])) (.txt [])))))) (.seq (.txt []) .leaf))))
set_option maxRecDepth 100000 in
theorem HG (σ : Hp) (n : Int) (R : Value → Hp → Prop) (h : Dk σ n R) : Ah Try.prog 72 #[(.int .i64 n)] σ R :=
  Ak BC H0 Try.func72 rfl (by kernel_rfl) (by kernel_rfl) (M := Dk σ n R) (by kernel_rfl) h
theorem F9 : AA Try.prog 72 = true := by kernel_rfl
abbrev Fw : FuncId := 42
def Dx (σ : Hp) (m_Parking_A : Option Addr) (m_Parking_n : Nat) (m_Parking_c : Nat) (m_Roads_A : Option Addr) (m_Roads_n : Nat) (m_Roads_c : Nat) (l_A : Option Addr) (l_n : Nat) (l_c : Nat) (to : Int) (gap : Int) (R : Value → Hp → Prop) : Prop :=
  cl Try.prog (.func (.func 66) #[] #[]) #[(.agg #[(.slice m_Parking_A m_Parking_n m_Parking_c), (.slice m_Roads_A m_Roads_n m_Roads_c)]), (.slice l_A l_n l_c), (.int .i64 to), (.int .i64 gap)] σ (fun v1 σ2 => 
    ∃ n3 : Int, (v1 = (.int .i64 n3) ∧ bc (!decide (n3 = 0)) (rt σ2 R (.tuple #[(.slice none 0 0), (.int .i64 n3)])) (cl Try.prog (.func (.func 70) #[] #[]) #[(.agg #[(.slice m_Parking_A m_Parking_n m_Parking_c), (.slice m_Roads_A m_Roads_n m_Roads_c)]), (.slice l_A l_n l_c), (.int .i64 to)] σ2 (fun v4 σ5 => 
    ∃ A6 : Option Addr, ∃ l6 : Nat, ∃ c6 : Nat, ∃ t7 : Bool, (v4 = (.tuple #[(.slice A6 l6 c6), (.bool t7)]) ∧ 
    bc (!t7) (rt σ5 R (.tuple #[(.slice none 0 0), (.int .i64 3)])) (cl Try.prog (.func (.func 72) #[] #[]) #[(.int .i64 ((l_n : Nat) : Int))] σ5 (fun v8 σ9 => 
    ∃ A10 : Option Addr, ∃ l10 : Nat, ∃ c10 : Nat, (v8 = (.slice A10 l10 c10) ∧ cl Try.prog (.func (.func 71) #[] #[]) #[(.slice A6 l6 c6), (.slice A10 l10 c10), (.int .i64 gap)] σ9 (fun v11 σ12 => 
    ∃ A13 : Option Addr, ∃ l13 : Nat, ∃ c13 : Nat, (v11 = (.slice A13 l13 c13) ∧ rt σ12 R (.tuple #[(.slice A13 l13 c13), (.int .i64 0)])))))))))))
def H7 : MAn := (.seq (.txt []) (.seq (.txt []) (.seq (.seq (.txt []) (.cond (.seq (.txt []) .leaf) .leaf)) (.seq (.txt []) (.seq (.seq (.txt []) (.cond (.seq (.txt []) .leaf) .leaf)) (.seq (.txt []) .leaf))))))
set_option maxRecDepth 100000 in
theorem HP (σ : Hp) (m_Parking_A : Option Addr) (m_Parking_n : Nat) (m_Parking_c : Nat) (m_Roads_A : Option Addr) (m_Roads_n : Nat) (m_Roads_c : Nat) (l_A : Option Addr) (l_n : Nat) (l_c : Nat) (to : Int) (gap : Int) (R : Value → Hp → Prop) (h : Dx σ m_Parking_A m_Parking_n m_Parking_c m_Roads_A m_Roads_n m_Roads_c l_A l_n l_c to gap R) : Ah Try.prog 42 #[(.agg #[(.slice m_Parking_A m_Parking_n m_Parking_c), (.slice m_Roads_A m_Roads_n m_Roads_c)]), (.slice l_A l_n l_c), (.int .i64 to), (.int .i64 gap)] σ R :=
  Ak BC H7 Try.func42 rfl (by kernel_rfl) (by kernel_rfl) (M := Dx σ m_Parking_A m_Parking_n m_Parking_c m_Roads_A m_Roads_n m_Roads_c l_A l_n l_c to gap R) (by kernel_rfl) h
theorem C3 : AA Try.prog 42 = true := by kernel_rfl
abbrev Fs : FuncId := 40
def Dl (σ : Hp) (a0_Parking_A : Option Addr) (a0_Parking_n : Nat) (a0_Parking_c : Nat) (a0_Roads_A : Option Addr) (a0_Roads_n : Nat) (a0_Roads_c : Nat) (a1_A : Option Addr) (a1_n : Nat) (a1_c : Nat) (a2 : Int) (a3 : Int) (R : Value → Hp → Prop) : Prop :=
  cl Try.prog (.func (.func 42) #[] #[]) #[(.agg #[(.slice a0_Parking_A a0_Parking_n a0_Parking_c), (.slice a0_Roads_A a0_Roads_n a0_Roads_c)]), (.slice a1_A a1_n a1_c), (.int .i64 a2), (.int .i64 a3)] σ (fun v1 σ2 => 
    ∃ A3 : Option Addr, ∃ l3 : Nat, ∃ c3 : Nat, ∃ n4 : Int, (v1 = (.tuple #[(.slice A3 l3 c3), (.int .i64 n4)]) ∧ 
    bc (!decide (n4 = 0)) (rt σ2 R (.tuple #[(.slice none 0 0), (.int .i64 n4)])) (cut (α := List ((Option Addr × Nat × Nat)) → Hp → Prop) (fun xs8 σ6 => 
    ∀ _ : Nat → Value, exl 32 [.slc] xs8 σ6 (fun A9 l9 c9 σ10 => rt σ10 R (.tuple #[(.slice A9 l9 c9), (.int .i64 0)]))) (fun J7 => 
    ∃ I13 : Nat → List ((Option Addr × Nat × Nat)) → Int → Hp → Prop, (∃ n140, adp 32 [.slc] none 0 0 σ2 (fun (xs15 : List ((Option Addr × Nat × Nat))) σ16 => 
    I13 n140 xs15 0 σ16)) ∧ ∀ n14 : Nat, ∀ xs17 : List ((Option Addr × Nat × Nat)), ∀ n18 : Int, ∀ σ12 : Hp, I13 n14 xs17 n18 σ12 → ∀ _ : Nat → Value, bc (decide (n18 < ((a1_n : Nat) : Int))) (cut (α := List ((Option Addr × Nat × Nat)) → Hp → Prop) (fun xs22 σ20 => 
    ∀ _ : Nat → Value, wk .i64 (n18 + 1) (fun n23 => bk σ20 n14 (fun m24 σ25 => I13 m24 xs22 n23 σ25))) (fun J21 => 
    cut (α := Option Addr → Hp → Prop) (fun p29 σ27 => ∀ _ : Nat → Value, dr p29 (fun b30 o31 => ldS σ27 b30 (o31 + 3) (fun A32 l32 _ => 
    ∃ ys33 : List (Int × Int), RdS [.int .i64, .int .i64] σ27 A32 l32 ys33 ∧ Ba (List.length ([] : List (Int × Int)) + List.length ys33) (cut (α := List (Int × Int) → Hp → Prop) (fun xs37 σ35 => 
    ∀ _ : Nat → Value, exl 60 [.int .i64, .int .i64] xs37 σ35 (fun A38 l38 c38 σ39 => bx σ39 (.cells #[(.slice A38 l38 c38)] 32) (fun b40 σ41 => 
    ∃ ys42 : List ((Option Addr × Nat × Nat)), RdS [.slc] σ41 (some ⟨b40, 0, none⟩) 1 ys42 ∧ Ba (List.length xs17 + List.length ys42) (J21 (xs17 ++ ys42) σ41)))) (fun J36 => 
    ∃ I45 : Nat → Int → List (Int × Int) → Hp → Prop, (∃ n460, I45 n460 0 (([] : List (Int × Int)) ++ ys33) σ27) ∧ 
    ∀ n46 : Nat, ∀ n47 : Int, ∀ xs48 : List (Int × Int), ∀ σ44 : Hp, I45 n46 n47 xs48 σ44 → ∀ _ : Nat → Value, bc (decide (n47 < ((List.length xs48 : Nat) : Int))) ((0 ≤ n47 ∧ 
    n47 < ((List.length xs48 : Nat) : Int) ∧ lat xs48 ((n47 : Int).toNat) (fun r49 => ix A3 l3 n18 1 (fun b50 a51 => 
    ldI σ44 .i64 b50 a51 (fun n52 => dr p29 (fun b53 o54 => ldI σ44 .i64 b53 (o54 + 1) (fun n55 => wk .i64 (n52 - n55) (fun n56 => 
    wk .i64 (r49.2 + n56) (fun n57 => (0 ≤ n47 ∧ n47 < ((List.length xs48 : Nat) : Int) ∧ lat xs48 ((n47 : Int).toNat) (fun r58 => 
    wk .i64 (n47 + 1) (fun n59 => bk σ44 n46 (fun m60 σ61 => I45 m60 n59 (List.set xs48 ((n47 : Int).toNat) (r58.1, n57)) σ61))))))))))))) (J36 xs48 σ44)))))) (fun J28 => 
    ix a1_A a1_n n18 6 (fun b62 a63 => ldI σ12 .i64 b62 a63 (fun n64 => ldI σ12 .i64 b62 (a63 + 1) (fun n65 => 
    ldI σ12 .i64 b62 (a63 + 2) (fun n66 => ldI σ12 .i64 b62 (a63 + 3) (fun n67 => ldI σ12 .i64 b62 (a63 + 4) (fun n68 => 
    ldI σ12 .i64 b62 (a63 + 5) (fun n69 => ((cl Try.prog (.func (.func 53) #[] #[]) #[(.agg #[(.slice a0_Parking_A a0_Parking_n a0_Parking_c), (.slice a0_Roads_A a0_Roads_n a0_Roads_c)]), (.agg #[(.int .i64 n64), (.int .i64 n65), (.int .i64 n66), (.int .i64 n67), (.int .i64 n68), (.int .i64 n69)]), (.int .i64 a2)] σ12 (fun v70 σ71 => 
    ∃ n72 : Int, ∃ n73 : Int, ∃ n74 : Int, ∃ A75 : Option Addr, ∃ l75 : Nat, ∃ c75 : Nat, ∃ t76 : Bool, (v70 = (.tuple #[(.agg #[(.int .i64 n72), (.int .i64 n73), (.int .i64 n74), (.slice A75 l75 c75)]), (.bool t76)]) ∧ 
    bx σ71 (.cells #[(.int .i64 n72), (.int .i64 n73), (.int .i64 n74), (.slice A75 l75 c75)] 90) (fun b77 σ78 => 
    J28 (some ⟨b77, 0, none⟩) σ78)))) ∧ (cl Try.prog (.func (.func 53) #[] #[]) #[(.agg #[(.slice a0_Parking_A a0_Parking_n a0_Parking_c), (.slice a0_Roads_A a0_Roads_n a0_Roads_c)]), (.agg #[(.int .i64 n64), (.int .i64 n65), (.int .i64 n66), (.int .i64 n67), (.int .i64 n68), (.int .i64 n69)]), (.int .i64 a2)] σ12 (fun v79 σ80 => 
    ∃ n81 : Int, ∃ n82 : Int, ∃ n83 : Int, ∃ A84 : Option Addr, ∃ l84 : Nat, ∃ c84 : Nat, ∃ t85 : Bool, (v79 = (.tuple #[(.agg #[(.int .i64 n81), (.int .i64 n82), (.int .i64 n83), (.slice A84 l84 c84)]), (.bool t85)]) ∧ 
    bx σ80 (.cells #[(.int .i64 n81), (.int .i64 n82), (.int .i64 n83), (.slice A84 l84 c84)] 90) (fun b86 σ87 => 
    J28 (some ⟨b86, 0, none⟩) σ87))))))))))))))) (J7 xs17 σ12)))))
def Aj : OA := ⟨[], false, []⟩
def H2 : MAn := (.seq (.txt []) (.seq (.txt []) (.seq (.seq (.txt []) (.cond (.seq (.txt []) .leaf) .leaf)) (.seq (.txt []) (.cut ⟨[true], 2, [.slot 12 (.lst 1 32 [.slc])], []⟩ (.seq (.txt []) (.block (.loop ⟨[true], 2, [.slot 4 (.hb 0 0), .slot 12 (.lst 1 32 [.slc]), .slot 13 (.sc (.int .i64))], [(1, true), (2, true), (10, true)]⟩ (.seq (.seq (.txt []) (.cond .leaf .leaf)) (.cut ⟨[true, false], 2, [.slot 4 (.hb 0 0), .slot 12 (.lst 1 32 [.slc])], [(1, true), (2, true), (10, true), (13, true)]⟩ (.block (.cut ⟨[true, true], 2, [.slot 4 (.hb 0 0), .slot 12 (.hl 1 0), .slot 14 (.sc (.ptr))], [(1, true), (2, true), (10, true), (13, true)]⟩ (.plan [11, 6] (.take 0 Aj (.take 1 Aj (.take 2 Aj (.take 3 Aj (.take 4 Aj (.take 5 Aj (.alt 6 false Aj (.take 7 Aj (.take 8 Aj (.take 9 Aj (.alt 10 true Aj (.alt 11 false Aj (.take 12 Aj .done) .done) .done)))) (.alt 10 true Aj (.alt 6 false Aj (.take 7 Aj (.take 8 Aj (.take 9 Aj (.alt 11 false Aj (.take 12 Aj .done) .done)))) .done) .done))))))))) (.seq (.txt []) (.cut ⟨[true, true, false], 3, [.slot 4 (.hb 0 0), .slot 12 (.hl 1 0), .slot 16 (.hl 2 1), .modl 2 1 60 [.int .i64, .int .i64]], [(1, true), (2, true), (10, true), (13, true)]⟩ (.seq (.txt []) (.block (.loop ⟨[true, true, false], 3, [.slot 4 (.hb 0 0), .slot 12 (.hl 1 0), .slot 16 (.hl 2 1), .slot 17 (.sc (.int .i64)), .modl 2 1 60 [.int .i64, .int .i64]], [(1, true), (2, true), (10, true), (13, true), (14, true)]⟩ (.seq (.seq (.txt []) (.cond .leaf .leaf)) (.seq (.block (.plan [16] (.take 0 Aj (.take 1 Aj (.take 2 Aj (.take 3 Aj (.take 4 Aj (.take 5 Aj (.take 6 Aj (.take 7 Aj (.take 8 Aj (.take 9 Aj (.take 10 Aj (.take 11 Aj (.take 12 Aj (.take 13 Aj (.take 14 Aj (.take 15 Aj (.alt 16 false Aj .done .done))))))))))))))))))) (.txt [])))))) (.txt []))))) (.txt [])))))) (.seq (.txt []) .leaf))))))
set_option maxRecDepth 100000 in
theorem HK (σ : Hp) (a0_Parking_A : Option Addr) (a0_Parking_n : Nat) (a0_Parking_c : Nat) (a0_Roads_A : Option Addr) (a0_Roads_n : Nat) (a0_Roads_c : Nat) (a1_A : Option Addr) (a1_n : Nat) (a1_c : Nat) (a2 : Int) (a3 : Int) (R : Value → Hp → Prop) (h : Dl σ a0_Parking_A a0_Parking_n a0_Parking_c a0_Roads_A a0_Roads_n a0_Roads_c a1_A a1_n a1_c a2 a3 R) : Ah Try.prog 40 #[(.agg #[(.slice a0_Parking_A a0_Parking_n a0_Parking_c), (.slice a0_Roads_A a0_Roads_n a0_Roads_c)]), (.slice a1_A a1_n a1_c), (.int .i64 a2), (.int .i64 a3)] σ R :=
  Ak BC H2 Try.func40 rfl (by kernel_rfl) (by kernel_rfl) (M := Dl σ a0_Parking_A a0_Parking_n a0_Parking_c a0_Roads_A a0_Roads_n a0_Roads_c a1_A a1_n a1_c a2 a3 R) (by kernel_rfl) h
theorem FK : AA Try.prog 40 = true := by kernel_rfl
abbrev IN : FuncId := 20
def Gq (σ : Hp) (m_Parking_A : Option Addr) (m_Parking_n : Nat) (_ : Nat) (m_Roads_A : Option Addr) (m_Roads_n : Nat) (_ : Nat) (R : Value → Hp → Prop) : Prop :=
  ((∃ ys1 : List Bool, RdS [.bool] σ m_Parking_A m_Parking_n ys1 ∧ Ba (List.length ([] : List Bool) + List.length ys1) (∃ ys2 : List (Int × Int × Int × Int × Int), RdS [.int .i64, .int .i64, .int .i64, .int .i64, .int .i64] σ m_Roads_A m_Roads_n ys2 ∧ 
    Ba (List.length ([] : List (Int × Int × Int × Int × Int)) + List.length ys2) (exl 4 [.bool] (([] : List Bool) ++ ys1) σ (fun A3 l3 c3 σ4 => 
    exl 51 [.int .i64, .int .i64, .int .i64, .int .i64, .int .i64] (([] : List (Int × Int × Int × Int × Int)) ++ ys2) σ4 (fun A5 l5 c5 σ6 => 
    rt σ6 R (.agg #[(.slice A3 l3 c3), (.slice A5 l5 c5)])))))) ∧ (∃ ys7 : List Bool, RdS [.bool] σ m_Parking_A m_Parking_n ys7 ∧ 
    Ba (List.length ([] : List Bool) + List.length ys7) (∃ ys8 : List (Int × Int × Int × Int × Int), RdS [.int .i64, .int .i64, .int .i64, .int .i64, .int .i64] σ m_Roads_A m_Roads_n ys8 ∧ 
    Ba (List.length ([] : List (Int × Int × Int × Int × Int)) + List.length ys8) (exl 4 [.bool] (([] : List Bool) ++ ys7) σ (fun A9 l9 c9 σ10 => 
    exl 51 [.int .i64, .int .i64, .int .i64, .int .i64, .int .i64] (([] : List (Int × Int × Int × Int × Int)) ++ ys8) σ10 (fun A11 l11 c11 σ12 => 
    rt σ12 R (.agg #[(.slice A9 l9 c9), (.slice A11 l11 c11)])))))))
def AN : OA := ⟨[], false, []⟩
def KJ : MAn := (.seq (.txt []) (.seq (.plan [3, 7, 9] (.take 1 AN (.take 2 AN (.take 5 AN (.new 0 AN (.new 4 AN (.alt 3 false AN (.take 6 AN (.alt 7 false AN (.take 8 AN (.alt 9 false AN .done .done)) .done)) (.alt 6 true AN (.alt 3 false AN (.alt 7 false AN (.take 8 AN (.alt 9 false AN .done .done)) .done) .done) .done)))))))) .leaf))
set_option maxRecDepth 100000 in
theorem KW (σ : Hp) (m_Parking_A : Option Addr) (m_Parking_n : Nat) (m_Parking_c : Nat) (m_Roads_A : Option Addr) (m_Roads_n : Nat) (m_Roads_c : Nat) (R : Value → Hp → Prop) (h : Gq σ m_Parking_A m_Parking_n m_Parking_c m_Roads_A m_Roads_n m_Roads_c R) : Ah Try.prog 20 #[(.agg #[(.slice m_Parking_A m_Parking_n m_Parking_c), (.slice m_Roads_A m_Roads_n m_Roads_c)])] σ R :=
  Ak BC KJ Try.func20 rfl (by kernel_rfl) (by kernel_rfl) (M := Gq σ m_Parking_A m_Parking_n m_Parking_c m_Roads_A m_Roads_n m_Roads_c R) (by kernel_rfl) h
theorem Iw : AA Try.prog 20 = true := by kernel_rfl
end Go.Proofs.Ytkdjkkimngeloaa
