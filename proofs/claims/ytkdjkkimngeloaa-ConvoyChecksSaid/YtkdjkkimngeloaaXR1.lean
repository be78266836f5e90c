/- Trimmed by wip/trim.py to what this claim rests on. -/
import Derived.Test.YtkdjkkimngeloaaXB11
namespace Go.Proofs.Ytkdjkkimngeloaa
open Go.RowKit
theorem CT : Try.prog.follows .mixedOrders = true := by kernel_rfl
abbrev HC : FuncId := 60
def Ew (σ : Hp) (n : Int) (low : Int) (high : Int) (R : Value → Hp → Prop) : Prop :=
  bc (decide (low ≤ n)) (rt σ R (.bool (decide (n ≤ high)))) (rt σ R (.bool false))
def ID : MAn := (.seq (.txt []) (.seq (.txt [⟨[], false, []⟩, ⟨[], false, []⟩, ⟨[], false, []⟩, ⟨[], true, []⟩]) .leaf))
set_option maxRecDepth 100000 in
theorem IK (σ : Hp) (n : Int) (low : Int) (high : Int) (R : Value → Hp → Prop) (h : Ew σ n low high R) : Ad Try.prog 60 #[(.int .i64 n), (.int .i64 low), (.int .i64 high)] σ R :=
  Aj CT ID Try.func60 rfl (by kernel_rfl) (by kernel_rfl) (M := Ew σ n low high R) (by kernel_rfl) h
theorem GL : As Try.prog 60 = true := by kernel_rfl
abbrev H9 : FuncId := 62
def CI (σ : Hp) (a0_Parking_A : Option Addr) (a0_Parking_n : Nat) (a0_Parking_c : Nat) (a0_Roads_A : Option Addr) (a0_Roads_n : Nat) (a0_Roads_c : Nat) (R : Value → Hp → Prop) : Prop :=
  cut (α := Hp → Prop) (fun  σ2 => ∀ _ : Nat → Value, cut (α := Hp → Prop) (fun  σ5 => ∀ _ : Nat → Value, 
    rt σ5 R (.int .i64 0)) (fun J6 => ∃ I9 : Nat → Int → Hp → Prop, (∃ n100, I9 n100 0 σ2) ∧ ∀ n10 : Nat, ∀ n11 : Int, ∀ σ8 : Hp, I9 n10 n11 σ8 → ∀ _ : Nat → Value, bc (decide (n11 < ((a0_Roads_n : Nat) : Int))) (cut (α := Hp → Prop) (fun  σ13 => 
    ∀ _ : Nat → Value, wk .i64 (n11 + 1) (fun n15 => bk σ13 n10 (fun m16 σ17 => I9 m16 n15 σ17))) (fun J14 => 
    ix a0_Roads_A a0_Roads_n n11 5 (fun b18 a19 => ldI σ8 .i64 b18 a19 (fun n20 => ldI σ8 .i64 b18 (a19 + 1) (fun n21 => 
    ldI σ8 .i64 b18 (a19 + 2) (fun n22 => ldI σ8 .i64 b18 (a19 + 3) (fun n23 => ldI σ8 .i64 b18 (a19 + 4) (fun n24 => 
    cut (α := Bool → Hp → Prop) (fun t28 σ26 => ∀ _ : Nat → Value, bc t28 (rt σ26 R (.int .i64 90)) (J14 σ26)) (fun J27 => 
    cl Try.prog (.func (.func 86) #[] #[]) #[(.agg #[(.slice a0_Parking_A a0_Parking_n a0_Parking_c), (.slice a0_Roads_A a0_Roads_n a0_Roads_c)]), (.int .i64 n20)] σ8 (fun v29 σ30 => 
    ∃ t31 : Bool, (v29 = (.bool t31) ∧ bc (!t31) (J27 true σ30) (cl Try.prog (.func (.func 86) #[] #[]) #[(.agg #[(.slice a0_Parking_A a0_Parking_n a0_Parking_c), (.slice a0_Roads_A a0_Roads_n a0_Roads_c)]), (.int .i64 n21)] σ30 (fun v32 σ33 => 
    ∃ t34 : Bool, (v32 = (.bool t34) ∧ bc (!t34) (J27 true σ33) (bc (decide (n20 = n21)) (J27 true σ33) (cl Try.prog (.func (.func 60) #[] #[]) #[(.int .i64 n22), (.int .i64 1), (.int .i64 500)] σ33 (fun v35 σ36 => 
    ∃ t37 : Bool, (v35 = (.bool t37) ∧ bc (!t37) (J27 true σ36) (cl Try.prog (.func (.func 60) #[] #[]) #[(.int .i64 n23), (.int .i64 0), (.int .i64 1000)] σ36 (fun v38 σ39 => 
    ∃ t40 : Bool, (v38 = (.bool t40) ∧ bc (!t40) (J27 true σ39) (cl Try.prog (.func (.func 60) #[] #[]) #[(.int .i64 n24), (.int .i64 0), (.int .i64 1000)] σ39 (fun v41 σ42 => 
    ∃ t43 : Bool, (v41 = (.bool t43) ∧ J27 (!t43) σ42)))))))))))))))))))))))) (J6 σ8))) (fun J3 => cut (α := Bool → Hp → Prop) (fun t47 σ45 => 
    ∀ _ : Nat → Value, bc t47 (rt σ45 R (.int .i64 90)) (J3 σ45)) (fun J46 => cl Try.prog (.func (.func 60) #[] #[]) #[(.int .i64 ((a0_Parking_n : Nat) : Int)), (.int .i64 1), (.int .i64 12)] σ (fun v48 σ49 => 
    ∃ t50 : Bool, (v48 = (.bool t50) ∧ bc (!t50) (J46 true σ49) (J46 (decide ((30 : Int) < ((a0_Roads_n : Nat) : Int))) σ49)))))
def Ae : OA := ⟨[], false, []⟩
def F5 : MAn := (.seq (.txt []) (.cut ⟨[true], 1, [.slot 1 (.hb 0 0)], []⟩ (.cut ⟨[true], 1, [.slot 1 (.hb 0 0), .slot 15 (.sc (.bool))], []⟩ (.txt [Ae, Ae, Ae, Ae, Ae, ⟨[], true, []⟩]) (.cond (.seq (.txt []) .leaf) .leaf)) (.cut ⟨[true], 1, [], []⟩ (.seq (.txt []) (.block (.loop ⟨[true], 1, [.slot 1 (.hb 0 0), .slot 3 (.sc (.int .i64))], []⟩ (.seq (.seq (.txt []) (.cond .leaf .leaf)) (.cut ⟨[true], 1, [.slot 1 (.hb 0 0)], [(3, true)]⟩ (.block (.seq (.txt []) (.cut ⟨[true, true], 2, [.slot 1 (.hb 0 0), .slot 64 (.sc (.bool))], [(3, true)]⟩ (.txt [Ae, Ae, Ae, Ae, Ae, ⟨[], true, []⟩, Ae, Ae, Ae, Ae, Ae, Ae, ⟨[], true, []⟩, Ae, Ae, Ae, Ae, Ae, Ae, ⟨[], true, []⟩, Ae, Ae, Ae, Ae, Ae, ⟨[], true, []⟩, Ae, Ae, Ae, Ae, Ae, ⟨[], true, []⟩]) (.cond (.seq (.txt []) .leaf) .leaf)))) (.txt [])))))) (.seq (.txt []) .leaf))))
set_option maxRecDepth 100000 in
theorem Gd (σ : Hp) (a0_Parking_A : Option Addr) (a0_Parking_n : Nat) (a0_Parking_c : Nat) (a0_Roads_A : Option Addr) (a0_Roads_n : Nat) (a0_Roads_c : Nat) (R : Value → Hp → Prop) (h : CI σ a0_Parking_A a0_Parking_n a0_Parking_c a0_Roads_A a0_Roads_n a0_Roads_c R) : Ad Try.prog 62 #[(.agg #[(.slice a0_Parking_A a0_Parking_n a0_Parking_c), (.slice a0_Roads_A a0_Roads_n a0_Roads_c)])] σ R :=
  Aj CT F5 Try.func62 rfl (by kernel_rfl) (by kernel_rfl) (M := CI σ a0_Parking_A a0_Parking_n a0_Parking_c a0_Roads_A a0_Roads_n a0_Roads_c R) (by kernel_rfl) h
theorem EY : As Try.prog 62 = true := by kernel_rfl
abbrev HD : FuncId := 86
def Ey (σ : Hp) (_ : Option Addr) (m_Parking_n : Nat) (_ : Nat) (_ : Option Addr) (_ : Nat) (_ : Nat) (n : Int) (R : Value → Hp → Prop) : Prop :=
  wk .i64 (((m_Parking_n : Nat) : Int) - 1) (fun n1 => cl Try.prog (.func (.func 60) #[] #[]) #[(.int .i64 n), (.int .i64 0), (.int .i64 n1)] σ (fun v2 σ3 => 
    ∃ t4 : Bool, (v2 = (.bool t4) ∧ rt σ3 R (.bool t4))))
def IG : MAn := (.seq (.txt []) (.seq (.txt []) .leaf))
set_option maxRecDepth 100000 in
theorem IH (σ : Hp) (m_Parking_A : Option Addr) (m_Parking_n : Nat) (m_Parking_c : Nat) (m_Roads_A : Option Addr) (m_Roads_n : Nat) (m_Roads_c : Nat) (n : Int) (R : Value → Hp → Prop) (h : Ey σ m_Parking_A m_Parking_n m_Parking_c m_Roads_A m_Roads_n m_Roads_c n R) : Ad Try.prog 86 #[(.agg #[(.slice m_Parking_A m_Parking_n m_Parking_c), (.slice m_Roads_A m_Roads_n m_Roads_c)]), (.int .i64 n)] σ R :=
  Aj CT IG Try.func86 rfl (by kernel_rfl) (by kernel_rfl) (M := Ey σ m_Parking_A m_Parking_n m_Parking_c m_Roads_A m_Roads_n m_Roads_c n R) (by kernel_rfl) h
theorem Gr : As Try.prog 86 = true := by kernel_rfl
abbrev Gs : FuncId := 63
def Cd (σ : Hp) (m_Parking_A : Option Addr) (m_Parking_n : Nat) (m_Parking_c : Nat) (m_Roads_A : Option Addr) (m_Roads_n : Nat) (m_Roads_c : Nat) (l_Height : Int) (l_Weight : Int) (l_From : Int) (l_Ready : Int) (l_Drive : Int) (l_Rest : Int) (R : Value → Hp → Prop) : Prop :=
  cut (α := Hp → Prop) (fun  σ2 => ∀ _ : Nat → Value, rt σ2 R (.int .i64 0)) (fun J3 => cut (α := Bool → Hp → Prop) (fun t7 σ5 => 
    ∀ _ : Nat → Value, bc t7 (rt σ5 R (.int .i64 91)) (J3 σ5)) (fun J6 => cl Try.prog (.func (.func 60) #[] #[]) #[(.int .i64 l_Height), (.int .i64 0), (.int .i64 1000)] σ (fun v8 σ9 => 
    ∃ t10 : Bool, (v8 = (.bool t10) ∧ bc (!t10) (J6 true σ9) (cl Try.prog (.func (.func 60) #[] #[]) #[(.int .i64 l_Weight), (.int .i64 0), (.int .i64 1000)] σ9 (fun v11 σ12 => 
    ∃ t13 : Bool, (v11 = (.bool t13) ∧ bc (!t13) (J6 true σ12) (cl Try.prog (.func (.func 86) #[] #[]) #[(.agg #[(.slice m_Parking_A m_Parking_n m_Parking_c), (.slice m_Roads_A m_Roads_n m_Roads_c)]), (.int .i64 l_From)] σ12 (fun v14 σ15 => 
    ∃ t16 : Bool, (v14 = (.bool t16) ∧ bc (!t16) (J6 true σ15) (cl Try.prog (.func (.func 60) #[] #[]) #[(.int .i64 l_Ready), (.int .i64 0), (.int .i64 2000)] σ15 (fun v17 σ18 => 
    ∃ t19 : Bool, (v17 = (.bool t19) ∧ bc (!t19) (J6 true σ18) (cl Try.prog (.func (.func 60) #[] #[]) #[(.int .i64 l_Drive), (.int .i64 1), (.int .i64 500)] σ18 (fun v20 σ21 => 
    ∃ t22 : Bool, (v20 = (.bool t22) ∧ bc (!t22) (J6 true σ21) (cl Try.prog (.func (.func 60) #[] #[]) #[(.int .i64 l_Rest), (.int .i64 1), (.int .i64 500)] σ21 (fun v23 σ24 => 
    ∃ t25 : Bool, (v23 = (.bool t25) ∧ J6 (!t25) σ24)))))))))))))))))))
def Af : OA := ⟨[], false, []⟩
def Ff : MAn := (.seq (.txt []) (.cut ⟨[true, true], 2, [], []⟩ (.cut ⟨[true, true], 2, [.slot 39 (.sc (.bool))], []⟩ (.txt [Af, Af, Af, Af, ⟨[], true, []⟩, Af, Af, Af, Af, Af, ⟨[], true, []⟩, Af, Af, Af, Af, Af, Af, ⟨[], true, []⟩, Af, Af, Af, Af, Af, ⟨[], true, []⟩, Af, Af, Af, Af, Af, ⟨[], true, []⟩]) (.cond (.seq (.txt []) .leaf) .leaf)) (.seq (.txt []) .leaf)))
set_option maxRecDepth 100000 in
theorem Fj (σ : Hp) (m_Parking_A : Option Addr) (m_Parking_n : Nat) (m_Parking_c : Nat) (m_Roads_A : Option Addr) (m_Roads_n : Nat) (m_Roads_c : Nat) (l_Height : Int) (l_Weight : Int) (l_From : Int) (l_Ready : Int) (l_Drive : Int) (l_Rest : Int) (R : Value → Hp → Prop) (h : Cd σ m_Parking_A m_Parking_n m_Parking_c m_Roads_A m_Roads_n m_Roads_c l_Height l_Weight l_From l_Ready l_Drive l_Rest R) : Ad Try.prog 63 #[(.agg #[(.slice m_Parking_A m_Parking_n m_Parking_c), (.slice m_Roads_A m_Roads_n m_Roads_c)]), (.agg #[(.int .i64 l_Height), (.int .i64 l_Weight), (.int .i64 l_From), (.int .i64 l_Ready), (.int .i64 l_Drive), (.int .i64 l_Rest)])] σ R :=
  Aj CT Ff Try.func63 rfl (by kernel_rfl) (by kernel_rfl) (M := Cd σ m_Parking_A m_Parking_n m_Parking_c m_Roads_A m_Roads_n m_Roads_c l_Height l_Weight l_From l_Ready l_Drive l_Rest R) (by kernel_rfl) h
theorem D0 : As Try.prog 63 = true := by kernel_rfl
abbrev JI : FuncId := 29
def DT (σ : Hp) (m_Parking_A : Option Addr) (m_Parking_n : Nat) (m_Parking_c : Nat) (m_Roads_A : Option Addr) (m_Roads_n : Nat) (m_Roads_c : Nat) (l_Height : Int) (l_Weight : Int) (l_From : Int) (l_Ready : Int) (l_Drive : Int) (l_Rest : Int) (R : Value → Hp → Prop) : Prop :=
  cl Try.prog (.func (.func 62) #[] #[]) #[(.agg #[(.slice m_Parking_A m_Parking_n m_Parking_c), (.slice m_Roads_A m_Roads_n m_Roads_c)])] σ (fun v1 σ2 => 
    ∃ n3 : Int, (v1 = (.int .i64 n3) ∧ bc (!decide (n3 = 0)) (rt σ2 R (.int .i64 n3)) (cl Try.prog (.func (.func 63) #[] #[]) #[(.agg #[(.slice m_Parking_A m_Parking_n m_Parking_c), (.slice m_Roads_A m_Roads_n m_Roads_c)]), (.agg #[(.int .i64 l_Height), (.int .i64 l_Weight), (.int .i64 l_From), (.int .i64 l_Ready), (.int .i64 l_Drive), (.int .i64 l_Rest)])] σ2 (fun v4 σ5 => 
    ∃ n6 : Int, (v4 = (.int .i64 n6) ∧ rt σ5 R (.int .i64 n6))))))
def HW : MAn := (.seq (.txt []) (.seq (.txt []) (.seq (.seq (.txt []) (.cond (.seq (.txt []) .leaf) .leaf)) (.seq (.txt []) .leaf))))
set_option maxRecDepth 100000 in
theorem H8 (σ : Hp) (m_Parking_A : Option Addr) (m_Parking_n : Nat) (m_Parking_c : Nat) (m_Roads_A : Option Addr) (m_Roads_n : Nat) (m_Roads_c : Nat) (l_Height : Int) (l_Weight : Int) (l_From : Int) (l_Ready : Int) (l_Drive : Int) (l_Rest : Int) (R : Value → Hp → Prop) (h : DT σ m_Parking_A m_Parking_n m_Parking_c m_Roads_A m_Roads_n m_Roads_c l_Height l_Weight l_From l_Ready l_Drive l_Rest R) : Ad Try.prog 29 #[(.agg #[(.slice m_Parking_A m_Parking_n m_Parking_c), (.slice m_Roads_A m_Roads_n m_Roads_c)]), (.agg #[(.int .i64 l_Height), (.int .i64 l_Weight), (.int .i64 l_From), (.int .i64 l_Ready), (.int .i64 l_Drive), (.int .i64 l_Rest)])] σ R :=
  Aj CT HW Try.func29 rfl (by kernel_rfl) (by kernel_rfl) (M := DT σ m_Parking_A m_Parking_n m_Parking_c m_Roads_A m_Roads_n m_Roads_c l_Height l_Weight l_From l_Ready l_Drive l_Rest R) (by kernel_rfl) h
theorem C4 : As Try.prog 29 = true := by kernel_rfl
abbrev HB : FuncId := 61
def E2 (σ : Hp) (l_Height : Int) (l_Weight : Int) (_ : Int) (_ : Int) (_ : Int) (_ : Int) (_ : Int) (_ : Int) (_ : Int) (r_Height : Int) (r_Weight : Int) (R : Value → Hp → Prop) : Prop :=
  bc (decide (l_Height ≤ r_Height)) (rt σ R (.bool (decide (l_Weight ≤ r_Weight)))) (rt σ R (.bool false))
def Iv : MAn := (.seq (.txt []) (.seq (.txt [⟨[], false, []⟩, ⟨[], false, []⟩, ⟨[], false, []⟩, ⟨[], false, []⟩, ⟨[], false, []⟩, ⟨[], true, []⟩]) .leaf))
set_option maxRecDepth 100000 in
theorem Iy (σ : Hp) (l_Height : Int) (l_Weight : Int) (l_From : Int) (l_Ready : Int) (l_Drive : Int) (l_Rest : Int) (r_A : Int) (r_B : Int) (r_Length : Int) (r_Height : Int) (r_Weight : Int) (R : Value → Hp → Prop) (h : E2 σ l_Height l_Weight l_From l_Ready l_Drive l_Rest r_A r_B r_Length r_Height r_Weight R) : Ad Try.prog 61 #[(.agg #[(.int .i64 l_Height), (.int .i64 l_Weight), (.int .i64 l_From), (.int .i64 l_Ready), (.int .i64 l_Drive), (.int .i64 l_Rest)]), (.agg #[(.int .i64 r_A), (.int .i64 r_B), (.int .i64 r_Length), (.int .i64 r_Height), (.int .i64 r_Weight)])] σ R :=
  Aj CT Iv Try.func61 rfl (by kernel_rfl) (by kernel_rfl) (M := E2 σ l_Height l_Weight l_From l_Ready l_Drive l_Rest r_A r_B r_Length r_Height r_Weight R) (by kernel_rfl) h
theorem Gn : As Try.prog 61 = true := by kernel_rfl
abbrev Kr : FuncId := 27
def ET (σ : Hp) (m_Parking_A : Option Addr) (m_Parking_n : Nat) (m_Parking_c : Nat) (m_Roads_A : Option Addr) (m_Roads_n : Nat) (m_Roads_c : Nat) (l_Height : Int) (l_Weight : Int) (l_From : Int) (l_Ready : Int) (l_Drive : Int) (l_Rest : Int) (road : Int) (R : Value → Hp → Prop) : Prop :=
  cl Try.prog (.func (.func 29) #[] #[]) #[(.agg #[(.slice m_Parking_A m_Parking_n m_Parking_c), (.slice m_Roads_A m_Roads_n m_Roads_c)]), (.agg #[(.int .i64 l_Height), (.int .i64 l_Weight), (.int .i64 l_From), (.int .i64 l_Ready), (.int .i64 l_Drive), (.int .i64 l_Rest)])] σ (fun v1 σ2 => 
    ∃ n3 : Int, (v1 = (.int .i64 n3) ∧ bc (!decide (n3 = 0)) (rt σ2 R (.tuple #[(.bool false), (.int .i64 n3)])) (wk .i64 (((m_Roads_n : Nat) : Int) - 1) (fun n4 => 
    cl Try.prog (.func (.func 60) #[] #[]) #[(.int .i64 road), (.int .i64 0), (.int .i64 n4)] σ2 (fun v5 σ6 => 
    ∃ t7 : Bool, (v5 = (.bool t7) ∧ bc (!t7) (rt σ6 R (.tuple #[(.bool false), (.int .i64 1)])) (ix m_Roads_A m_Roads_n road 5 (fun b8 a9 => 
    ldI σ6 .i64 b8 a9 (fun n10 => ldI σ6 .i64 b8 (a9 + 1) (fun n11 => ldI σ6 .i64 b8 (a9 + 2) (fun n12 => 
    ldI σ6 .i64 b8 (a9 + 3) (fun n13 => ldI σ6 .i64 b8 (a9 + 4) (fun n14 => cl Try.prog (.func (.func 61) #[] #[]) #[(.agg #[(.int .i64 l_Height), (.int .i64 l_Weight), (.int .i64 l_From), (.int .i64 l_Ready), (.int .i64 l_Drive), (.int .i64 l_Rest)]), (.agg #[(.int .i64 n10), (.int .i64 n11), (.int .i64 n12), (.int .i64 n13), (.int .i64 n14)])] σ6 (fun v15 σ16 => 
    ∃ t17 : Bool, (v15 = (.bool t17) ∧ rt σ16 R (.tuple #[(.bool t17), (.int .i64 0)]))))))))))))))))
def AL : OA := ⟨[], false, []⟩
def IE : MAn := (.seq (.txt []) (.seq (.txt []) (.seq (.seq (.txt []) (.cond (.seq (.txt []) .leaf) .leaf)) (.seq (.seq (.txt []) (.cond (.seq (.txt []) .leaf) .leaf)) (.seq (.plan [6] (.take 0 AL (.take 1 AL (.take 2 AL (.take 3 AL (.take 4 AL (.take 5 AL (.alt 6 false AL (.take 7 AL (.take 8 AL .done)) .done)))))))) .leaf)))))
set_option maxRecDepth 100000 in
theorem Iz (σ : Hp) (m_Parking_A : Option Addr) (m_Parking_n : Nat) (m_Parking_c : Nat) (m_Roads_A : Option Addr) (m_Roads_n : Nat) (m_Roads_c : Nat) (l_Height : Int) (l_Weight : Int) (l_From : Int) (l_Ready : Int) (l_Drive : Int) (l_Rest : Int) (road : Int) (R : Value → Hp → Prop) (h : ET σ m_Parking_A m_Parking_n m_Parking_c m_Roads_A m_Roads_n m_Roads_c l_Height l_Weight l_From l_Ready l_Drive l_Rest road R) : Ad Try.prog 27 #[(.agg #[(.slice m_Parking_A m_Parking_n m_Parking_c), (.slice m_Roads_A m_Roads_n m_Roads_c)]), (.agg #[(.int .i64 l_Height), (.int .i64 l_Weight), (.int .i64 l_From), (.int .i64 l_Ready), (.int .i64 l_Drive), (.int .i64 l_Rest)]), (.int .i64 road)] σ R :=
  Aj CT IE Try.func27 rfl (by kernel_rfl) (by kernel_rfl) (M := ET σ m_Parking_A m_Parking_n m_Parking_c m_Roads_A m_Roads_n m_Roads_c l_Height l_Weight l_From l_Ready l_Drive l_Rest road R) (by kernel_rfl) h
theorem GI : As Try.prog 27 = true := by kernel_rfl
abbrev Hm : FuncId := 20
def ED (σ : Hp) (m_Parking_A : Option Addr) (m_Parking_n : Nat) (_ : Nat) (m_Roads_A : Option Addr) (m_Roads_n : Nat) (_ : Nat) (R : Value → Hp → Prop) : Prop :=
  ((∃ ys1 : List Bool, RdS [.bool] σ m_Parking_A m_Parking_n ys1 ∧ Eo (List.length ([] : List Bool) + List.length ys1) (∃ ys2 : List (Int × Int × Int × Int × Int), RdS [.int .i64, .int .i64, .int .i64, .int .i64, .int .i64] σ m_Roads_A m_Roads_n ys2 ∧ 
    Eo (List.length ([] : List (Int × Int × Int × Int × Int)) + List.length ys2) (exl 4 [.bool] (([] : List Bool) ++ ys1) σ (fun A3 l3 c3 σ4 => 
    exl 51 [.int .i64, .int .i64, .int .i64, .int .i64, .int .i64] (([] : List (Int × Int × Int × Int × Int)) ++ ys2) σ4 (fun A5 l5 c5 σ6 => 
    rt σ6 R (.agg #[(.slice A3 l3 c3), (.slice A5 l5 c5)])))))) ∧ (∃ ys7 : List Bool, RdS [.bool] σ m_Parking_A m_Parking_n ys7 ∧ 
    Eo (List.length ([] : List Bool) + List.length ys7) (∃ ys8 : List (Int × Int × Int × Int × Int), RdS [.int .i64, .int .i64, .int .i64, .int .i64, .int .i64] σ m_Roads_A m_Roads_n ys8 ∧ 
    Eo (List.length ([] : List (Int × Int × Int × Int × Int)) + List.length ys8) (exl 4 [.bool] (([] : List Bool) ++ ys7) σ (fun A9 l9 c9 σ10 => 
    exl 51 [.int .i64, .int .i64, .int .i64, .int .i64, .int .i64] (([] : List (Int × Int × Int × Int × Int)) ++ ys8) σ10 (fun A11 l11 c11 σ12 => 
    rt σ12 R (.agg #[(.slice A9 l9 c9), (.slice A11 l11 c11)])))))))
def Aw : OA := ⟨[], false, []⟩
def IL : MAn := (.seq (.txt []) (.seq (.plan [3, 7, 9] (.take 1 Aw (.take 2 Aw (.take 5 Aw (.new 0 Aw (.new 4 Aw (.alt 3 false Aw (.take 6 Aw (.alt 7 false Aw (.take 8 Aw (.alt 9 false Aw .done .done)) .done)) (.alt 6 true Aw (.alt 3 false Aw (.alt 7 false Aw (.take 8 Aw (.alt 9 false Aw .done .done)) .done) .done) .done)))))))) .leaf))
set_option maxRecDepth 100000 in
theorem IA (σ : Hp) (m_Parking_A : Option Addr) (m_Parking_n : Nat) (m_Parking_c : Nat) (m_Roads_A : Option Addr) (m_Roads_n : Nat) (m_Roads_c : Nat) (R : Value → Hp → Prop) (h : ED σ m_Parking_A m_Parking_n m_Parking_c m_Roads_A m_Roads_n m_Roads_c R) : Ad Try.prog 20 #[(.agg #[(.slice m_Parking_A m_Parking_n m_Parking_c), (.slice m_Roads_A m_Roads_n m_Roads_c)])] σ R :=
  Aj CT IL Try.func20 rfl (by kernel_rfl) (by kernel_rfl) (M := ED σ m_Parking_A m_Parking_n m_Parking_c m_Roads_A m_Roads_n m_Roads_c R) (by kernel_rfl) h
theorem GG : As Try.prog 20 = true := by kernel_rfl
end Go.Proofs.Ytkdjkkimngeloaa
