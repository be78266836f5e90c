/- Trimmed by wip/trim.py to what this claim rests on. -/
import Derived.Test.YtkdjkkimngeloaaYB11
namespace Go.Proofs.Ytkdjkkimngeloaa
open Go.RowKit
theorem DN : Try.prog.follows .mixedOrders = true := by kernel_rfl
abbrev KQ : FuncId := 49
def Gu (σ : Hp) (R : Value → Hp → Prop) : Prop :=
  exl 4 [.bool] ([false, true, false, false] : List Bool) σ (fun A1 l1 c1 σ2 => exl 51 [.int .i64, .int .i64, .int .i64, .int .i64, .int .i64] ([(0, 1, 10, 40, 90), (1, 2, 10, 30, 90), (0, 2, 40, 50, 90), (2, 3, 5, 50, 20)] : List (Int × Int × Int × Int × Int)) σ2 (fun A3 l3 c3 σ4 => 
    rt σ4 R (.tuple #[(.agg #[(.slice A1 l1 c1), (.slice A3 l3 c3)]), (.agg #[(.int .i64 25), (.int .i64 20), (.int .i64 0), (.int .i64 0), (.int .i64 15), (.int .i64 5)])])))
def Ig : MAn := (.seq (.txt []) (.seq (.txt []) (.seq (.txt []) .leaf)))
set_option maxRecDepth 100000 in
theorem Ip (σ : Hp) (R : Value → Hp → Prop) (h : Gu σ  R) : Ah Try.prog 49 #[] σ R :=
  Ak DN Ig Try.func49 rfl (by kernel_rfl) (by kernel_rfl) (M := Gu σ  R) (by kernel_rfl) h
theorem GC : AA Try.prog 49 = true := by kernel_rfl
abbrev H9 : FuncId := 18
def Fa (σ : Hp) (R : Value → Hp → Prop) : Prop :=
  cl Try.prog (.func (.func 49) #[] #[]) #[] σ (fun v1 σ2 => ∃ A3 : Option Addr, ∃ l3 : Nat, ∃ c3 : Nat, ∃ A4 : Option Addr, ∃ l4 : Nat, ∃ c4 : Nat, ∃ n5 : Int, ∃ n6 : Int, ∃ n7 : Int, ∃ n8 : Int, ∃ n9 : Int, ∃ n10 : Int, (v1 = (.tuple #[(.agg #[(.slice A3 l3 c3), (.slice A4 l4 c4)]), (.agg #[(.int .i64 n5), (.int .i64 n6), (.int .i64 n7), (.int .i64 n8), (.int .i64 n9), (.int .i64 n10)])]) ∧ 
    cl Try.prog (.func (.func 19) #[] #[]) #[(.agg #[(.slice A3 l3 c3), (.slice A4 l4 c4)]), (.agg #[(.int .i64 n5), (.int .i64 n6), (.int .i64 n7), (.int .i64 n8), (.int .i64 n9), (.int .i64 n10)]), (.int .i64 2)] σ2 (fun v11 σ12 => 
    ∃ A13 : Option Addr, ∃ l13 : Nat, ∃ c13 : Nat, ∃ n14 : Int, (v11 = (.tuple #[(.slice A13 l13 c13), (.int .i64 n14)]) ∧ 
    cl Try.prog (.func (.func 23) #[] #[]) #[(.agg #[(.slice A3 l3 c3), (.slice A4 l4 c4)]), (.agg #[(.int .i64 n5), (.int .i64 n6), (.int .i64 n7), (.int .i64 n8), (.int .i64 n9), (.int .i64 n10)]), (.int .i64 2)] σ12 (fun v15 σ16 => 
    ∃ n17 : Int, ∃ n18 : Int, (v15 = (.tuple #[(.int .i64 n17), (.int .i64 n18)]) ∧ bc (decide (n14 = 0)) (bc (decide (n18 = 0)) (bc (decide (n17 = 30)) (bc (decide (((l13 : Nat) : Int) = 2)) (ix A13 l13 1 2 (fun b19 a20 => 
    ldI σ16 .i64 b19 a20 (fun n21 => ldI σ16 .i64 b19 (a20 + 1) (fun n22 => rt σ16 R (.bool (decide (n21 = 1) && decide (n22 = 15))))))) (rt σ16 R (.bool false))) (rt σ16 R (.bool false))) (rt σ16 R (.bool false))) (rt σ16 R (.bool false))))))))
def AS : OA := ⟨[], false, []⟩
def Kq : MAn := (.seq (.txt []) (.seq (.txt []) (.seq (.txt []) (.seq (.txt []) (.seq (.txt [AS, AS, ⟨[], true, []⟩, AS, AS, AS, ⟨[], true, []⟩, AS, AS, AS, ⟨[], true, []⟩, AS, AS, AS, AS, ⟨[], true, []⟩]) .leaf)))))
set_option maxRecDepth 100000 in
theorem Ke (σ : Hp) (R : Value → Hp → Prop) (h : Fa σ  R) : Ah Try.prog 18 #[] σ R :=
  Ak DN Kq Try.func18 rfl (by kernel_rfl) (by kernel_rfl) (M := Fa σ  R) (by kernel_rfl) h
theorem HJ : AA Try.prog 18 = true := by kernel_rfl
abbrev On : FuncId := 25
def Hh (σ : Hp) (_ : Option Addr) (m_Parking_n : Nat) (_ : Nat) (_ : Option Addr) (m_Roads_n : Nat) (_ : Nat) (R : Value → Hp → Prop) : Prop :=
  bc (decide ((20 : Int) < ((m_Parking_n : Nat) : Int))) (rt σ R (.bool true)) (rt σ R (.bool (decide ((40 : Int) < ((m_Roads_n : Nat) : Int)))))
def Lz : MAn := (.seq (.txt []) (.seq (.txt [⟨[], false, []⟩, ⟨[], false, []⟩, ⟨[], false, []⟩, ⟨[], false, []⟩, ⟨[], true, []⟩]) .leaf))
set_option maxRecDepth 100000 in
theorem Ln (σ : Hp) (m_Parking_A : Option Addr) (m_Parking_n : Nat) (m_Parking_c : Nat) (m_Roads_A : Option Addr) (m_Roads_n : Nat) (m_Roads_c : Nat) (R : Value → Hp → Prop) (h : Hh σ m_Parking_A m_Parking_n m_Parking_c m_Roads_A m_Roads_n m_Roads_c R) : Ah Try.prog 25 #[(.agg #[(.slice m_Parking_A m_Parking_n m_Parking_c), (.slice m_Roads_A m_Roads_n m_Roads_c)])] σ R :=
  Ak DN Lz Try.func25 rfl (by kernel_rfl) (by kernel_rfl) (M := Hh σ m_Parking_A m_Parking_n m_Parking_c m_Roads_A m_Roads_n m_Roads_c R) (by kernel_rfl) h
theorem IX : AA Try.prog 25 = true := by kernel_rfl
abbrev Ml : FuncId := 16
def Fd (σ : Hp) (m_Parking_A : Option Addr) (m_Parking_n : Nat) (m_Parking_c : Nat) (m_Roads_A : Option Addr) (m_Roads_n : Nat) (m_Roads_c : Nat) (l_A : Option Addr) (l_n : Nat) (_ : Nat) (R : Value → Hp → Prop) : Prop :=
  cut (α := Hp → Prop) (fun  σ2 => ∀ _ : Nat → Value, cut (α := Hp → Prop) (fun  σ5 => ∀ _ : Nat → Value, 
    rt σ5 R (.bool false)) (fun J6 => ∃ I9 : Nat → Int → Hp → Prop, (∃ n100, I9 n100 0 σ2) ∧ ∀ n10 : Nat, ∀ n11 : Int, ∀ σ8 : Hp, I9 n10 n11 σ8 → ∀ _ : Nat → Value, bc (decide (n11 < ((l_n : Nat) : Int))) (cut (α := Hp → Prop) (fun  σ13 => 
    ∀ _ : Nat → Value, wk .i64 (n11 + 1) (fun n15 => bk σ13 n10 (fun m16 σ17 => I9 m16 n15 σ17))) (fun J14 => 
    cut (α := Bool → Hp → Prop) (fun t21 σ19 => ∀ _ : Nat → Value, bc t21 (rt σ19 R (.bool true)) (J14 σ19)) (fun J20 => 
    ix l_A l_n n11 6 (fun b22 a23 => ldI σ8 .i64 b22 (a23 + 4) (fun n24 => bc (decide ((60 : Int) < n24)) (ix l_A l_n n11 6 (fun b25 a26 => 
    ldI σ8 .i64 b25 (a26 + 4) (fun n27 => J20 (decide (n27 ≤ 500)) σ8))) (J20 false σ8)))))) (J6 σ8))) (fun J3 => 
    cut (α := Bool → Hp → Prop) (fun t31 σ29 => ∀ _ : Nat → Value, bc t31 (rt σ29 R (.bool true)) (J3 σ29)) (fun J30 => 
    cl Try.prog (.func (.func 25) #[] #[]) #[(.agg #[(.slice m_Parking_A m_Parking_n m_Parking_c), (.slice m_Roads_A m_Roads_n m_Roads_c)])] σ (fun v32 σ33 => 
    ∃ t34 : Bool, (v32 = (.bool t34) ∧ bc t34 (J30 true σ33) (bc (decide ((5 : Int) < ((m_Parking_n : Nat) : Int))) (J30 true σ33) (bc (decide ((8 : Int) < ((m_Roads_n : Nat) : Int))) (J30 true σ33) (J30 (decide ((12 : Int) < ((l_n : Nat) : Int))) σ33)))))))
def AF : OA := ⟨[], false, []⟩
def JU : MAn := (.seq (.txt []) (.cut ⟨[true], 1, [], [(1, true)]⟩ (.cut ⟨[true], 1, [.slot 24 (.sc (.bool))], [(1, true)]⟩ (.txt [AF, AF, ⟨[], true, []⟩, AF, AF, AF, AF, AF, ⟨[], true, []⟩, AF, AF, AF, AF, AF, ⟨[], true, []⟩]) (.cond (.seq (.txt []) .leaf) .leaf)) (.cut ⟨[true], 1, [], []⟩ (.seq (.txt []) (.block (.loop ⟨[true], 1, [.slot 5 (.sc (.int .i64))], [(1, true)]⟩ (.seq (.seq (.txt []) (.cond .leaf .leaf)) (.cut ⟨[true], 1, [], [(1, true), (5, true)]⟩ (.block (.cut ⟨[true], 1, [.slot 44 (.sc (.bool))], [(1, true), (5, true)]⟩ (.txt [AF, AF, AF, AF, AF, AF, ⟨[], true, []⟩]) (.cond (.seq (.txt []) .leaf) .leaf))) (.txt [])))))) (.seq (.txt []) .leaf))))
set_option maxRecDepth 100000 in
theorem Kn (σ : Hp) (m_Parking_A : Option Addr) (m_Parking_n : Nat) (m_Parking_c : Nat) (m_Roads_A : Option Addr) (m_Roads_n : Nat) (m_Roads_c : Nat) (l_A : Option Addr) (l_n : Nat) (l_c : Nat) (R : Value → Hp → Prop) (h : Fd σ m_Parking_A m_Parking_n m_Parking_c m_Roads_A m_Roads_n m_Roads_c l_A l_n l_c R) : Ah Try.prog 16 #[(.agg #[(.slice m_Parking_A m_Parking_n m_Parking_c), (.slice m_Roads_A m_Roads_n m_Roads_c)]), (.slice l_A l_n l_c)] σ R :=
  Ak DN JU Try.func16 rfl (by kernel_rfl) (by kernel_rfl) (M := Fd σ m_Parking_A m_Parking_n m_Parking_c m_Roads_A m_Roads_n m_Roads_c l_A l_n l_c R) (by kernel_rfl) h
theorem H6 : AA Try.prog 16 = true := by kernel_rfl
abbrev Kp : FuncId := 32
def DA (σ : Hp) (a_A : Option Addr) (a_n : Nat) (_ : Nat) (b_A : Option Addr) (b_n : Nat) (_ : Nat) (R : Value → Hp → Prop) : Prop :=
  bc (!decide (((a_n : Nat) : Int) = ((b_n : Nat) : Int))) (rt σ R (.bool false)) (cut (α := Hp → Prop) (fun  σ2 => 
    ∀ _ : Nat → Value, rt σ2 R (.bool true)) (fun J3 => ∃ I6 : Nat → Int → Hp → Prop, (∃ n70, I6 n70 0 σ) ∧ 
    ∀ n7 : Nat, ∀ n8 : Int, ∀ σ5 : Hp, I6 n7 n8 σ5 → ∀ _ : Nat → Value, bc (decide (n8 < ((a_n : Nat) : Int))) (ix a_A a_n n8 1 (fun b9 a10 => 
    ldI σ5 .i64 b9 a10 (fun n11 => ix b_A b_n n8 1 (fun b12 a13 => ldI σ5 .i64 b12 a13 (fun n14 => bc (!decide (n11 = n14)) (rt σ5 R (.bool false)) (wk .i64 (n8 + 1) (fun n15 => 
    bk σ5 n7 (fun m16 σ17 => I6 m16 n15 σ17)))))))) (J3 σ5)))
def AV : OA := ⟨[], false, []⟩
def HX : MAn := (.seq (.txt []) (.seq (.seq (.txt []) (.cond (.seq (.txt []) .leaf) .leaf)) (.cut ⟨[], 0, [], []⟩ (.seq (.txt []) (.block (.loop ⟨[], 0, [.slot 5 (.sc (.int .i64))], [(0, true), (1, true)]⟩ (.seq (.seq (.txt []) (.cond .leaf .leaf)) (.seq (.block (.seq (.plan [] (.take 0 AV (.take 1 AV (.take 2 AV (.take 3 AV (.take 4 AV (.take 5 AV (.take 6 AV (.take 7 AV (.take 8 AV .done)))))))))) (.cond (.seq (.txt []) .leaf) .leaf))) (.txt [])))))) (.seq (.txt []) .leaf))))
set_option maxRecDepth 100000 in
theorem HQ (σ : Hp) (a_A : Option Addr) (a_n : Nat) (a_c : Nat) (b_A : Option Addr) (b_n : Nat) (b_c : Nat) (R : Value → Hp → Prop) (h : DA σ a_A a_n a_c b_A b_n b_c R) : Ah Try.prog 32 #[(.slice a_A a_n a_c), (.slice b_A b_n b_c)] σ R :=
  Ak DN HX Try.func32 rfl (by kernel_rfl) (by kernel_rfl) (M := DA σ a_A a_n a_c b_A b_n b_c R) (by kernel_rfl) h
theorem Gn : AA Try.prog 32 = true := by kernel_rfl
abbrev Kf : FuncId := 22
def Dz (σ : Hp) (a_A : Option Addr) (a_n : Nat) (_ : Nat) (b_A : Option Addr) (b_n : Nat) (_ : Nat) (R : Value → Hp → Prop) : Prop :=
  bc (!decide (((a_n : Nat) : Int) = ((b_n : Nat) : Int))) (rt σ R (.bool false)) (cut (α := Hp → Prop) (fun  σ2 => 
    ∀ _ : Nat → Value, rt σ2 R (.bool true)) (fun J3 => ∃ I6 : Nat → Int → Hp → Prop, (∃ n70, I6 n70 0 σ) ∧ 
    ∀ n7 : Nat, ∀ n8 : Int, ∀ σ5 : Hp, I6 n7 n8 σ5 → ∀ _ : Nat → Value, bc (decide (n8 < ((a_n : Nat) : Int))) (ix a_A a_n n8 2 (fun b9 a10 => 
    ldI σ5 .i64 b9 a10 (fun n11 => ldI σ5 .i64 b9 (a10 + 1) (fun n12 => ix b_A b_n n8 2 (fun b13 a14 => ldI σ5 .i64 b13 a14 (fun n15 => 
    ldI σ5 .i64 b13 (a14 + 1) (fun n16 => bc (!(decide (n11 = n15) && decide (n12 = n16))) (rt σ5 R (.bool false)) (wk .i64 (n8 + 1) (fun n17 => 
    bk σ5 n7 (fun m18 σ19 => I6 m18 n17 σ19)))))))))) (J3 σ5)))
def AW : OA := ⟨[], false, []⟩
def HW : MAn := (.seq (.txt []) (.seq (.seq (.txt []) (.cond (.seq (.txt []) .leaf) .leaf)) (.cut ⟨[], 0, [], []⟩ (.seq (.txt []) (.block (.loop ⟨[], 0, [.slot 5 (.sc (.int .i64))], [(0, true), (1, true)]⟩ (.seq (.seq (.txt []) (.cond .leaf .leaf)) (.seq (.block (.seq (.plan [] (.take 0 AW (.take 1 AW (.take 2 AW (.take 3 AW (.take 4 AW (.take 5 AW (.take 6 AW (.take 7 AW (.take 8 AW .done)))))))))) (.cond (.seq (.txt []) .leaf) .leaf))) (.txt [])))))) (.seq (.txt []) .leaf))))
set_option maxRecDepth 100000 in
theorem HT (σ : Hp) (a_A : Option Addr) (a_n : Nat) (a_c : Nat) (b_A : Option Addr) (b_n : Nat) (b_c : Nat) (R : Value → Hp → Prop) (h : Dz σ a_A a_n a_c b_A b_n b_c R) : Ah Try.prog 22 #[(.slice a_A a_n a_c), (.slice b_A b_n b_c)] σ R :=
  Ak DN HW Try.func22 rfl (by kernel_rfl) (by kernel_rfl) (M := Dz σ a_A a_n a_c b_A b_n b_c R) (by kernel_rfl) h
theorem F6 : AA Try.prog 22 = true := by kernel_rfl
abbrev Nf : FuncId := 34
def Ga (σ : Hp) (j_A : Option Addr) (j_n : Nat) (_ : Nat) (R : Value → Hp → Prop) : Prop :=
  ∃ ys1 : List (Int × Int), RdS [.int .i64, .int .i64] σ j_A j_n ys1 ∧ Ba (List.length ([] : List (Int × Int)) + List.length ys1) (exl 60 [.int .i64, .int .i64] (([] : List (Int × Int)) ++ ys1) σ (fun A2 l2 c2 σ3 => 
    rt σ3 R (.slice A2 l2 c2)))
def KR : MAn := (.seq (.txt []) (.seq (.txt []) .leaf))
set_option maxRecDepth 100000 in
theorem KL (σ : Hp) (j_A : Option Addr) (j_n : Nat) (j_c : Nat) (R : Value → Hp → Prop) (h : Ga σ j_A j_n j_c R) : Ah Try.prog 34 #[(.slice j_A j_n j_c)] σ R :=
  Ak DN KR Try.func34 rfl (by kernel_rfl) (by kernel_rfl) (M := Ga σ j_A j_n j_c R) (by kernel_rfl) h
abbrev B4 : FuncId := 12
def AK (σ333 : Hp) (a1_A : Option Addr) (a1_n : Nat) (A334 : Option Addr) (l334 : Nat) (c334 : Nat) (A335 : Option Addr) (l335 : Nat) (c335 : Nat) (a2_To : Int) (a2_Gap : Int) (J9 : Option Addr → Nat → Nat → Int → Hp → Prop) : Prop :=
  (∃ ys336 : List (Int × Int × Int × Int × Int × Int), RdS [.int .i64, .int .i64, .int .i64, .int .i64, .int .i64, .int .i64] σ333 a1_A a1_n ys336 ∧ 
    Ba (List.length ([] : List (Int × Int × Int × Int × Int × Int)) + List.length ys336) (exl 27 [.int .i64, .int .i64, .int .i64, .int .i64, .int .i64, .int .i64] (([] : List (Int × Int × Int × Int × Int × Int)) ++ ys336) σ333 (fun A337 l337 c337 σ338 => 
    cl Try.prog (.func (.func 39) #[] #[]) #[(.agg #[(.slice A334 l334 c334), (.slice A335 l335 c335)]), (.slice A337 l337 c337), (.int .i64 a2_To), (.int .i64 a2_Gap)] σ338 (fun v339 σ340 => 
    ∃ A341 : Option Addr, ∃ l341 : Nat, ∃ c341 : Nat, ∃ n342 : Int, (v339 = (.tuple #[(.slice A341 l341 c341), (.int .i64 n342)]) ∧ 
    J9 A341 l341 c341 n342 σ340)))))
def AL (σ38 : Hp) (a1_A : Option Addr) (a1_n : Nat) (A39 : Option Addr) (l39 : Nat) (c39 : Nat) (A40 : Option Addr) (l40 : Nat) (c40 : Nat) (a2_To : Int) (a2_Gap : Int) (J24 : Option Addr → Nat → Nat → Int → Hp → Prop) : Prop :=
  (∃ ys41 : List (Int × Int × Int × Int × Int × Int), RdS [.int .i64, .int .i64, .int .i64, .int .i64, .int .i64, .int .i64] σ38 a1_A a1_n ys41 ∧ 
    Ba (List.length ([] : List (Int × Int × Int × Int × Int × Int)) + List.length ys41) (exl 27 [.int .i64, .int .i64, .int .i64, .int .i64, .int .i64, .int .i64] (([] : List (Int × Int × Int × Int × Int × Int)) ++ ys41) σ38 (fun A42 l42 c42 σ43 => 
    cl Try.prog (.func (.func 41) #[] #[]) #[(.agg #[(.slice A39 l39 c39), (.slice A40 l40 c40)]), (.slice A42 l42 c42), (.int .i64 a2_To), (.int .i64 a2_Gap)] σ43 (fun v44 σ45 => 
    ∃ A46 : Option Addr, ∃ l46 : Nat, ∃ c46 : Nat, ∃ n47 : Int, (v44 = (.tuple #[(.slice A46 l46 c46), (.int .i64 n47)]) ∧ 
    J24 A46 l46 c46 n47 σ45)))))
def AH (a0_Parking_A : Option Addr) (a0_Parking_n : Nat) (a0_Parking_c : Nat) (a0_Roads_A : Option Addr) (a0_Roads_n : Nat) (a0_Roads_c : Nat) (σ20 : Hp) (a1_A : Option Addr) (a1_n : Nat) (a2_To : Int) (a2_Gap : Int) (J24 : Option Addr → Nat → Nat → Int → Hp → Prop) : Prop :=
  (cl Try.prog (.func (.func 20) #[] #[]) #[(.agg #[(.slice a0_Parking_A a0_Parking_n a0_Parking_c), (.slice a0_Roads_A a0_Roads_n a0_Roads_c)])] σ20 (fun v133 σ134 => 
    ∃ A135 : Option Addr, ∃ l135 : Nat, ∃ c135 : Nat, ∃ A136 : Option Addr, ∃ l136 : Nat, ∃ c136 : Nat, (v133 = (.agg #[(.slice A135 l135 c135), (.slice A136 l136 c136)]) ∧ 
    (Hp.Sub σ20 σ134 ∧ ∃ ys137 : List (Int × Int × Int × Int × Int × Int), RdS [.int .i64, .int .i64, .int .i64, .int .i64, .int .i64, .int .i64] σ134 a1_A a1_n ys137 ∧ 
    Ba (List.length ([] : List (Int × Int × Int × Int × Int × Int)) + List.length ys137) (exl 27 [.int .i64, .int .i64, .int .i64, .int .i64, .int .i64, .int .i64] (([] : List (Int × Int × Int × Int × Int × Int)) ++ ys137) σ134 (fun A138 l138 c138 σ139 => 
    cl Try.prog (.func (.func 41) #[] #[]) #[(.agg #[(.slice A135 l135 c135), (.slice A136 l136 c136)]), (.slice A138 l138 c138), (.int .i64 a2_To), (.int .i64 a2_Gap)] σ139 (fun v140 σ141 => 
    ∃ A142 : Option Addr, ∃ l142 : Nat, ∃ c142 : Nat, ∃ n143 : Int, (v140 = (.tuple #[(.slice A142 l142 c142), (.int .i64 n143)]) ∧ 
    J24 A142 l142 c142 n143 σ141))))))))
def AG (a0_Parking_A : Option Addr) (a0_Parking_n : Nat) (a0_Parking_c : Nat) (a0_Roads_A : Option Addr) (a0_Roads_n : Nat) (a0_Roads_c : Nat) (σ2 : Hp) (a1_A : Option Addr) (a1_n : Nat) (a2_To : Int) (a2_Gap : Int) (J9 : Option Addr → Nat → Nat → Int → Hp → Prop) : Prop :=
  (cl Try.prog (.func (.func 20) #[] #[]) #[(.agg #[(.slice a0_Parking_A a0_Parking_n a0_Parking_c), (.slice a0_Roads_A a0_Roads_n a0_Roads_c)])] σ2 (fun v428 σ429 => 
    ∃ A430 : Option Addr, ∃ l430 : Nat, ∃ c430 : Nat, ∃ A431 : Option Addr, ∃ l431 : Nat, ∃ c431 : Nat, (v428 = (.agg #[(.slice A430 l430 c430), (.slice A431 l431 c431)]) ∧ 
    (Hp.Sub σ2 σ429 ∧ ∃ ys432 : List (Int × Int × Int × Int × Int × Int), RdS [.int .i64, .int .i64, .int .i64, .int .i64, .int .i64, .int .i64] σ429 a1_A a1_n ys432 ∧ 
    Ba (List.length ([] : List (Int × Int × Int × Int × Int × Int)) + List.length ys432) (exl 27 [.int .i64, .int .i64, .int .i64, .int .i64, .int .i64, .int .i64] (([] : List (Int × Int × Int × Int × Int × Int)) ++ ys432) σ429 (fun A433 l433 c433 σ434 => 
    cl Try.prog (.func (.func 39) #[] #[]) #[(.agg #[(.slice A430 l430 c430), (.slice A431 l431 c431)]), (.slice A433 l433 c433), (.int .i64 a2_To), (.int .i64 a2_Gap)] σ434 (fun v435 σ436 => 
    ∃ A437 : Option Addr, ∃ l437 : Nat, ∃ c437 : Nat, ∃ n438 : Int, (v435 = (.tuple #[(.slice A437 l437 c437), (.int .i64 n438)]) ∧ 
    J9 A437 l437 c437 n438 σ436))))))))
def AO (a0_Parking_A : Option Addr) (a0_Parking_n : Nat) (a0_Parking_c : Nat) (a0_Roads_A : Option Addr) (a0_Roads_n : Nat) (a0_Roads_c : Nat) (σ20 : Hp) (a1_A : Option Addr) (a1_n : Nat) (a2_To : Int) (a2_Gap : Int) (J24 : Option Addr → Nat → Nat → Int → Hp → Prop) : Prop :=
  (cl Try.prog (.func (.func 20) #[] #[]) #[(.agg #[(.slice a0_Parking_A a0_Parking_n a0_Parking_c), (.slice a0_Roads_A a0_Roads_n a0_Roads_c)])] σ20 (fun v115 σ116 => 
    ∃ A117 : Option Addr, ∃ l117 : Nat, ∃ c117 : Nat, ∃ A118 : Option Addr, ∃ l118 : Nat, ∃ c118 : Nat, (v115 = (.agg #[(.slice A117 l117 c117), (.slice A118 l118 c118)]) ∧ 
    (Hp.Sub σ20 σ116 ∧ ((AL σ116 a1_A a1_n A117 l117 c117 A118 l118 c118 a2_To a2_Gap J24) ∧ (AL σ116 a1_A a1_n A117 l117 c117 A118 l118 c118 a2_To a2_Gap J24))))))
def AP (a0_Parking_A : Option Addr) (a0_Parking_n : Nat) (a0_Parking_c : Nat) (a0_Roads_A : Option Addr) (a0_Roads_n : Nat) (a0_Roads_c : Nat) (σ2 : Hp) (a1_A : Option Addr) (a1_n : Nat) (a2_To : Int) (a2_Gap : Int) (J9 : Option Addr → Nat → Nat → Int → Hp → Prop) : Prop :=
  (cl Try.prog (.func (.func 20) #[] #[]) #[(.agg #[(.slice a0_Parking_A a0_Parking_n a0_Parking_c), (.slice a0_Roads_A a0_Roads_n a0_Roads_c)])] σ2 (fun v410 σ411 => 
    ∃ A412 : Option Addr, ∃ l412 : Nat, ∃ c412 : Nat, ∃ A413 : Option Addr, ∃ l413 : Nat, ∃ c413 : Nat, (v410 = (.agg #[(.slice A412 l412 c412), (.slice A413 l413 c413)]) ∧ 
    (Hp.Sub σ2 σ411 ∧ ((AK σ411 a1_A a1_n A412 l412 c412 A413 l413 c413 a2_To a2_Gap J9) ∧ (AK σ411 a1_A a1_n A412 l412 c412 A413 l413 c413 a2_To a2_Gap J9))))))
def BM (a0_Parking_A : Option Addr) (a0_Parking_n : Nat) (a0_Parking_c : Nat) (a0_Roads_A : Option Addr) (a0_Roads_n : Nat) (a0_Roads_c : Nat) (σ2 : Hp) (a1_A : Option Addr) (a1_n : Nat) (a2_To : Int) (a2_Gap : Int) (J9 : Option Addr → Nat → Nat → Int → Hp → Prop) : Prop :=
  (cl Try.prog (.func (.func 20) #[] #[]) #[(.agg #[(.slice a0_Parking_A a0_Parking_n a0_Parking_c), (.slice a0_Roads_A a0_Roads_n a0_Roads_c)])] σ2 (fun v332 σ333 => 
    ∃ A334 : Option Addr, ∃ l334 : Nat, ∃ c334 : Nat, ∃ A335 : Option Addr, ∃ l335 : Nat, ∃ c335 : Nat, (v332 = (.agg #[(.slice A334 l334 c334), (.slice A335 l335 c335)]) ∧ 
    (Hp.Sub σ2 σ333 ∧ ((AK σ333 a1_A a1_n A334 l334 c334 A335 l335 c335 a2_To a2_Gap J9) ∧ ((AK σ333 a1_A a1_n A334 l334 c334 A335 l335 c335 a2_To a2_Gap J9) ∧ (AK σ333 a1_A a1_n A334 l334 c334 A335 l335 c335 a2_To a2_Gap J9)) ∧ ((AK σ333 a1_A a1_n A334 l334 c334 A335 l335 c335 a2_To a2_Gap J9) ∧ (AK σ333 a1_A a1_n A334 l334 c334 A335 l335 c335 a2_To a2_Gap J9)))))))
def BO (a0_Parking_A : Option Addr) (a0_Parking_n : Nat) (a0_Parking_c : Nat) (a0_Roads_A : Option Addr) (a0_Roads_n : Nat) (a0_Roads_c : Nat) (σ20 : Hp) (a1_A : Option Addr) (a1_n : Nat) (a2_To : Int) (a2_Gap : Int) (J24 : Option Addr → Nat → Nat → Int → Hp → Prop) : Prop :=
  (cl Try.prog (.func (.func 20) #[] #[]) #[(.agg #[(.slice a0_Parking_A a0_Parking_n a0_Parking_c), (.slice a0_Roads_A a0_Roads_n a0_Roads_c)])] σ20 (fun v37 σ38 => 
    ∃ A39 : Option Addr, ∃ l39 : Nat, ∃ c39 : Nat, ∃ A40 : Option Addr, ∃ l40 : Nat, ∃ c40 : Nat, (v37 = (.agg #[(.slice A39 l39 c39), (.slice A40 l40 c40)]) ∧ 
    (Hp.Sub σ20 σ38 ∧ ((AL σ38 a1_A a1_n A39 l39 c39 A40 l40 c40 a2_To a2_Gap J24) ∧ ((AL σ38 a1_A a1_n A39 l39 c39 A40 l40 c40 a2_To a2_Gap J24) ∧ (AL σ38 a1_A a1_n A39 l39 c39 A40 l40 c40 a2_To a2_Gap J24)) ∧ ((AL σ38 a1_A a1_n A39 l39 c39 A40 l40 c40 a2_To a2_Gap J24) ∧ (AL σ38 a1_A a1_n A39 l39 c39 A40 l40 c40 a2_To a2_Gap J24)))))))
def B0 (σ : Hp) (a0_Parking_A : Option Addr) (a0_Parking_n : Nat) (a0_Parking_c : Nat) (a0_Roads_A : Option Addr) (a0_Roads_n : Nat) (a0_Roads_c : Nat) (a1_A : Option Addr) (a1_n : Nat) (a1_c : Nat) (a2_To : Int) (a2_Gap : Int) (R : Value → Hp → Prop) : Prop :=
  cl Try.prog (.func (.func 16) #[] #[]) #[(.agg #[(.slice a0_Parking_A a0_Parking_n a0_Parking_c), (.slice a0_Roads_A a0_Roads_n a0_Roads_c)]), (.slice a1_A a1_n a1_c)] σ (fun v1 σ2 => 
    ∃ t3 : Bool, (v1 = (.bool t3) ∧ bc t3 (cl Try.prog (.func (.func 18) #[] #[]) #[] σ2 (fun v4 σ5 => ∃ t6 : Bool, (v4 = (.bool t6) ∧ 
    rt σ5 R (.bool t6)))) (cut (α := Option Addr → Nat → Nat → Int → Hp → Prop) (fun A10 l10 _ n11 σ8 => 
    ∀ _ : Nat → Value, cl Try.prog (.func (.func 40) #[] #[]) #[(.agg #[(.slice a0_Parking_A a0_Parking_n a0_Parking_c), (.slice a0_Roads_A a0_Roads_n a0_Roads_c)]), (.slice a1_A a1_n a1_c), (.int .i64 a2_To), (.int .i64 a2_Gap)] σ8 (fun v12 σ13 => 
    ∃ A14 : Option Addr, ∃ l14 : Nat, ∃ c14 : Nat, ∃ n15 : Int, (v12 = (.tuple #[(.slice A14 l14 c14), (.int .i64 n15)]) ∧ 
    cut (α := Hp → Prop) (fun  σ17 => ∀ _ : Nat → Value, cut (α := Hp → Prop) (fun  σ20 => ∀ _ : Nat → Value, 
    cut (α := Option Addr → Nat → Nat → Int → Hp → Prop) (fun A25 l25 c25 n26 σ23 => ∀ _ : Nat → Value, 
    cl Try.prog (.func (.func 42) #[] #[]) #[(.agg #[(.slice a0_Parking_A a0_Parking_n a0_Parking_c), (.slice a0_Roads_A a0_Roads_n a0_Roads_c)]), (.slice a1_A a1_n a1_c), (.int .i64 a2_To), (.int .i64 a2_Gap)] σ23 (fun v27 σ28 => 
    ∃ A29 : Option Addr, ∃ l29 : Nat, ∃ c29 : Nat, ∃ n30 : Int, (v27 = (.tuple #[(.slice A29 l29 c29), (.int .i64 n30)]) ∧ 
    cl Try.prog (.func (.func 32) #[] #[]) #[(.slice A25 l25 c25), (.slice A29 l29 c29)] σ28 (fun v31 σ32 => 
    ∃ t33 : Bool, (v31 = (.bool t33) ∧ bc t33 (bc (decide (n26 = n30)) (cl Try.prog (.func (.func 18) #[] #[]) #[] σ32 (fun v34 σ35 => 
    ∃ t36 : Bool, (v34 = (.bool t36) ∧ rt σ35 R (.bool t36)))) (rt σ32 R (.bool false))) (rt σ32 R (.bool false))))))) (fun J24 => 
    ((BO a0_Parking_A a0_Parking_n a0_Parking_c a0_Roads_A a0_Roads_n a0_Roads_c σ20 a1_A a1_n a2_To a2_Gap J24) ∧ ((BO a0_Parking_A a0_Parking_n a0_Parking_c a0_Roads_A a0_Roads_n a0_Roads_c σ20 a1_A a1_n a2_To a2_Gap J24) ∧ ((AO a0_Parking_A a0_Parking_n a0_Parking_c a0_Roads_A a0_Roads_n a0_Roads_c σ20 a1_A a1_n a2_To a2_Gap J24) ∧ (AH a0_Parking_A a0_Parking_n a0_Parking_c a0_Roads_A a0_Roads_n a0_Roads_c σ20 a1_A a1_n a2_To a2_Gap J24)) ∧ ((AO a0_Parking_A a0_Parking_n a0_Parking_c a0_Roads_A a0_Roads_n a0_Roads_c σ20 a1_A a1_n a2_To a2_Gap J24) ∧ (AH a0_Parking_A a0_Parking_n a0_Parking_c a0_Roads_A a0_Roads_n a0_Roads_c σ20 a1_A a1_n a2_To a2_Gap J24))) ∧ ((AO a0_Parking_A a0_Parking_n a0_Parking_c a0_Roads_A a0_Roads_n a0_Roads_c σ20 a1_A a1_n a2_To a2_Gap J24) ∧ ((AO a0_Parking_A a0_Parking_n a0_Parking_c a0_Roads_A a0_Roads_n a0_Roads_c σ20 a1_A a1_n a2_To a2_Gap J24) ∧ (AH a0_Parking_A a0_Parking_n a0_Parking_c a0_Roads_A a0_Roads_n a0_Roads_c σ20 a1_A a1_n a2_To a2_Gap J24)) ∧ ((AH a0_Parking_A a0_Parking_n a0_Parking_c a0_Roads_A a0_Roads_n a0_Roads_c σ20 a1_A a1_n a2_To a2_Gap J24) ∧ (AH a0_Parking_A a0_Parking_n a0_Parking_c a0_Roads_A a0_Roads_n a0_Roads_c σ20 a1_A a1_n a2_To a2_Gap J24))) ∧ ((AO a0_Parking_A a0_Parking_n a0_Parking_c a0_Roads_A a0_Roads_n a0_Roads_c σ20 a1_A a1_n a2_To a2_Gap J24) ∧ ((AO a0_Parking_A a0_Parking_n a0_Parking_c a0_Roads_A a0_Roads_n a0_Roads_c σ20 a1_A a1_n a2_To a2_Gap J24) ∧ (AH a0_Parking_A a0_Parking_n a0_Parking_c a0_Roads_A a0_Roads_n a0_Roads_c σ20 a1_A a1_n a2_To a2_Gap J24)) ∧ ((AH a0_Parking_A a0_Parking_n a0_Parking_c a0_Roads_A a0_Roads_n a0_Roads_c σ20 a1_A a1_n a2_To a2_Gap J24) ∧ (AH a0_Parking_A a0_Parking_n a0_Parking_c a0_Roads_A a0_Roads_n a0_Roads_c σ20 a1_A a1_n a2_To a2_Gap J24)))))) (fun J21 => ∃ I313 : Nat → Int → Hp → Prop, (∃ n3140, I313 n3140 0 σ17) ∧ 
    ∀ n314 : Nat, ∀ n315 : Int, ∀ σ312 : Hp, I313 n314 n315 σ312 → ∀ _ : Nat → Value, bc (decide (n315 < ((l10 : Nat) : Int))) (ix A10 l10 n315 1 (fun b316 a317 => 
    ldS σ312 b316 a317 (fun A318 l318 c318 => ix A14 l14 n315 1 (fun b319 a320 => ldS σ312 b319 a320 (fun A321 l321 c321 => 
    cl Try.prog (.func (.func 22) #[] #[]) #[(.slice A318 l318 c318), (.slice A321 l321 c321)] σ312 (fun v322 σ323 => 
    ∃ t324 : Bool, (v322 = (.bool t324) ∧ bc (!t324) (rt σ323 R (.bool false)) (wk .i64 (n315 + 1) (fun n325 => 
    bk σ323 n314 (fun m326 σ327 => I313 m326 n325 σ327)))))))))) (J21 σ312))) (fun J18 => cut (α := Bool → Hp → Prop) (fun t331 σ329 => 
    ∀ _ : Nat → Value, bc t331 (rt σ329 R (.bool false)) (J18 σ329)) (fun J330 => bc (!decide (((l10 : Nat) : Int) = ((l14 : Nat) : Int))) (J330 true σ13) (J330 (!decide (n11 = n15)) σ13)))))) (fun J9 => 
    ((BM a0_Parking_A a0_Parking_n a0_Parking_c a0_Roads_A a0_Roads_n a0_Roads_c σ2 a1_A a1_n a2_To a2_Gap J9) ∧ ((BM a0_Parking_A a0_Parking_n a0_Parking_c a0_Roads_A a0_Roads_n a0_Roads_c σ2 a1_A a1_n a2_To a2_Gap J9) ∧ ((AP a0_Parking_A a0_Parking_n a0_Parking_c a0_Roads_A a0_Roads_n a0_Roads_c σ2 a1_A a1_n a2_To a2_Gap J9) ∧ (AG a0_Parking_A a0_Parking_n a0_Parking_c a0_Roads_A a0_Roads_n a0_Roads_c σ2 a1_A a1_n a2_To a2_Gap J9)) ∧ ((AP a0_Parking_A a0_Parking_n a0_Parking_c a0_Roads_A a0_Roads_n a0_Roads_c σ2 a1_A a1_n a2_To a2_Gap J9) ∧ (AG a0_Parking_A a0_Parking_n a0_Parking_c a0_Roads_A a0_Roads_n a0_Roads_c σ2 a1_A a1_n a2_To a2_Gap J9))) ∧ ((AP a0_Parking_A a0_Parking_n a0_Parking_c a0_Roads_A a0_Roads_n a0_Roads_c σ2 a1_A a1_n a2_To a2_Gap J9) ∧ ((AP a0_Parking_A a0_Parking_n a0_Parking_c a0_Roads_A a0_Roads_n a0_Roads_c σ2 a1_A a1_n a2_To a2_Gap J9) ∧ (AG a0_Parking_A a0_Parking_n a0_Parking_c a0_Roads_A a0_Roads_n a0_Roads_c σ2 a1_A a1_n a2_To a2_Gap J9)) ∧ ((AG a0_Parking_A a0_Parking_n a0_Parking_c a0_Roads_A a0_Roads_n a0_Roads_c σ2 a1_A a1_n a2_To a2_Gap J9) ∧ (AG a0_Parking_A a0_Parking_n a0_Parking_c a0_Roads_A a0_Roads_n a0_Roads_c σ2 a1_A a1_n a2_To a2_Gap J9))) ∧ ((AP a0_Parking_A a0_Parking_n a0_Parking_c a0_Roads_A a0_Roads_n a0_Roads_c σ2 a1_A a1_n a2_To a2_Gap J9) ∧ ((AP a0_Parking_A a0_Parking_n a0_Parking_c a0_Roads_A a0_Roads_n a0_Roads_c σ2 a1_A a1_n a2_To a2_Gap J9) ∧ (AG a0_Parking_A a0_Parking_n a0_Parking_c a0_Roads_A a0_Roads_n a0_Roads_c σ2 a1_A a1_n a2_To a2_Gap J9)) ∧ ((AG a0_Parking_A a0_Parking_n a0_Parking_c a0_Roads_A a0_Roads_n a0_Roads_c σ2 a1_A a1_n a2_To a2_Gap J9) ∧ (AG a0_Parking_A a0_Parking_n a0_Parking_c a0_Roads_A a0_Roads_n a0_Roads_c σ2 a1_A a1_n a2_To a2_Gap J9))))))))
def Aa : OA := ⟨[], false, []⟩
def Af : MPlan := (.alt 9 false Aa (.take 10 Aa (.take 11 Aa (.take 12 Aa (.take 13 Aa (.take 14 Aa .done))))) .done)
def Cl : MAn := (.plan [4, 9] (.take 0 Aa (.take 3 Aa (.take 5 Aa (.take 7 Aa (.alt 1 true Aa (.new 2 Aa (.alt 4 false Aa (.take 6 Aa (.take 8 Aa Af)) (.alt 6 true Aa (.alt 4 false Aa (.take 8 Aa Af) (.alt 8 true Aa (.alt 4 false Aa Af .done) .done)) (.alt 8 true Aa (.alt 4 false Aa (.take 6 Aa Af) (.alt 6 true Aa (.alt 4 false Aa Af .done) .done)) .done)))) (.alt 2 true Aa (.alt 1 true Aa (.alt 4 false Aa (.take 6 Aa (.take 8 Aa Af)) (.alt 6 true Aa (.alt 4 false Aa (.take 8 Aa Af) (.alt 8 true Aa (.alt 4 false Aa Af .done) .done)) (.alt 8 true Aa (.alt 4 false Aa (.take 6 Aa Af) (.alt 6 true Aa (.alt 4 false Aa Af .done) .done)) .done))) (.alt 6 true Aa (.alt 1 true Aa (.alt 4 false Aa (.take 8 Aa Af) (.alt 8 true Aa (.alt 4 false Aa Af .done) .done)) (.alt 8 true Aa (.alt 1 true Aa (.alt 4 false Aa Af .done) .done) .done)) (.alt 8 true Aa (.alt 1 true Aa (.alt 4 false Aa (.take 6 Aa Af) (.alt 6 true Aa (.alt 4 false Aa Af .done) .done)) (.alt 6 true Aa (.alt 1 true Aa (.alt 4 false Aa Af .done) .done) .done)) .done))) (.alt 6 true Aa (.alt 1 true Aa (.new 2 Aa (.alt 4 false Aa (.take 8 Aa Af) (.alt 8 true Aa (.alt 4 false Aa Af .done) .done))) (.alt 2 true Aa (.alt 1 true Aa (.alt 4 false Aa (.take 8 Aa Af) (.alt 8 true Aa (.alt 4 false Aa Af .done) .done)) (.alt 8 true Aa (.alt 1 true Aa (.alt 4 false Aa Af .done) .done) .done)) (.alt 8 true Aa (.alt 1 true Aa (.alt 2 true Aa (.alt 4 false Aa Af .done) .done) (.alt 2 true Aa (.alt 1 true Aa (.alt 4 false Aa Af .done) .done) .done)) .done))) (.alt 8 true Aa (.alt 1 true Aa (.new 2 Aa (.alt 4 false Aa (.take 6 Aa Af) (.alt 6 true Aa (.alt 4 false Aa Af .done) .done))) (.alt 2 true Aa (.alt 1 true Aa (.alt 4 false Aa (.take 6 Aa Af) (.alt 6 true Aa (.alt 4 false Aa Af .done) .done)) (.alt 6 true Aa (.alt 1 true Aa (.alt 4 false Aa Af .done) .done) .done)) (.alt 6 true Aa (.alt 1 true Aa (.alt 2 true Aa (.alt 4 false Aa Af .done) .done) (.alt 2 true Aa (.alt 1 true Aa (.alt 4 false Aa Af .done) .done) .done)) .done))) .done)))))))))
def Er : MAn := (.seq (.txt []) (.seq (.seq (.txt []) (.cond (.seq (.txt []) .leaf) .leaf)) (.cut ⟨[true, true], 2, [.slot 3 (.hb 0 0), .slot 5 (.hb 1 0), .slot 7 (.sc (.slc)), .slot 8 (.sc (.int .i64))], [(1, true)]⟩ Cl (.seq (.txt []) (.cut ⟨[true, true], 2, [.slot 3 (.hb 0 0), .slot 5 (.hb 1 0)], [(1, true), (7, true), (9, true)]⟩ (.cut ⟨[true, true], 2, [.slot 3 (.hb 0 0), .slot 5 (.hb 1 0), .slot 52 (.sc (.bool))], [(1, true), (7, true), (9, true)]⟩ (.txt [Aa, Aa, Aa, Aa, Aa, ⟨[], true, []⟩]) (.cond (.seq (.txt []) .leaf) .leaf)) (.cut ⟨[true, true], 2, [.slot 3 (.hb 0 0), .slot 5 (.hb 1 0)], [(1, true)]⟩ (.seq (.txt []) (.block (.loop ⟨[true, true], 2, [.slot 3 (.hb 0 0), .slot 5 (.hb 1 0), .slot 11 (.sc (.int .i64))], [(1, true), (7, true), (9, true)]⟩ (.seq (.seq (.txt []) (.cond .leaf .leaf)) (.seq (.block (.seq (.plan [8] (.take 0 Aa (.take 1 Aa (.take 2 Aa (.take 3 Aa (.take 4 Aa (.take 5 Aa (.take 6 Aa (.take 7 Aa (.alt 8 false Aa (.take 9 Aa .done) .done)))))))))) (.cond (.seq (.txt []) .leaf) .leaf))) (.txt [])))))) (.cut ⟨[true, true], 2, [.slot 3 (.hb 0 0), .slot 5 (.hb 1 0), .slot 12 (.sc (.slc)), .slot 13 (.sc (.int .i64))], [(1, true)]⟩ Cl (.seq (.txt []) (.seq (.txt [Aa, Aa, Aa, ⟨[], true, []⟩, Aa, Aa, Aa, Aa, ⟨[], true, []⟩]) .leaf)))))))))
set_option maxRecDepth 100000 in
theorem Es (σ : Hp) (a0_Parking_A : Option Addr) (a0_Parking_n : Nat) (a0_Parking_c : Nat) (a0_Roads_A : Option Addr) (a0_Roads_n : Nat) (a0_Roads_c : Nat) (a1_A : Option Addr) (a1_n : Nat) (a1_c : Nat) (a2_To : Int) (a2_Gap : Int) (R : Value → Hp → Prop) (h : B0 σ a0_Parking_A a0_Parking_n a0_Parking_c a0_Roads_A a0_Roads_n a0_Roads_c a1_A a1_n a1_c a2_To a2_Gap R) : Ah Try.prog 12 #[(.agg #[(.slice a0_Parking_A a0_Parking_n a0_Parking_c), (.slice a0_Roads_A a0_Roads_n a0_Roads_c)]), (.slice a1_A a1_n a1_c), (.agg #[(.int .i64 a2_To), (.int .i64 a2_Gap)])] σ R :=
  Ak DN Er Try.func12 rfl (by kernel_rfl) (by kernel_rfl) (M := B0 σ a0_Parking_A a0_Parking_n a0_Parking_c a0_Roads_A a0_Roads_n a0_Roads_c a1_A a1_n a1_c a2_To a2_Gap R) (by kernel_rfl) h
end Go.Proofs.Ytkdjkkimngeloaa
