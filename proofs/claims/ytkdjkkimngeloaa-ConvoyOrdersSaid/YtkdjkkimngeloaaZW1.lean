/- Trimmed by wip/trim.py to what this claim rests on. -/
import Derived.Test.YtkdjkkimngeloaaZB11
namespace Go.Proofs.Ytkdjkkimngeloaa
open Go.RowKit
theorem Dh : Try.prog.follows .mixedOrders = true := by kernel_rfl
abbrev Ls : FuncId := 49
def GW (σ : Hp) (R : Value → Hp → Prop) : Prop :=
  exl 4 [.bool] ([false, true, false, false] : List Bool) σ (fun A1 l1 c1 σ2 => exl 51 [.int .i64, .int .i64, .int .i64, .int .i64, .int .i64] ([(0, 1, 10, 40, 90), (1, 2, 10, 30, 90), (0, 2, 40, 50, 90), (2, 3, 5, 50, 20)] : List (Int × Int × Int × Int × Int)) σ2 (fun A3 l3 c3 σ4 => 
    rt σ4 R (.tuple #[(.agg #[(.slice A1 l1 c1), (.slice A3 l3 c3)]), (.agg #[(.int .i64 25), (.int .i64 20), (.int .i64 0), (.int .i64 0), (.int .i64 15), (.int .i64 5)])])))
def IR : MAn := (.seq (.txt []) (.seq (.txt []) (.seq (.txt []) .leaf)))
set_option maxRecDepth 100000 in
theorem Jg (σ : Hp) (R : Value → Hp → Prop) (h : GW σ  R) : Ag Try.prog 49 #[] σ R :=
  Ai Dh IR Try.func49 rfl (by kernel_rfl) (by kernel_rfl) (M := GW σ  R) (by kernel_rfl) h
theorem Hk : Aw Try.prog 49 = true := by kernel_rfl
abbrev IM : FuncId := 18
def Fi (σ : Hp) (R : Value → Hp → Prop) : Prop :=
  cl Try.prog (.func (.func 49) #[] #[]) #[] σ (fun v1 σ2 => ∃ A3 : Option Addr, ∃ l3 : Nat, ∃ c3 : Nat, ∃ A4 : Option Addr, ∃ l4 : Nat, ∃ c4 : Nat, ∃ n5 : Int, ∃ n6 : Int, ∃ n7 : Int, ∃ n8 : Int, ∃ n9 : Int, ∃ n10 : Int, (v1 = (.tuple #[(.agg #[(.slice A3 l3 c3), (.slice A4 l4 c4)]), (.agg #[(.int .i64 n5), (.int .i64 n6), (.int .i64 n7), (.int .i64 n8), (.int .i64 n9), (.int .i64 n10)])]) ∧ 
    cl Try.prog (.func (.func 19) #[] #[]) #[(.agg #[(.slice A3 l3 c3), (.slice A4 l4 c4)]), (.agg #[(.int .i64 n5), (.int .i64 n6), (.int .i64 n7), (.int .i64 n8), (.int .i64 n9), (.int .i64 n10)]), (.int .i64 2)] σ2 (fun v11 σ12 => 
    ∃ A13 : Option Addr, ∃ l13 : Nat, ∃ c13 : Nat, ∃ n14 : Int, (v11 = (.tuple #[(.slice A13 l13 c13), (.int .i64 n14)]) ∧ 
    cl Try.prog (.func (.func 23) #[] #[]) #[(.agg #[(.slice A3 l3 c3), (.slice A4 l4 c4)]), (.agg #[(.int .i64 n5), (.int .i64 n6), (.int .i64 n7), (.int .i64 n8), (.int .i64 n9), (.int .i64 n10)]), (.int .i64 2)] σ12 (fun v15 σ16 => 
    ∃ n17 : Int, ∃ n18 : Int, (v15 = (.tuple #[(.int .i64 n17), (.int .i64 n18)]) ∧ bc (decide (n14 = 0)) (bc (decide (n18 = 0)) (bc (decide (n17 = 30)) (bc (decide (((l13 : Nat) : Int) = 2)) (ix A13 l13 1 2 (fun b19 a20 => 
    ldI σ16 .i64 b19 a20 (fun n21 => ldI σ16 .i64 b19 (a20 + 1) (fun n22 => rt σ16 R (.bool (decide (n21 = 1) && decide (n22 = 15))))))) (rt σ16 R (.bool false))) (rt σ16 R (.bool false))) (rt σ16 R (.bool false))) (rt σ16 R (.bool false))))))))
def AP : OA := ⟨[], false, []⟩
def KG : MAn := (.seq (.txt []) (.seq (.txt []) (.seq (.txt []) (.seq (.txt []) (.seq (.txt [AP, AP, ⟨[], true, []⟩, AP, AP, AP, ⟨[], true, []⟩, AP, AP, AP, ⟨[], true, []⟩, AP, AP, AP, AP, ⟨[], true, []⟩]) .leaf)))))
set_option maxRecDepth 100000 in
theorem KP (σ : Hp) (R : Value → Hp → Prop) (h : Fi σ  R) : Ag Try.prog 18 #[] σ R :=
  Ai Dh KG Try.func18 rfl (by kernel_rfl) (by kernel_rfl) (M := Fi σ  R) (by kernel_rfl) h
theorem IG : Aw Try.prog 18 = true := by kernel_rfl
abbrev Ph : FuncId := 25
def HB (σ : Hp) (_ : Option Addr) (m_Parking_n : Nat) (_ : Nat) (_ : Option Addr) (m_Roads_n : Nat) (_ : Nat) (R : Value → Hp → Prop) : Prop :=
  bc (decide ((20 : Int) < ((m_Parking_n : Nat) : Int))) (rt σ R (.bool true)) (rt σ R (.bool (decide ((40 : Int) < ((m_Roads_n : Nat) : Int)))))
def MJ : MAn := (.seq (.txt []) (.seq (.txt [⟨[], false, []⟩, ⟨[], false, []⟩, ⟨[], false, []⟩, ⟨[], false, []⟩, ⟨[], true, []⟩]) .leaf))
set_option maxRecDepth 100000 in
theorem L0 (σ : Hp) (m_Parking_A : Option Addr) (m_Parking_n : Nat) (m_Parking_c : Nat) (m_Roads_A : Option Addr) (m_Roads_n : Nat) (m_Roads_c : Nat) (R : Value → Hp → Prop) (h : HB σ m_Parking_A m_Parking_n m_Parking_c m_Roads_A m_Roads_n m_Roads_c R) : Ag Try.prog 25 #[(.agg #[(.slice m_Parking_A m_Parking_n m_Parking_c), (.slice m_Roads_A m_Roads_n m_Roads_c)])] σ R :=
  Ai Dh MJ Try.func25 rfl (by kernel_rfl) (by kernel_rfl) (M := HB σ m_Parking_A m_Parking_n m_Parking_c m_Roads_A m_Roads_n m_Roads_c R) (by kernel_rfl) h
theorem JS : Aw Try.prog 25 = true := by kernel_rfl
abbrev M9 : FuncId := 16
def FG (σ : Hp) (m_Parking_A : Option Addr) (m_Parking_n : Nat) (m_Parking_c : Nat) (m_Roads_A : Option Addr) (m_Roads_n : Nat) (m_Roads_c : Nat) (l_A : Option Addr) (l_n : Nat) (_ : Nat) (R : Value → Hp → Prop) : Prop :=
  cut (α := Hp → Prop) (fun  σ2 => ∀ _ : Nat → Value, cut (α := Hp → Prop) (fun  σ5 => ∀ _ : Nat → Value, 
    rt σ5 R (.bool false)) (fun J6 => ∃ I9 : Nat → Int → Hp → Prop, (∃ n100, I9 n100 0 σ2) ∧ ∀ n10 : Nat, ∀ n11 : Int, ∀ σ8 : Hp, I9 n10 n11 σ8 → ∀ _ : Nat → Value, bc (decide (n11 < ((l_n : Nat) : Int))) (cut (α := Hp → Prop) (fun  σ13 => 
    ∀ _ : Nat → Value, wk .i64 (n11 + 1) (fun n15 => bk σ13 n10 (fun m16 σ17 => I9 m16 n15 σ17))) (fun J14 => 
    cut (α := Bool → Hp → Prop) (fun t21 σ19 => ∀ _ : Nat → Value, bc t21 (rt σ19 R (.bool true)) (J14 σ19)) (fun J20 => 
    ix l_A l_n n11 6 (fun b22 a23 => ldI σ8 .i64 b22 (a23 + 4) (fun n24 => bc (decide ((60 : Int) < n24)) (ix l_A l_n n11 6 (fun b25 a26 => 
    ldI σ8 .i64 b25 (a26 + 4) (fun n27 => J20 (decide (n27 ≤ 500)) σ8))) (J20 false σ8)))))) (J6 σ8))) (fun J3 => 
    cut (α := Bool → Hp → Prop) (fun t31 σ29 => ∀ _ : Nat → Value, bc t31 (rt σ29 R (.bool true)) (J3 σ29)) (fun J30 => 
    cl Try.prog (.func (.func 25) #[] #[]) #[(.agg #[(.slice m_Parking_A m_Parking_n m_Parking_c), (.slice m_Roads_A m_Roads_n m_Roads_c)])] σ (fun v32 σ33 => 
    ∃ t34 : Bool, (v32 = (.bool t34) ∧ bc t34 (J30 true σ33) (bc (decide ((5 : Int) < ((m_Parking_n : Nat) : Int))) (J30 true σ33) (bc (decide ((8 : Int) < ((m_Roads_n : Nat) : Int))) (J30 true σ33) (J30 (decide ((12 : Int) < ((l_n : Nat) : Int))) σ33)))))))
def AD : OA := ⟨[], false, []⟩
def KN : MAn := (.seq (.txt []) (.cut ⟨[true], 1, [], [(1, true)]⟩ (.cut ⟨[true], 1, [.slot 24 (.sc (.bool))], [(1, true)]⟩ (.txt [AD, AD, ⟨[], true, []⟩, AD, AD, AD, AD, AD, ⟨[], true, []⟩, AD, AD, AD, AD, AD, ⟨[], true, []⟩]) (.cond (.seq (.txt []) .leaf) .leaf)) (.cut ⟨[true], 1, [], []⟩ (.seq (.txt []) (.block (.loop ⟨[true], 1, [.slot 5 (.sc (.int .i64))], [(1, true)]⟩ (.seq (.seq (.txt []) (.cond .leaf .leaf)) (.cut ⟨[true], 1, [], [(1, true), (5, true)]⟩ (.block (.cut ⟨[true], 1, [.slot 44 (.sc (.bool))], [(1, true), (5, true)]⟩ (.txt [AD, AD, AD, AD, AD, AD, ⟨[], true, []⟩]) (.cond (.seq (.txt []) .leaf) .leaf))) (.txt [])))))) (.seq (.txt []) .leaf))))
set_option maxRecDepth 100000 in
theorem KY (σ : Hp) (m_Parking_A : Option Addr) (m_Parking_n : Nat) (m_Parking_c : Nat) (m_Roads_A : Option Addr) (m_Roads_n : Nat) (m_Roads_c : Nat) (l_A : Option Addr) (l_n : Nat) (l_c : Nat) (R : Value → Hp → Prop) (h : FG σ m_Parking_A m_Parking_n m_Parking_c m_Roads_A m_Roads_n m_Roads_c l_A l_n l_c R) : Ag Try.prog 16 #[(.agg #[(.slice m_Parking_A m_Parking_n m_Parking_c), (.slice m_Roads_A m_Roads_n m_Roads_c)]), (.slice l_A l_n l_c)] σ R :=
  Ai Dh KN Try.func16 rfl (by kernel_rfl) (by kernel_rfl) (M := FG σ m_Parking_A m_Parking_n m_Parking_c m_Roads_A m_Roads_n m_Roads_c l_A l_n l_c R) (by kernel_rfl) h
theorem Ix : Aw Try.prog 16 = true := by kernel_rfl
abbrev KX : FuncId := 32
def DB (σ : Hp) (a_A : Option Addr) (a_n : Nat) (_ : Nat) (b_A : Option Addr) (b_n : Nat) (_ : Nat) (R : Value → Hp → Prop) : Prop :=
  bc (!decide (((a_n : Nat) : Int) = ((b_n : Nat) : Int))) (rt σ R (.bool false)) (cut (α := Hp → Prop) (fun  σ2 => 
    ∀ _ : Nat → Value, rt σ2 R (.bool true)) (fun J3 => ∃ I6 : Nat → Int → Hp → Prop, (∃ n70, I6 n70 0 σ) ∧ 
    ∀ n7 : Nat, ∀ n8 : Int, ∀ σ5 : Hp, I6 n7 n8 σ5 → ∀ _ : Nat → Value, bc (decide (n8 < ((a_n : Nat) : Int))) (ix a_A a_n n8 1 (fun b9 a10 => 
    ldI σ5 .i64 b9 a10 (fun n11 => ix b_A b_n n8 1 (fun b12 a13 => ldI σ5 .i64 b12 a13 (fun n14 => bc (!decide (n11 = n14)) (rt σ5 R (.bool false)) (wk .i64 (n8 + 1) (fun n15 => 
    bk σ5 n7 (fun m16 σ17 => I6 m16 n15 σ17)))))))) (J3 σ5)))
def AS : OA := ⟨[], false, []⟩
def IB : MAn := (.seq (.txt []) (.seq (.seq (.txt []) (.cond (.seq (.txt []) .leaf) .leaf)) (.cut ⟨[], 0, [], []⟩ (.seq (.txt []) (.block (.loop ⟨[], 0, [.slot 5 (.sc (.int .i64))], [(0, true), (1, true)]⟩ (.seq (.seq (.txt []) (.cond .leaf .leaf)) (.seq (.block (.seq (.plan [] (.take 0 AS (.take 1 AS (.take 2 AS (.take 3 AS (.take 4 AS (.take 5 AS (.take 6 AS (.take 7 AS (.take 8 AS .done)))))))))) (.cond (.seq (.txt []) .leaf) .leaf))) (.txt [])))))) (.seq (.txt []) .leaf))))
set_option maxRecDepth 100000 in
theorem IA (σ : Hp) (a_A : Option Addr) (a_n : Nat) (a_c : Nat) (b_A : Option Addr) (b_n : Nat) (b_c : Nat) (R : Value → Hp → Prop) (h : DB σ a_A a_n a_c b_A b_n b_c R) : Ag Try.prog 32 #[(.slice a_A a_n a_c), (.slice b_A b_n b_c)] σ R :=
  Ai Dh IB Try.func32 rfl (by kernel_rfl) (by kernel_rfl) (M := DB σ a_A a_n a_c b_A b_n b_c R) (by kernel_rfl) h
theorem Gv : Aw Try.prog 32 = true := by kernel_rfl
abbrev NW : FuncId := 34
def GG (σ : Hp) (j_A : Option Addr) (j_n : Nat) (_ : Nat) (R : Value → Hp → Prop) : Prop :=
  ∃ ys1 : List (Int × Int), RdS [.int .i64, .int .i64] σ j_A j_n ys1 ∧ AO (List.length ([] : List (Int × Int)) + List.length ys1) (exl 60 [.int .i64, .int .i64] (([] : List (Int × Int)) ++ ys1) σ (fun A2 l2 c2 σ3 => 
    rt σ3 R (.slice A2 l2 c2)))
def Lt : MAn := (.seq (.txt []) (.seq (.txt []) .leaf))
set_option maxRecDepth 100000 in
theorem Lv (σ : Hp) (j_A : Option Addr) (j_n : Nat) (j_c : Nat) (R : Value → Hp → Prop) (h : GG σ j_A j_n j_c R) : Ag Try.prog 34 #[(.slice j_A j_n j_c)] σ R :=
  Ai Dh Lt Try.func34 rfl (by kernel_rfl) (by kernel_rfl) (M := GG σ j_A j_n j_c R) (by kernel_rfl) h
abbrev PT : FuncId := 47
def Ht (σ : Hp) (l_A : Option Addr) (l_n : Nat) (_ : Nat) (n : Int) (R : Value → Hp → Prop) : Prop :=
  bc (!decide (((l_n : Nat) : Int) = n)) (rt σ R (.bool false)) (cut (α := Hp → Prop) (fun  σ2 => ∀ _ : Nat → Value, 
    rt σ2 R (.bool true)) (fun J3 => ∃ I6 : Nat → Int → Hp → Prop, (∃ n70, I6 n70 0 σ) ∧ ∀ n7 : Nat, ∀ n8 : Int, ∀ σ5 : Hp, I6 n7 n8 σ5 → ∀ _ : Nat → Value, bc (decide (n8 < n)) (cut (α := Hp → Prop) (fun  σ10 => 
    ∀ _ : Nat → Value, wk .i64 (n8 + 1) (fun n12 => bk σ10 n7 (fun m13 σ14 => I6 m13 n12 σ14))) (fun J11 => 
    cut (α := Hp → Prop) (fun  σ16 => ∀ _ : Nat → Value, ∃ I20 : Nat → Int → Hp → Prop, (∃ n210, I20 n210 0 σ16) ∧ 
    ∀ n21 : Nat, ∀ n22 : Int, ∀ σ19 : Hp, I20 n21 n22 σ19 → ∀ _ : Nat → Value, bc (decide (n22 < n8)) (ix l_A l_n n22 1 (fun b23 a24 => 
    ldI σ19 .i64 b23 a24 (fun n25 => ix l_A l_n n8 1 (fun b26 a27 => ldI σ19 .i64 b26 a27 (fun n28 => bc (decide (n25 = n28)) (rt σ19 R (.bool false)) (wk .i64 (n22 + 1) (fun n29 => 
    bk σ19 n21 (fun m30 σ31 => I20 m30 n29 σ31)))))))) (J11 σ19)) (fun J17 => cut (α := Bool → Hp → Prop) (fun t35 σ33 => 
    ∀ _ : Nat → Value, bc t35 (rt σ33 R (.bool false)) (J17 σ33)) (fun J34 => ix l_A l_n n8 1 (fun b36 a37 => 
    ldI σ5 .i64 b36 a37 (fun n38 => bc (decide (n38 < 0)) (J34 true σ5) (ix l_A l_n n8 1 (fun b39 a40 => 
    ldI σ5 .i64 b39 a40 (fun n41 => J34 (decide (n ≤ n41)) σ5))))))))) (J3 σ5)))
def AR : OA := ⟨[], false, []⟩
def Mx : MAn := (.seq (.txt []) (.seq (.seq (.txt []) (.cond (.seq (.txt []) .leaf) .leaf)) (.cut ⟨[], 0, [], []⟩ (.seq (.txt []) (.block (.loop ⟨[], 0, [.slot 5 (.sc (.int .i64))], [(0, true), (1, true)]⟩ (.seq (.seq (.txt []) (.cond .leaf .leaf)) (.cut ⟨[], 0, [], [(0, true), (1, true), (5, true)]⟩ (.block (.cut ⟨[], 0, [], [(0, true), (1, true), (5, true)]⟩ (.cut ⟨[], 0, [.slot 28 (.sc (.bool))], [(0, true), (1, true), (5, true)]⟩ (.txt [AR, AR, AR, AR, AR, ⟨[], true, []⟩]) (.cond (.seq (.txt []) .leaf) .leaf)) (.seq (.txt []) (.block (.loop ⟨[], 0, [.slot 6 (.sc (.int .i64))], [(0, true), (1, true), (5, true)]⟩ (.seq (.seq (.txt []) (.cond .leaf .leaf)) (.seq (.block (.seq (.plan [] (.take 0 AR (.take 1 AR (.take 2 AR (.take 3 AR (.take 4 AR (.take 5 AR (.take 6 AR (.take 7 AR (.take 8 AR .done)))))))))) (.cond (.seq (.txt []) .leaf) .leaf))) (.txt [])))))))) (.txt [])))))) (.seq (.txt []) .leaf))))
set_option maxRecDepth 100000 in
theorem L6 (σ : Hp) (l_A : Option Addr) (l_n : Nat) (l_c : Nat) (n : Int) (R : Value → Hp → Prop) (h : Ht σ l_A l_n l_c n R) : Ag Try.prog 47 #[(.slice l_A l_n l_c), (.int .i64 n)] σ R :=
  Ai Dh Mx Try.func47 rfl (by kernel_rfl) (by kernel_rfl) (M := Ht σ l_A l_n l_c n R) (by kernel_rfl) h
theorem Jy : Aw Try.prog 47 = true := by kernel_rfl
abbrev M1 : FuncId := 48
def EF (σ : Hp) (l_A : Option Addr) (l_n : Nat) (_ : Nat) (order_A : Option Addr) (order_n : Nat) (_ : Nat) (R : Value → Hp → Prop) : Prop :=
  cut (α := List (Int × Int × Int × Int × Int × Int) → Hp → Prop) (fun xs4 σ2 => ∀ _ : Nat → Value, exl 27 [.int .i64, .int .i64, .int .i64, .int .i64, .int .i64, .int .i64] xs4 σ2 (fun A5 l5 c5 σ6 => 
    rt σ6 R (.slice A5 l5 c5))) (fun J3 => ∃ I9 : Nat → List (Int × Int × Int × Int × Int × Int) → Int → Hp → Prop, (∃ n100, adp 27 [.int .i64, .int .i64, .int .i64, .int .i64, .int .i64, .int .i64] none 0 0 σ (fun (xs11 : List (Int × Int × Int × Int × Int × Int)) σ12 => 
    I9 n100 xs11 0 σ12)) ∧ ∀ n10 : Nat, ∀ xs13 : List (Int × Int × Int × Int × Int × Int), ∀ n14 : Int, ∀ σ8 : Hp, I9 n10 xs13 n14 σ8 → ∀ _ : Nat → Value, bc (decide (n14 < ((order_n : Nat) : Int))) (ix order_A order_n n14 1 (fun b15 a16 => 
    ldI σ8 .i64 b15 a16 (fun n17 => ix l_A l_n n17 6 (fun b18 a19 => ldI σ8 .i64 b18 a19 (fun n20 => ldI σ8 .i64 b18 (a19 + 1) (fun n21 => 
    ldI σ8 .i64 b18 (a19 + 2) (fun n22 => ldI σ8 .i64 b18 (a19 + 3) (fun n23 => ldI σ8 .i64 b18 (a19 + 4) (fun n24 => 
    ldI σ8 .i64 b18 (a19 + 5) (fun n25 => AO (List.length xs13 + List.length ([(n20, n21, n22, n23, n24, n25)] : List (Int × Int × Int × Int × Int × Int))) (wk .i64 (n14 + 1) (fun n26 => 
    bk σ8 n10 (fun m27 σ28 => I9 m27 (xs13 ++ ([(n20, n21, n22, n23, n24, n25)] : List (Int × Int × Int × Int × Int × Int))) n26 σ28))))))))))))) (J3 xs13 σ8))
def Jx : MAn := (.seq (.txt []) (.seq (.txt []) (.cut ⟨[], 1, [.slot 5 (.lst 0 27 [.int .i64, .int .i64, .int .i64, .int .i64, .int .i64, .int .i64])], []⟩ (.seq (.txt []) (.block (.loop ⟨[], 1, [.slot 5 (.lst 0 27 [.int .i64, .int .i64, .int .i64, .int .i64, .int .i64, .int .i64]), .slot 6 (.sc (.int .i64))], [(0, true), (1, true)]⟩ (.seq (.seq (.txt []) (.cond .leaf .leaf)) (.seq (.block (.txt [])) (.txt [])))))) (.seq (.txt []) .leaf))))
set_option maxRecDepth 100000 in
theorem Ks (σ : Hp) (l_A : Option Addr) (l_n : Nat) (l_c : Nat) (order_A : Option Addr) (order_n : Nat) (order_c : Nat) (R : Value → Hp → Prop) (h : EF σ l_A l_n l_c order_A order_n order_c R) : Ag Try.prog 48 #[(.slice l_A l_n l_c), (.slice order_A order_n order_c)] σ R :=
  Ai Dh Jx Try.func48 rfl (by kernel_rfl) (by kernel_rfl) (M := EF σ l_A l_n l_c order_A order_n order_c R) (by kernel_rfl) h
theorem DX : Aw Try.prog 48 = true := by kernel_rfl
abbrev Cr : FuncId := 14
def AY (ys111 : List (Int × Int × Int × Int × Int × Int)) (σ10 : Hp) (A11 : Option Addr) (l11 : Nat) (c11 : Nat) (A12 : Option Addr) (l12 : Nat) (c12 : Nat) (n101 : Int) (n110 : Int) (J15 : Option Addr → Nat → Nat → Int → Hp → Prop) : Prop :=
  (exl 27 [.int .i64, .int .i64, .int .i64, .int .i64, .int .i64, .int .i64] (([] : List (Int × Int × Int × Int × Int × Int)) ++ ys111) σ10 (fun A112 l112 c112 σ113 => 
    cl Try.prog (.func (.func 45) #[] #[]) #[(.agg #[(.slice A11 l11 c11), (.slice A12 l12 c12)]), (.slice A112 l112 c112), (.int .i64 n101), (.int .i64 n110)] σ113 (fun v114 σ115 => 
    ∃ A116 : Option Addr, ∃ l116 : Nat, ∃ c116 : Nat, ∃ n117 : Int, (v114 = (.tuple #[(.slice A116 l116 c116), (.int .i64 n117)]) ∧ 
    J15 A116 l116 c116 n117 σ115))))
def Bx (σ10 : Hp) (a1_A : Option Addr) (a1_n : Nat) (b90 : Nat) (o91 : Nat) (A11 : Option Addr) (l11 : Nat) (c11 : Nat) (A12 : Option Addr) (l12 : Nat) (c12 : Nat) (n101 : Int) (J15 : Option Addr → Nat → Nat → Int → Hp → Prop) : Prop :=
  (∃ ys102 : List (Int × Int × Int × Int × Int × Int), RdS [.int .i64, .int .i64, .int .i64, .int .i64, .int .i64, .int .i64] σ10 a1_A a1_n ys102 ∧ 
    AO (List.length ([] : List (Int × Int × Int × Int × Int × Int)) + List.length ys102) (ldI σ10 .i64 b90 (o91 + 1) (fun n103 => 
    exl 27 [.int .i64, .int .i64, .int .i64, .int .i64, .int .i64, .int .i64] (([] : List (Int × Int × Int × Int × Int × Int)) ++ ys102) σ10 (fun A104 l104 c104 σ105 => 
    cl Try.prog (.func (.func 45) #[] #[]) #[(.agg #[(.slice A11 l11 c11), (.slice A12 l12 c12)]), (.slice A104 l104 c104), (.int .i64 n101), (.int .i64 n103)] σ105 (fun v106 σ107 => 
    ∃ A108 : Option Addr, ∃ l108 : Nat, ∃ c108 : Nat, ∃ n109 : Int, (v106 = (.tuple #[(.slice A108 l108 c108), (.int .i64 n109)]) ∧ 
    J15 A108 l108 c108 n109 σ107))))))
def BA (σ10 : Hp) (a1_A : Option Addr) (a1_n : Nat) (b88 : Nat) (o89 : Nat) (A11 : Option Addr) (l11 : Nat) (c11 : Nat) (A12 : Option Addr) (l12 : Nat) (c12 : Nat) (n118 : Int) (J15 : Option Addr → Nat → Nat → Int → Hp → Prop) : Prop :=
  (∃ ys119 : List (Int × Int × Int × Int × Int × Int), RdS [.int .i64, .int .i64, .int .i64, .int .i64, .int .i64, .int .i64] σ10 a1_A a1_n ys119 ∧ 
    AO (List.length ([] : List (Int × Int × Int × Int × Int × Int)) + List.length ys119) (ldI σ10 .i64 b88 o89 (fun n120 => 
    exl 27 [.int .i64, .int .i64, .int .i64, .int .i64, .int .i64, .int .i64] (([] : List (Int × Int × Int × Int × Int × Int)) ++ ys119) σ10 (fun A121 l121 c121 σ122 => 
    cl Try.prog (.func (.func 45) #[] #[]) #[(.agg #[(.slice A11 l11 c11), (.slice A12 l12 c12)]), (.slice A121 l121 c121), (.int .i64 n120), (.int .i64 n118)] σ122 (fun v123 σ124 => 
    ∃ A125 : Option Addr, ∃ l125 : Nat, ∃ c125 : Nat, ∃ n126 : Int, (v123 = (.tuple #[(.slice A125 l125 c125), (.int .i64 n126)]) ∧ 
    J15 A125 l125 c125 n126 σ124))))))
def B4 (σ10 : Hp) (a1_A : Option Addr) (a1_n : Nat) (b88 : Nat) (o89 : Nat) (b90 : Nat) (o91 : Nat) (A11 : Option Addr) (l11 : Nat) (c11 : Nat) (A12 : Option Addr) (l12 : Nat) (c12 : Nat) (J15 : Option Addr → Nat → Nat → Int → Hp → Prop) : Prop :=
  (∃ ys92 : List (Int × Int × Int × Int × Int × Int), RdS [.int .i64, .int .i64, .int .i64, .int .i64, .int .i64, .int .i64] σ10 a1_A a1_n ys92 ∧ 
    AO (List.length ([] : List (Int × Int × Int × Int × Int × Int)) + List.length ys92) (ldI σ10 .i64 b88 o89 (fun n93 => 
    ldI σ10 .i64 b90 (o91 + 1) (fun n94 => exl 27 [.int .i64, .int .i64, .int .i64, .int .i64, .int .i64, .int .i64] (([] : List (Int × Int × Int × Int × Int × Int)) ++ ys92) σ10 (fun A95 l95 c95 σ96 => 
    cl Try.prog (.func (.func 45) #[] #[]) #[(.agg #[(.slice A11 l11 c11), (.slice A12 l12 c12)]), (.slice A95 l95 c95), (.int .i64 n93), (.int .i64 n94)] σ96 (fun v97 σ98 => 
    ∃ A99 : Option Addr, ∃ l99 : Nat, ∃ c99 : Nat, ∃ n100 : Int, (v97 = (.tuple #[(.slice A99 l99 c99), (.int .i64 n100)]) ∧ 
    J15 A99 l99 c99 n100 σ98)))))))
def Bh (σ10 : Hp) (a1_A : Option Addr) (a1_n : Nat) (A11 : Option Addr) (l11 : Nat) (c11 : Nat) (A12 : Option Addr) (l12 : Nat) (c12 : Nat) (n144 : Int) (n169 : Int) (J15 : Option Addr → Nat → Nat → Int → Hp → Prop) : Prop :=
  (∃ ys170 : List (Int × Int × Int × Int × Int × Int), RdS [.int .i64, .int .i64, .int .i64, .int .i64, .int .i64, .int .i64] σ10 a1_A a1_n ys170 ∧ 
    AO (List.length ([] : List (Int × Int × Int × Int × Int × Int)) + List.length ys170) (AY ys170 σ10 A11 l11 c11 A12 l12 c12 n144 n169 J15))
def Cx (σ : Hp) (a0_Parking_A : Option Addr) (a0_Parking_n : Nat) (a0_Parking_c : Nat) (a0_Roads_A : Option Addr) (a0_Roads_n : Nat) (a0_Roads_c : Nat) (a1_A : Option Addr) (a1_n : Nat) (a1_c : Nat) (a2_Way_To : Int) (a2_Way_Gap : Int) (a2_Order_A : Option Addr) (a2_Order_n : Nat) (a2_Order_c : Nat) (_ : Option Addr) (_ : Nat) (_ : Nat) (R : Value → Hp → Prop) : Prop :=
  cut (α := Option Addr → Option Addr → Nat → Nat → Hp → Prop) (fun p4 A5 l5 c5 σ2 => ∀ _ : Nat → Value, 
    cut (α := Hp → Prop) (fun  σ7 => ∀ _ : Nat → Value, cl Try.prog (.func (.func 20) #[] #[]) #[(.agg #[(.slice a0_Parking_A a0_Parking_n a0_Parking_c), (.slice a0_Roads_A a0_Roads_n a0_Roads_c)])] σ7 (fun v9 σ10 => 
    ∃ A11 : Option Addr, ∃ l11 : Nat, ∃ c11 : Nat, ∃ A12 : Option Addr, ∃ l12 : Nat, ∃ c12 : Nat, (v9 = (.agg #[(.slice A11 l11 c11), (.slice A12 l12 c12)]) ∧ 
    cut (α := Option Addr → Nat → Nat → Int → Hp → Prop) (fun A16 l16 c16 n17 σ14 => ∀ _ : Nat → Value, 
    dr p4 (fun b18 o19 => ldI σ14 .i64 b18 o19 (fun n20 => dr p4 (fun b21 o22 => ldI σ14 .i64 b21 (o22 + 1) (fun n23 => 
    cl Try.prog (.func (.func 46) #[] #[]) #[(.agg #[(.slice a0_Parking_A a0_Parking_n a0_Parking_c), (.slice a0_Roads_A a0_Roads_n a0_Roads_c)]), (.slice a1_A a1_n a1_c), (.int .i64 n20), (.int .i64 n23)] σ14 (fun v24 σ25 => 
    ∃ A26 : Option Addr, ∃ l26 : Nat, ∃ c26 : Nat, ∃ n27 : Int, (v24 = (.tuple #[(.slice A26 l26 c26), (.int .i64 n27)]) ∧ 
    cut (α := Hp → Prop) (fun  σ29 => ∀ _ : Nat → Value, cut (α := Hp → Prop) (fun  σ32 => ∀ _ : Nat → Value, 
    dr p4 (fun b34 o35 => ldI σ32 .i64 b34 o35 (fun n36 => dr p4 (fun b37 o38 => ldI σ32 .i64 b37 (o38 + 1) (fun n39 => 
    cl Try.prog (.func (.func 48) #[] #[]) #[(.slice a1_A a1_n a1_c), (.slice A16 l16 c16)] σ32 (fun v40 σ41 => 
    ∃ A42 : Option Addr, ∃ l42 : Nat, ∃ c42 : Nat, (v40 = (.slice A42 l42 c42) ∧ (Hp.Sub σ32 σ41 ∧ cl Try.prog (.func (.func 41) #[] #[]) #[(.agg #[(.slice A11 l11 c11), (.slice A12 l12 c12)]), (.slice A42 l42 c42), (.int .i64 n36), (.int .i64 n39)] σ41 (fun v43 σ44 => 
    ∃ A45 : Option Addr, ∃ l45 : Nat, ∃ c45 : Nat, ∃ n46 : Int, (v43 = (.tuple #[(.slice A45 l45 c45), (.int .i64 n46)]) ∧ 
    dr p4 (fun b47 o48 => ldI σ44 .i64 b47 o48 (fun n49 => dr p4 (fun b50 o51 => ldI σ44 .i64 b50 (o51 + 1) (fun n52 => 
    cl Try.prog (.func (.func 48) #[] #[]) #[(.slice a1_A a1_n a1_c), (.slice A5 l5 c5)] σ44 (fun v53 σ54 => 
    ∃ A55 : Option Addr, ∃ l55 : Nat, ∃ c55 : Nat, (v53 = (.slice A55 l55 c55) ∧ (Hp.Sub σ44 σ54 ∧ cl Try.prog (.func (.func 41) #[] #[]) #[(.agg #[(.slice A11 l11 c11), (.slice A12 l12 c12)]), (.slice A55 l55 c55), (.int .i64 n49), (.int .i64 n52)] σ54 (fun v56 σ57 => 
    ∃ A58 : Option Addr, ∃ l58 : Nat, ∃ c58 : Nat, ∃ n59 : Int, (v56 = (.tuple #[(.slice A58 l58 c58), (.int .i64 n59)]) ∧ 
    bc (decide (n46 = 0)) (bc (decide (n59 = 0)) (bc (decide (((l45 : Nat) : Int) = ((a1_n : Nat) : Int))) (bc (decide (((l58 : Nat) : Int) = ((a1_n : Nat) : Int))) (wk .i64 (((l45 : Nat) : Int) - 1) (fun n60 => 
    ix A45 l45 n60 1 (fun b61 a62 => ldI σ57 .i64 b61 a62 (fun n63 => wk .i64 (((l58 : Nat) : Int) - 1) (fun n64 => 
    ix A58 l58 n64 1 (fun b65 a66 => ldI σ57 .i64 b65 a66 (fun n67 => bc (decide (n63 ≤ n67)) (cl Try.prog (.func (.func 18) #[] #[]) #[] σ57 (fun v68 σ69 => 
    ∃ t70 : Bool, (v68 = (.bool t70) ∧ rt σ69 R (.bool t70)))) (rt σ57 R (.bool false))))))))) (rt σ57 R (.bool false))) (rt σ57 R (.bool false))) (rt σ57 R (.bool false))) (rt σ57 R (.bool false))))))))))))))))))))) (fun J33 => 
    cut (α := Bool → Hp → Prop) (fun t74 σ72 => ∀ _ : Nat → Value, bc t74 (cl Try.prog (.func (.func 18) #[] #[]) #[] σ72 (fun v75 σ76 => 
    ∃ t77 : Bool, (v75 = (.bool t77) ∧ rt σ76 R (.bool t77)))) (J33 σ72)) (fun J73 => bc (!decide (n17 = 0)) (J73 true σ29) (bc (decide (((a1_n : Nat) : Int) = 0)) (J73 true σ29) (cl Try.prog (.func (.func 47) #[] #[]) #[(.slice A5 l5 c5), (.int .i64 ((a1_n : Nat) : Int))] σ29 (fun v78 σ79 => 
    ∃ t80 : Bool, (v78 = (.bool t80) ∧ J73 (!t80) σ79))))))) (fun J30 => cut (α := Bool → Hp → Prop) (fun t84 σ82 => 
    ∀ _ : Nat → Value, bc t84 (rt σ82 R (.bool false)) (J30 σ82)) (fun J83 => cl Try.prog (.func (.func 32) #[] #[]) #[(.slice A16 l16 c16), (.slice A26 l26 c26)] σ25 (fun v85 σ86 => 
    ∃ t87 : Bool, (v85 = (.bool t87) ∧ bc (!t87) (J83 true σ86) (J83 (!decide (n17 = n27)) σ86)))))))))))) (fun J15 => 
    dr p4 (fun b88 o89 => dr p4 (fun b90 o91 => (((B4 σ10 a1_A a1_n b88 o89 b90 o91 A11 l11 c11 A12 l12 c12 J15) ∧ (ldI σ10 .i64 b88 o89 (fun n101 => ((Bx σ10 a1_A a1_n b90 o91 A11 l11 c11 A12 l12 c12 n101 J15) ∧ (ldI σ10 .i64 b90 (o91 + 1) (fun n110 => ∃ ys111 : List (Int × Int × Int × Int × Int × Int), RdS [.int .i64, .int .i64, .int .i64, .int .i64, .int .i64, .int .i64] σ10 a1_A a1_n ys111 ∧ 
    AO (List.length ([] : List (Int × Int × Int × Int × Int × Int)) + List.length ys111) (AY ys111 σ10 A11 l11 c11 A12 l12 c12 n101 n110 J15)))))) ∧ (ldI σ10 .i64 b90 (o91 + 1) (fun n118 => ((BA σ10 a1_A a1_n b88 o89 A11 l11 c11 A12 l12 c12 n118 J15) ∧ (ldI σ10 .i64 b88 o89 (fun n127 => ∃ ys128 : List (Int × Int × Int × Int × Int × Int), RdS [.int .i64, .int .i64, .int .i64, .int .i64, .int .i64, .int .i64] σ10 a1_A a1_n ys128 ∧ 
    AO (List.length ([] : List (Int × Int × Int × Int × Int × Int)) + List.length ys128) (AY ys128 σ10 A11 l11 c11 A12 l12 c12 n127 n118 J15))))))) ∧ (B4 σ10 a1_A a1_n b88 o89 b90 o91 A11 l11 c11 A12 l12 c12 J15) ∧ (ldI σ10 .i64 b88 o89 (fun n144 => (((Bx σ10 a1_A a1_n b90 o91 A11 l11 c11 A12 l12 c12 n144 J15) ∧ (ldI σ10 .i64 b90 (o91 + 1) (fun n153 => ∃ ys154 : List (Int × Int × Int × Int × Int × Int), RdS [.int .i64, .int .i64, .int .i64, .int .i64, .int .i64, .int .i64] σ10 a1_A a1_n ys154 ∧ 
    AO (List.length ([] : List (Int × Int × Int × Int × Int × Int)) + List.length ys154) (AY ys154 σ10 A11 l11 c11 A12 l12 c12 n144 n153 J15)))) ∧ (Bx σ10 a1_A a1_n b90 o91 A11 l11 c11 A12 l12 c12 n144 J15) ∧ (ldI σ10 .i64 b90 (o91 + 1) (fun n169 => ((Bh σ10 a1_A a1_n A11 l11 c11 A12 l12 c12 n144 n169 J15) ∧ (Bh σ10 a1_A a1_n A11 l11 c11 A12 l12 c12 n144 n169 J15))))))) ∧ (ldI σ10 .i64 b90 (o91 + 1) (fun n184 => (((BA σ10 a1_A a1_n b88 o89 A11 l11 c11 A12 l12 c12 n184 J15) ∧ (ldI σ10 .i64 b88 o89 (fun n193 => ∃ ys194 : List (Int × Int × Int × Int × Int × Int), RdS [.int .i64, .int .i64, .int .i64, .int .i64, .int .i64, .int .i64] σ10 a1_A a1_n ys194 ∧ 
    AO (List.length ([] : List (Int × Int × Int × Int × Int × Int)) + List.length ys194) (AY ys194 σ10 A11 l11 c11 A12 l12 c12 n193 n184 J15)))) ∧ (BA σ10 a1_A a1_n b88 o89 A11 l11 c11 A12 l12 c12 n184 J15) ∧ (ldI σ10 .i64 b88 o89 (fun n209 => ((Bh σ10 a1_A a1_n A11 l11 c11 A12 l12 c12 n209 n184 J15) ∧ (Bh σ10 a1_A a1_n A11 l11 c11 A12 l12 c12 n209 n184 J15)))))))))))))) (fun J8 => cut (α := Bool → Hp → Prop) (fun t227 σ225 => 
    ∀ _ : Nat → Value, bc t227 (cl Try.prog (.func (.func 18) #[] #[]) #[] σ225 (fun v228 σ229 => ∃ t230 : Bool, (v228 = (.bool t230) ∧ 
    rt σ229 R (.bool t230)))) (J8 σ225)) (fun J226 => cl Try.prog (.func (.func 16) #[] #[]) #[(.agg #[(.slice a0_Parking_A a0_Parking_n a0_Parking_c), (.slice a0_Roads_A a0_Roads_n a0_Roads_c)]), (.slice a1_A a1_n a1_c)] σ2 (fun v231 σ232 => 
    ∃ t233 : Bool, (v231 = (.bool t233) ∧ bc t233 (J226 true σ232) (J226 (decide ((12 : Int) < ((l5 : Nat) : Int))) σ232)))))) (fun J3 => 
    ((bx σ (.cells #[(.int .i64 a2_Way_To), (.int .i64 a2_Way_Gap)] 62) (fun b234 σ235 => J3 (some ⟨b234, 0, none⟩) a2_Order_A a2_Order_n a2_Order_c σ235)) ∧ 
    (bx σ (.cells #[(.int .i64 a2_Way_To), (.int .i64 a2_Way_Gap)] 62) (fun b236 σ237 => J3 (some ⟨b236, 0, none⟩) a2_Order_A a2_Order_n a2_Order_c σ237))))
def Aa : OA := ⟨[], false, []⟩
def AG : MPlan := (.alt 8 false Aa (.take 9 Aa (.take 10 Aa (.take 11 Aa (.take 12 Aa (.take 13 Aa .done))))) .done)
def C2 : MAn := (.plan [8] (.take 0 Aa (.take 1 Aa (.take 2 Aa (.take 4 Aa (.take 5 Aa (.take 6 Aa (.take 7 Aa (.alt 3 true Aa AG .done)))))))))
def B2 : MPlan := (.alt 3 false Aa AG .done)
def Dc : MPlan := (.alt 3 false Aa (.take 7 Aa AG) (.alt 7 true Aa B2 .done))
def C8 : MPlan := (.alt 3 false Aa (.take 5 Aa AG) (.alt 5 true Aa B2 .done))
def C1 : MPlan := (.alt 0 true Aa B2 (.alt 3 false Aa (.take 0 Aa AG) .done))
def FV : MAn := (.seq (.txt []) (.cut ⟨[true, true], 2, [.slot 3 (.hb 0 0), .slot 7 (.sc (.ptr)), .slot 8 (.sc (.slc))], [(1, true)]⟩ (.plan [5] (.take 0 Aa (.take 1 Aa (.take 2 Aa (.new 4 Aa (.alt 3 true Aa (.alt 5 false Aa (.take 6 Aa .done) .done) (.alt 5 false Aa (.take 3 Aa (.take 6 Aa .done)) .done))))))) (.cut ⟨[true, true], 2, [.slot 3 (.hb 0 0)], [(1, true), (7, true), (8, true)]⟩ (.cut ⟨[true, true], 2, [.slot 3 (.hb 0 0), .slot 29 (.sc (.bool))], [(1, true), (7, true), (8, true)]⟩ (.txt [Aa, Aa, Aa, ⟨[], true, []⟩]) (.cond (.seq (.txt []) .leaf) .leaf)) (.seq (.txt []) (.cut ⟨[true, true, true], 3, [.slot 3 (.hb 0 0), .slot 9 (.hb 2 0), .slot 10 (.sc (.slc)), .slot 11 (.sc (.int .i64))], [(1, true), (7, true), (8, true)]⟩ (.plan [3, 8] (.take 2 Aa (.take 4 Aa (.take 6 Aa (.new 1 Aa (.alt 0 true Aa (.alt 3 false Aa (.take 5 Aa (.take 7 Aa AG)) (.alt 5 true Aa Dc (.alt 7 true Aa C8 .done))) (.alt 3 false Aa (.take 0 Aa (.take 5 Aa (.take 7 Aa AG))) (.alt 5 true Aa (.alt 0 true Aa Dc (.alt 3 false Aa (.take 0 Aa (.take 7 Aa AG)) (.alt 7 true Aa C1 .done))) (.alt 7 true Aa (.alt 0 true Aa C8 (.alt 3 false Aa (.take 0 Aa (.take 5 Aa AG)) (.alt 5 true Aa C1 .done))) .done))))))))) (.seq (.txt []) (.cut ⟨[true, true, true], 3, [.slot 9 (.hb 2 0)], [(1, true), (7, true), (8, true), (10, true), (11, true)]⟩ (.cut ⟨[true, true, true], 3, [.slot 9 (.hb 2 0), .slot 63 (.sc (.bool))], [(1, true), (7, true), (8, true), (10, true), (11, true)]⟩ (.txt [Aa, Aa, Aa, Aa, ⟨[], true, []⟩]) (.cond (.seq (.txt []) .leaf) .leaf)) (.cut ⟨[true, true, true], 3, [.slot 9 (.hb 2 0)], [(1, true), (7, true), (8, true), (10, true)]⟩ (.cut ⟨[true, true, true], 3, [.slot 9 (.hb 2 0), .slot 77 (.sc (.bool))], [(1, true), (7, true), (8, true), (10, true)]⟩ (.txt [Aa, Aa, ⟨[], true, []⟩, Aa, Aa, Aa, Aa, ⟨[], true, []⟩]) (.cond (.seq (.txt []) .leaf) .leaf)) (.seq C2 (.seq C2 (.seq (.plan [36] (.take 0 Aa (.take 1 Aa (.take 2 ⟨[], true, []⟩ (.take 3 Aa (.take 4 Aa (.take 5 Aa (.take 6 ⟨[], true, []⟩ (.take 7 Aa (.take 8 Aa (.take 9 Aa (.take 10 Aa (.take 11 Aa (.take 12 Aa (.take 13 ⟨[], true, []⟩ (.take 14 Aa (.take 15 Aa (.take 16 Aa (.take 17 Aa (.take 18 Aa (.take 19 Aa (.take 20 ⟨[], true, []⟩ (.take 21 Aa (.take 22 Aa (.take 23 Aa (.take 24 Aa (.take 25 Aa (.take 26 Aa (.take 27 Aa (.take 28 Aa (.take 29 Aa (.take 30 Aa (.take 31 Aa (.take 32 Aa (.take 33 Aa (.take 34 Aa (.take 35 ⟨[], true, []⟩ (.alt 36 false Aa (.take 37 Aa (.take 38 Aa .done)) .done)))))))))))))))))))))))))))))))))))))) .leaf)))))))))))
set_option maxRecDepth 100000 in
theorem FT (σ : Hp) (a0_Parking_A : Option Addr) (a0_Parking_n : Nat) (a0_Parking_c : Nat) (a0_Roads_A : Option Addr) (a0_Roads_n : Nat) (a0_Roads_c : Nat) (a1_A : Option Addr) (a1_n : Nat) (a1_c : Nat) (a2_Way_To : Int) (a2_Way_Gap : Int) (a2_Order_A : Option Addr) (a2_Order_n : Nat) (a2_Order_c : Nat) (a2_Legs_A : Option Addr) (a2_Legs_n : Nat) (a2_Legs_c : Nat) (R : Value → Hp → Prop) (h : Cx σ a0_Parking_A a0_Parking_n a0_Parking_c a0_Roads_A a0_Roads_n a0_Roads_c a1_A a1_n a1_c a2_Way_To a2_Way_Gap a2_Order_A a2_Order_n a2_Order_c a2_Legs_A a2_Legs_n a2_Legs_c R) : Ag Try.prog 14 #[(.agg #[(.slice a0_Parking_A a0_Parking_n a0_Parking_c), (.slice a0_Roads_A a0_Roads_n a0_Roads_c)]), (.slice a1_A a1_n a1_c), (.agg #[(.int .i64 a2_Way_To), (.int .i64 a2_Way_Gap), (.slice a2_Order_A a2_Order_n a2_Order_c), (.slice a2_Legs_A a2_Legs_n a2_Legs_c)])] σ R :=
  Ai Dh FV Try.func14 rfl (by kernel_rfl) (by kernel_rfl) (M := Cx σ a0_Parking_A a0_Parking_n a0_Parking_c a0_Roads_A a0_Roads_n a0_Roads_c a1_A a1_n a1_c a2_Way_To a2_Way_Gap a2_Order_A a2_Order_n a2_Order_c a2_Legs_A a2_Legs_n a2_Legs_c R) (by kernel_rfl) h
end Go.Proofs.Ytkdjkkimngeloaa
