/- Trimmed by wip/trim.py to what this claim rests on. -/
import Derived.Test.YtkdjkkimngeloaaXB11
namespace Go.Proofs.Ytkdjkkimngeloaa
open Go.RowKit
theorem DE : Try.prog.follows .mixedOrders = true := by kernel_rfl
abbrev Jj : FuncId := 49
def Fw (σ : Hp) (R : Value → Hp → Prop) : Prop :=
  exl 4 [.bool] ([false, true, false, false] : List Bool) σ (fun A1 l1 c1 σ2 => exl 51 [.int .i64, .int .i64, .int .i64, .int .i64, .int .i64] ([(0, 1, 10, 40, 90), (1, 2, 10, 30, 90), (0, 2, 40, 50, 90), (2, 3, 5, 50, 20)] : List (Int × Int × Int × Int × Int)) σ2 (fun A3 l3 c3 σ4 => 
    rt σ4 R (.tuple #[(.agg #[(.slice A1 l1 c1), (.slice A3 l3 c3)]), (.agg #[(.int .i64 25), (.int .i64 20), (.int .i64 0), (.int .i64 0), (.int .i64 15), (.int .i64 5)])])))
def G1 : MAn := (.seq (.txt []) (.seq (.txt []) (.seq (.txt []) .leaf)))
set_option maxRecDepth 100000 in
theorem GQ (σ : Hp) (R : Value → Hp → Prop) (h : Fw σ  R) : Ae Try.prog 49 #[] σ R :=
  Ai DE G1 Try.func49 rfl (by kernel_rfl) (by kernel_rfl) (M := Fw σ  R) (by kernel_rfl) h
theorem Fx : Av Try.prog 49 = true := by kernel_rfl
abbrev GM : FuncId := 18
def Ei (σ : Hp) (R : Value → Hp → Prop) : Prop :=
  cl Try.prog (.func (.func 49) #[] #[]) #[] σ (fun v1 σ2 => ∃ A3 : Option Addr, ∃ l3 : Nat, ∃ c3 : Nat, ∃ A4 : Option Addr, ∃ l4 : Nat, ∃ c4 : Nat, ∃ n5 : Int, ∃ n6 : Int, ∃ n7 : Int, ∃ n8 : Int, ∃ n9 : Int, ∃ n10 : Int, (v1 = (.tuple #[(.agg #[(.slice A3 l3 c3), (.slice A4 l4 c4)]), (.agg #[(.int .i64 n5), (.int .i64 n6), (.int .i64 n7), (.int .i64 n8), (.int .i64 n9), (.int .i64 n10)])]) ∧ 
    cl Try.prog (.func (.func 19) #[] #[]) #[(.agg #[(.slice A3 l3 c3), (.slice A4 l4 c4)]), (.agg #[(.int .i64 n5), (.int .i64 n6), (.int .i64 n7), (.int .i64 n8), (.int .i64 n9), (.int .i64 n10)]), (.int .i64 2)] σ2 (fun v11 σ12 => 
    ∃ A13 : Option Addr, ∃ l13 : Nat, ∃ c13 : Nat, ∃ n14 : Int, (v11 = (.tuple #[(.slice A13 l13 c13), (.int .i64 n14)]) ∧ 
    cl Try.prog (.func (.func 23) #[] #[]) #[(.agg #[(.slice A3 l3 c3), (.slice A4 l4 c4)]), (.agg #[(.int .i64 n5), (.int .i64 n6), (.int .i64 n7), (.int .i64 n8), (.int .i64 n9), (.int .i64 n10)]), (.int .i64 2)] σ12 (fun v15 σ16 => 
    ∃ n17 : Int, ∃ n18 : Int, (v15 = (.tuple #[(.int .i64 n17), (.int .i64 n18)]) ∧ bc (decide (n14 = 0)) (bc (decide (n18 = 0)) (bc (decide (n17 = 30)) (bc (decide (((l13 : Nat) : Int) = 2)) (ix A13 l13 1 2 (fun b19 a20 => 
    ldI σ16 .i64 b19 a20 (fun n21 => ldI σ16 .i64 b19 (a20 + 1) (fun n22 => rt σ16 R (.bool (decide (n21 = 1) && decide (n22 = 15))))))) (rt σ16 R (.bool false))) (rt σ16 R (.bool false))) (rt σ16 R (.bool false))) (rt σ16 R (.bool false))))))))
def AE : OA := ⟨[], false, []⟩
def IL : MAn := (.seq (.txt []) (.seq (.txt []) (.seq (.txt []) (.seq (.txt []) (.seq (.txt [AE, AE, ⟨[], true, []⟩, AE, AE, AE, ⟨[], true, []⟩, AE, AE, AE, ⟨[], true, []⟩, AE, AE, AE, AE, ⟨[], true, []⟩]) .leaf)))))
set_option maxRecDepth 100000 in
theorem IF (σ : Hp) (R : Value → Hp → Prop) (h : Ei σ  R) : Ae Try.prog 18 #[] σ R :=
  Ai DE IL Try.func18 rfl (by kernel_rfl) (by kernel_rfl) (M := Ei σ  R) (by kernel_rfl) h
theorem GA : Av Try.prog 18 = true := by kernel_rfl
abbrev Mz : FuncId := 25
def FM (σ : Hp) (_ : Option Addr) (m_Parking_n : Nat) (_ : Nat) (_ : Option Addr) (m_Roads_n : Nat) (_ : Nat) (R : Value → Hp → Prop) : Prop :=
  bc (decide ((20 : Int) < ((m_Parking_n : Nat) : Int))) (rt σ R (.bool true)) (rt σ R (.bool (decide ((40 : Int) < ((m_Roads_n : Nat) : Int)))))
def Ky : MAn := (.seq (.txt []) (.seq (.txt [⟨[], false, []⟩, ⟨[], false, []⟩, ⟨[], false, []⟩, ⟨[], false, []⟩, ⟨[], true, []⟩]) .leaf))
set_option maxRecDepth 100000 in
theorem Ka (σ : Hp) (m_Parking_A : Option Addr) (m_Parking_n : Nat) (m_Parking_c : Nat) (m_Roads_A : Option Addr) (m_Roads_n : Nat) (m_Roads_c : Nat) (R : Value → Hp → Prop) (h : FM σ m_Parking_A m_Parking_n m_Parking_c m_Roads_A m_Roads_n m_Roads_c R) : Ae Try.prog 25 #[(.agg #[(.slice m_Parking_A m_Parking_n m_Parking_c), (.slice m_Roads_A m_Roads_n m_Roads_c)])] σ R :=
  Ai DE Ky Try.func25 rfl (by kernel_rfl) (by kernel_rfl) (M := FM σ m_Parking_A m_Parking_n m_Parking_c m_Roads_A m_Roads_n m_Roads_c R) (by kernel_rfl) h
theorem Hv : Av Try.prog 25 = true := by kernel_rfl
abbrev GP : FuncId := 16
def Ef (σ : Hp) (m_Parking_A : Option Addr) (m_Parking_n : Nat) (m_Parking_c : Nat) (m_Roads_A : Option Addr) (m_Roads_n : Nat) (m_Roads_c : Nat) (l_A : Option Addr) (l_n : Nat) (_ : Nat) (R : Value → Hp → Prop) : Prop :=
  cut (α := Hp → Prop) (fun  σ2 => ∀ _ : Nat → Value, cut (α := Hp → Prop) (fun  σ5 => ∀ _ : Nat → Value, 
    rt σ5 R (.bool false)) (fun J6 => ∃ I9 : Nat → Int → Hp → Prop, (∃ n100, I9 n100 0 σ2) ∧ ∀ n10 : Nat, ∀ n11 : Int, ∀ σ8 : Hp, I9 n10 n11 σ8 → ∀ _ : Nat → Value, bc (decide (n11 < ((l_n : Nat) : Int))) (cut (α := Hp → Prop) (fun  σ13 => 
    ∀ _ : Nat → Value, wk .i64 (n11 + 1) (fun n15 => bk σ13 n10 (fun m16 σ17 => I9 m16 n15 σ17))) (fun J14 => 
    cut (α := Bool → Hp → Prop) (fun t21 σ19 => ∀ _ : Nat → Value, bc t21 (rt σ19 R (.bool true)) (J14 σ19)) (fun J20 => 
    ix l_A l_n n11 6 (fun b22 a23 => ldI σ8 .i64 b22 (a23 + 4) (fun n24 => bc (decide ((60 : Int) < n24)) (ix l_A l_n n11 6 (fun b25 a26 => 
    ldI σ8 .i64 b25 (a26 + 4) (fun n27 => J20 (decide (n27 ≤ 500)) σ8))) (J20 false σ8)))))) (J6 σ8))) (fun J3 => 
    cut (α := Bool → Hp → Prop) (fun t31 σ29 => ∀ _ : Nat → Value, bc t31 (rt σ29 R (.bool true)) (J3 σ29)) (fun J30 => 
    cl Try.prog (.func (.func 25) #[] #[]) #[(.agg #[(.slice m_Parking_A m_Parking_n m_Parking_c), (.slice m_Roads_A m_Roads_n m_Roads_c)])] σ (fun v32 σ33 => 
    ∃ t34 : Bool, (v32 = (.bool t34) ∧ bc t34 (J30 true σ33) (bc (decide ((5 : Int) < ((m_Parking_n : Nat) : Int))) (J30 true σ33) (bc (decide ((8 : Int) < ((m_Roads_n : Nat) : Int))) (J30 true σ33) (J30 (decide ((12 : Int) < ((l_n : Nat) : Int))) σ33)))))))
def Az : OA := ⟨[], false, []⟩
def Iu : MAn := (.seq (.txt []) (.cut ⟨[true], 1, [], [(1, true)]⟩ (.cut ⟨[true], 1, [.slot 24 (.sc (.bool))], [(1, true)]⟩ (.txt [Az, Az, ⟨[], true, []⟩, Az, Az, Az, Az, Az, ⟨[], true, []⟩, Az, Az, Az, Az, Az, ⟨[], true, []⟩]) (.cond (.seq (.txt []) .leaf) .leaf)) (.cut ⟨[true], 1, [], []⟩ (.seq (.txt []) (.block (.loop ⟨[true], 1, [.slot 5 (.sc (.int .i64))], [(1, true)]⟩ (.seq (.seq (.txt []) (.cond .leaf .leaf)) (.cut ⟨[true], 1, [], [(1, true), (5, true)]⟩ (.block (.cut ⟨[true], 1, [.slot 44 (.sc (.bool))], [(1, true), (5, true)]⟩ (.txt [Az, Az, Az, Az, Az, Az, ⟨[], true, []⟩]) (.cond (.seq (.txt []) .leaf) .leaf))) (.txt [])))))) (.seq (.txt []) .leaf))))
set_option maxRecDepth 100000 in
theorem IJ (σ : Hp) (m_Parking_A : Option Addr) (m_Parking_n : Nat) (m_Parking_c : Nat) (m_Roads_A : Option Addr) (m_Roads_n : Nat) (m_Roads_c : Nat) (l_A : Option Addr) (l_n : Nat) (l_c : Nat) (R : Value → Hp → Prop) (h : Ef σ m_Parking_A m_Parking_n m_Parking_c m_Roads_A m_Roads_n m_Roads_c l_A l_n l_c R) : Ae Try.prog 16 #[(.agg #[(.slice m_Parking_A m_Parking_n m_Parking_c), (.slice m_Roads_A m_Roads_n m_Roads_c)]), (.slice l_A l_n l_c)] σ R :=
  Ai DE Iu Try.func16 rfl (by kernel_rfl) (by kernel_rfl) (M := Ef σ m_Parking_A m_Parking_n m_Parking_c m_Roads_A m_Roads_n m_Roads_c l_A l_n l_c R) (by kernel_rfl) h
theorem GE : Av Try.prog 16 = true := by kernel_rfl
abbrev IX : FuncId := 17
def IS (σ : Hp) (l_Height : Int) (l_Weight : Int) (l_From : Int) (l_Ready : Int) (l_Drive : Int) (l_Rest : Int) (R : Value → Hp → Prop) : Prop :=
  exl 27 [.int .i64, .int .i64, .int .i64, .int .i64, .int .i64, .int .i64] ([(l_Height, l_Weight, l_From, l_Ready, l_Drive, l_Rest)] : List (Int × Int × Int × Int × Int × Int)) σ (fun A1 l1 c1 σ2 => 
    rt σ2 R (.slice A1 l1 c1))
def JY : MAn := (.seq (.txt []) (.seq (.txt []) .leaf))
set_option maxRecDepth 100000 in
theorem JT (σ : Hp) (l_Height : Int) (l_Weight : Int) (l_From : Int) (l_Ready : Int) (l_Drive : Int) (l_Rest : Int) (R : Value → Hp → Prop) (h : IS σ l_Height l_Weight l_From l_Ready l_Drive l_Rest R) : Ae Try.prog 17 #[(.agg #[(.int .i64 l_Height), (.int .i64 l_Weight), (.int .i64 l_From), (.int .i64 l_Ready), (.int .i64 l_Drive), (.int .i64 l_Rest)])] σ R :=
  Ai DE JY Try.func17 rfl (by kernel_rfl) (by kernel_rfl) (M := IS σ l_Height l_Weight l_From l_Ready l_Drive l_Rest R) (by kernel_rfl) h
theorem Hn : Av Try.prog 17 = true := by kernel_rfl
abbrev LS : FuncId := 34
def ES (σ : Hp) (j_A : Option Addr) (j_n : Nat) (_ : Nat) (R : Value → Hp → Prop) : Prop :=
  ∃ ys1 : List (Int × Int), RdS [.int .i64, .int .i64] σ j_A j_n ys1 ∧ Bw (List.length ([] : List (Int × Int)) + List.length ys1) (exl 60 [.int .i64, .int .i64] (([] : List (Int × Int)) ++ ys1) σ (fun A2 l2 c2 σ3 => 
    rt σ3 R (.slice A2 l2 c2)))
def Jo : MAn := (.seq (.txt []) (.seq (.txt []) .leaf))
set_option maxRecDepth 100000 in
theorem Jh (σ : Hp) (j_A : Option Addr) (j_n : Nat) (j_c : Nat) (R : Value → Hp → Prop) (h : ES σ j_A j_n j_c R) : Ae Try.prog 34 #[(.slice j_A j_n j_c)] σ R :=
  Ai DE Jo Try.func34 rfl (by kernel_rfl) (by kernel_rfl) (M := ES σ j_A j_n j_c R) (by kernel_rfl) h
abbrev BM : FuncId := 4
def BP (σ : Hp) (a0_Parking_A : Option Addr) (a0_Parking_n : Nat) (a0_Parking_c : Nat) (a0_Roads_A : Option Addr) (a0_Roads_n : Nat) (a0_Roads_c : Nat) (a1_Height : Int) (a1_Weight : Int) (a1_From : Int) (a1_Ready : Int) (a1_Drive : Int) (a1_Rest : Int) (a2 : Int) (R : Value → Hp → Prop) : Prop :=
  cl Try.prog (.func (.func 17) #[] #[]) #[(.agg #[(.int .i64 a1_Height), (.int .i64 a1_Weight), (.int .i64 a1_From), (.int .i64 a1_Ready), (.int .i64 a1_Drive), (.int .i64 a1_Rest)])] σ (fun v1 σ2 => 
    ∃ A3 : Option Addr, ∃ l3 : Nat, ∃ c3 : Nat, (v1 = (.slice A3 l3 c3) ∧ (Hp.Sub σ σ2 ∧ cl Try.prog (.func (.func 16) #[] #[]) #[(.agg #[(.slice a0_Parking_A a0_Parking_n a0_Parking_c), (.slice a0_Roads_A a0_Roads_n a0_Roads_c)]), (.slice A3 l3 c3)] σ2 (fun v4 σ5 => 
    ∃ t6 : Bool, (v4 = (.bool t6) ∧ bc t6 (cl Try.prog (.func (.func 18) #[] #[]) #[] σ5 (fun v7 σ8 => ∃ t9 : Bool, (v7 = (.bool t9) ∧ 
    rt σ8 R (.bool t9)))) (cl Try.prog (.func (.func 20) #[] #[]) #[(.agg #[(.slice a0_Parking_A a0_Parking_n a0_Parking_c), (.slice a0_Roads_A a0_Roads_n a0_Roads_c)])] σ5 (fun v10 σ11 => 
    ∃ A12 : Option Addr, ∃ l12 : Nat, ∃ c12 : Nat, ∃ A13 : Option Addr, ∃ l13 : Nat, ∃ c13 : Nat, (v10 = (.agg #[(.slice A12 l12 c12), (.slice A13 l13 c13)]) ∧ 
    (Hp.Sub σ5 σ11 ∧ cl Try.prog (.func (.func 23) #[] #[]) #[(.agg #[(.slice A12 l12 c12), (.slice A13 l13 c13)]), (.agg #[(.int .i64 a1_Height), (.int .i64 a1_Weight), (.int .i64 a1_From), (.int .i64 a1_Ready), (.int .i64 a1_Drive), (.int .i64 a1_Rest)]), (.int .i64 a2)] σ11 (fun v14 σ15 => 
    ∃ n16 : Int, ∃ n17 : Int, (v14 = (.tuple #[(.int .i64 n16), (.int .i64 n17)]) ∧ cl Try.prog (.func (.func 24) #[] #[]) #[(.agg #[(.slice a0_Parking_A a0_Parking_n a0_Parking_c), (.slice a0_Roads_A a0_Roads_n a0_Roads_c)]), (.agg #[(.int .i64 a1_Height), (.int .i64 a1_Weight), (.int .i64 a1_From), (.int .i64 a1_Ready), (.int .i64 a1_Drive), (.int .i64 a1_Rest)]), (.int .i64 a2)] σ15 (fun v18 σ19 => 
    ∃ n20 : Int, ∃ n21 : Int, (v18 = (.tuple #[(.int .i64 n20), (.int .i64 n21)]) ∧ cut (α := Hp → Prop) (fun  σ23 => 
    ∀ _ : Nat → Value, bc (!decide (n17 = 0)) (cl Try.prog (.func (.func 18) #[] #[]) #[] σ23 (fun v25 σ26 => 
    ∃ t27 : Bool, (v25 = (.bool t27) ∧ rt σ26 R (.bool t27)))) (cl Try.prog (.func (.func 20) #[] #[]) #[(.agg #[(.slice a0_Parking_A a0_Parking_n a0_Parking_c), (.slice a0_Roads_A a0_Roads_n a0_Roads_c)])] σ23 (fun v28 σ29 => 
    ∃ A30 : Option Addr, ∃ l30 : Nat, ∃ c30 : Nat, ∃ A31 : Option Addr, ∃ l31 : Nat, ∃ c31 : Nat, (v28 = (.agg #[(.slice A30 l30 c30), (.slice A31 l31 c31)]) ∧ 
    (Hp.Sub σ23 σ29 ∧ cl Try.prog (.func (.func 19) #[] #[]) #[(.agg #[(.slice A30 l30 c30), (.slice A31 l31 c31)]), (.agg #[(.int .i64 n16), (.int .i64 a1_Weight), (.int .i64 a1_From), (.int .i64 a1_Ready), (.int .i64 a1_Drive), (.int .i64 a1_Rest)]), (.int .i64 a2)] σ29 (fun v32 σ33 => 
    ∃ A34 : Option Addr, ∃ l34 : Nat, ∃ c34 : Nat, ∃ n35 : Int, (v32 = (.tuple #[(.slice A34 l34 c34), (.int .i64 n35)]) ∧ 
    bc (!decide (n35 = 0)) (rt σ33 R (.bool false)) (wk .i64 (n16 + 1) (fun n36 => cl Try.prog (.func (.func 20) #[] #[]) #[(.agg #[(.slice a0_Parking_A a0_Parking_n a0_Parking_c), (.slice a0_Roads_A a0_Roads_n a0_Roads_c)])] σ33 (fun v37 σ38 => 
    ∃ A39 : Option Addr, ∃ l39 : Nat, ∃ c39 : Nat, ∃ A40 : Option Addr, ∃ l40 : Nat, ∃ c40 : Nat, (v37 = (.agg #[(.slice A39 l39 c39), (.slice A40 l40 c40)]) ∧ 
    (Hp.Sub σ33 σ38 ∧ cl Try.prog (.func (.func 19) #[] #[]) #[(.agg #[(.slice A39 l39 c39), (.slice A40 l40 c40)]), (.agg #[(.int .i64 n36), (.int .i64 a1_Weight), (.int .i64 a1_From), (.int .i64 a1_Ready), (.int .i64 a1_Drive), (.int .i64 a1_Rest)]), (.int .i64 a2)] σ38 (fun v41 σ42 => 
    ∃ A43 : Option Addr, ∃ l43 : Nat, ∃ c43 : Nat, ∃ n44 : Int, (v41 = (.tuple #[(.slice A43 l43 c43), (.int .i64 n44)]) ∧ 
    bc (!decide (n44 = 0)) (cl Try.prog (.func (.func 18) #[] #[]) #[] σ42 (fun v45 σ46 => ∃ t47 : Bool, (v45 = (.bool t47) ∧ 
    rt σ46 R (.bool t47)))) (rt σ42 R (.bool false)))))))))))))))) (fun J24 => cut (α := Bool → Hp → Prop) (fun t51 σ49 => 
    ∀ _ : Nat → Value, bc t51 (rt σ49 R (.bool false)) (J24 σ49)) (fun J50 => bc (!decide (n16 = n20)) (J50 true σ19) (J50 (!decide (n17 = n21)) σ19))))))))))))))))
def Am : OA := ⟨[], false, []⟩
def Bu : MAn := (.plan [4] (.take 0 Am (.take 2 Am (.take 3 Am (.alt 1 true Am (.alt 4 false Am (.take 5 Am (.take 6 Am (.take 7 Am (.take 8 Am (.take 9 Am .done))))) .done) .done)))))
def Ec : MAn := (.seq (.txt []) (.seq (.seq (.plan [3] (.take 0 Am (.take 1 Am (.alt 2 true Am (.alt 3 false Am .done .done) .done)))) (.cond (.seq (.txt []) .leaf) .leaf)) (.seq Bu (.seq (.txt []) (.cut ⟨[true, true], 2, [.slot 3 (.hb 0 0), .slot 4 (.hb 1 0)], [(2, true), (7, true), (8, true)]⟩ (.cut ⟨[true, true], 2, [.slot 3 (.hb 0 0), .slot 4 (.hb 1 0), .slot 43 (.sc (.bool))], [(2, true), (7, true), (8, true)]⟩ (.txt [Am, Am, Am, ⟨[], true, []⟩]) (.cond (.seq (.txt []) .leaf) .leaf)) (.seq (.seq (.txt []) (.cond (.seq (.txt []) .leaf) .leaf)) (.seq (.txt []) (.seq (.txt []) (.seq Bu (.seq (.seq (.txt []) (.cond (.seq (.txt []) .leaf) .leaf)) (.seq (.txt []) (.seq Bu (.seq (.txt [Am, Am, ⟨[], true, []⟩]) .leaf)))))))))))))
set_option maxRecDepth 100000 in
theorem D6 (σ : Hp) (a0_Parking_A : Option Addr) (a0_Parking_n : Nat) (a0_Parking_c : Nat) (a0_Roads_A : Option Addr) (a0_Roads_n : Nat) (a0_Roads_c : Nat) (a1_Height : Int) (a1_Weight : Int) (a1_From : Int) (a1_Ready : Int) (a1_Drive : Int) (a1_Rest : Int) (a2 : Int) (R : Value → Hp → Prop) (h : BP σ a0_Parking_A a0_Parking_n a0_Parking_c a0_Roads_A a0_Roads_n a0_Roads_c a1_Height a1_Weight a1_From a1_Ready a1_Drive a1_Rest a2 R) : Ae Try.prog 4 #[(.agg #[(.slice a0_Parking_A a0_Parking_n a0_Parking_c), (.slice a0_Roads_A a0_Roads_n a0_Roads_c)]), (.agg #[(.int .i64 a1_Height), (.int .i64 a1_Weight), (.int .i64 a1_From), (.int .i64 a1_Ready), (.int .i64 a1_Drive), (.int .i64 a1_Rest)]), (.int .i64 a2)] σ R :=
  Ai DE Ec Try.func4 rfl (by kernel_rfl) (by kernel_rfl) (M := BP σ a0_Parking_A a0_Parking_n a0_Parking_c a0_Roads_A a0_Roads_n a0_Roads_c a1_Height a1_Weight a1_From a1_Ready a1_Drive a1_Rest a2 R) (by kernel_rfl) h
end Go.Proofs.Ytkdjkkimngeloaa
