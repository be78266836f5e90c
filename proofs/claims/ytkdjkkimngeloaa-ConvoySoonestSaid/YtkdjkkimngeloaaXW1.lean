/- Trimmed by wip/trim.py to what this claim rests on. -/
import Derived.Test.YtkdjkkimngeloaaXB11
namespace Go.Proofs.Ytkdjkkimngeloaa
open Go.RowKit
theorem DC : Try.prog.follows .mixedOrders = true := by kernel_rfl
abbrev IB : FuncId := 49
def Fa (σ : Hp) (R : Value → Hp → Prop) : Prop :=
  exl 4 [.bool] ([false, true, false, false] : List Bool) σ (fun A1 l1 c1 σ2 => exl 51 [.int .i64, .int .i64, .int .i64, .int .i64, .int .i64] ([(0, 1, 10, 40, 90), (1, 2, 10, 30, 90), (0, 2, 40, 50, 90), (2, 3, 5, 50, 20)] : List (Int × Int × Int × Int × Int)) σ2 (fun A3 l3 c3 σ4 => 
    rt σ4 R (.tuple #[(.agg #[(.slice A1 l1 c1), (.slice A3 l3 c3)]), (.agg #[(.int .i64 25), (.int .i64 20), (.int .i64 0), (.int .i64 0), (.int .i64 15), (.int .i64 5)])])))
def Gv : MAn := (.seq (.txt []) (.seq (.txt []) (.seq (.txt []) .leaf)))
set_option maxRecDepth 100000 in
theorem GE (σ : Hp) (R : Value → Hp → Prop) (h : Fa σ  R) : Ae Try.prog 49 #[] σ R :=
  Ak DC Gv Try.func49 rfl (by kernel_rfl) (by kernel_rfl) (M := Fa σ  R) (by kernel_rfl) h
theorem Fb : As Try.prog 49 = true := by kernel_rfl
abbrev Gp : FuncId := 18
def Ee (σ : Hp) (R : Value → Hp → Prop) : Prop :=
  cl Try.prog (.func (.func 49) #[] #[]) #[] σ (fun v1 σ2 => ∃ A3 : Option Addr, ∃ l3 : Nat, ∃ c3 : Nat, ∃ A4 : Option Addr, ∃ l4 : Nat, ∃ c4 : Nat, ∃ n5 : Int, ∃ n6 : Int, ∃ n7 : Int, ∃ n8 : Int, ∃ n9 : Int, ∃ n10 : Int, (v1 = (.tuple #[(.agg #[(.slice A3 l3 c3), (.slice A4 l4 c4)]), (.agg #[(.int .i64 n5), (.int .i64 n6), (.int .i64 n7), (.int .i64 n8), (.int .i64 n9), (.int .i64 n10)])]) ∧ 
    cl Try.prog (.func (.func 19) #[] #[]) #[(.agg #[(.slice A3 l3 c3), (.slice A4 l4 c4)]), (.agg #[(.int .i64 n5), (.int .i64 n6), (.int .i64 n7), (.int .i64 n8), (.int .i64 n9), (.int .i64 n10)]), (.int .i64 2)] σ2 (fun v11 σ12 => 
    ∃ A13 : Option Addr, ∃ l13 : Nat, ∃ c13 : Nat, ∃ n14 : Int, (v11 = (.tuple #[(.slice A13 l13 c13), (.int .i64 n14)]) ∧ 
    cl Try.prog (.func (.func 23) #[] #[]) #[(.agg #[(.slice A3 l3 c3), (.slice A4 l4 c4)]), (.agg #[(.int .i64 n5), (.int .i64 n6), (.int .i64 n7), (.int .i64 n8), (.int .i64 n9), (.int .i64 n10)]), (.int .i64 2)] σ12 (fun v15 σ16 => 
    ∃ n17 : Int, ∃ n18 : Int, (v15 = (.tuple #[(.int .i64 n17), (.int .i64 n18)]) ∧ bc (decide (n14 = 0)) (bc (decide (n18 = 0)) (bc (decide (n17 = 30)) (bc (decide (((l13 : Nat) : Int) = 2)) (ix A13 l13 1 2 (fun b19 a20 => 
    ldI σ16 .i64 b19 a20 (fun n21 => ldI σ16 .i64 b19 (a20 + 1) (fun n22 => rt σ16 R (.bool (decide (n21 = 1) && decide (n22 = 15))))))) (rt σ16 R (.bool false))) (rt σ16 R (.bool false))) (rt σ16 R (.bool false))) (rt σ16 R (.bool false))))))))
def AA : OA := ⟨[], false, []⟩
def HQ : MAn := (.seq (.txt []) (.seq (.txt []) (.seq (.txt []) (.seq (.txt []) (.seq (.txt [AA, AA, ⟨[], true, []⟩, AA, AA, AA, ⟨[], true, []⟩, AA, AA, AA, ⟨[], true, []⟩, AA, AA, AA, AA, ⟨[], true, []⟩]) .leaf)))))
set_option maxRecDepth 100000 in
theorem HH (σ : Hp) (R : Value → Hp → Prop) (h : Ee σ  R) : Ae Try.prog 18 #[] σ R :=
  Ak DC HQ Try.func18 rfl (by kernel_rfl) (by kernel_rfl) (M := Ee σ  R) (by kernel_rfl) h
theorem F6 : As Try.prog 18 = true := by kernel_rfl
abbrev LM : FuncId := 25
def FK (σ : Hp) (_ : Option Addr) (m_Parking_n : Nat) (_ : Nat) (_ : Option Addr) (m_Roads_n : Nat) (_ : Nat) (R : Value → Hp → Prop) : Prop :=
  bc (decide ((20 : Int) < ((m_Parking_n : Nat) : Int))) (rt σ R (.bool true)) (rt σ R (.bool (decide ((40 : Int) < ((m_Roads_n : Nat) : Int)))))
def Jv : MAn := (.seq (.txt []) (.seq (.txt [⟨[], false, []⟩, ⟨[], false, []⟩, ⟨[], false, []⟩, ⟨[], false, []⟩, ⟨[], true, []⟩]) .leaf))
set_option maxRecDepth 100000 in
theorem Jp (σ : Hp) (m_Parking_A : Option Addr) (m_Parking_n : Nat) (m_Parking_c : Nat) (m_Roads_A : Option Addr) (m_Roads_n : Nat) (m_Roads_c : Nat) (R : Value → Hp → Prop) (h : FK σ m_Parking_A m_Parking_n m_Parking_c m_Roads_A m_Roads_n m_Roads_c R) : Ae Try.prog 25 #[(.agg #[(.slice m_Parking_A m_Parking_n m_Parking_c), (.slice m_Roads_A m_Roads_n m_Roads_c)])] σ R :=
  Ak DC Jv Try.func25 rfl (by kernel_rfl) (by kernel_rfl) (M := FK σ m_Parking_A m_Parking_n m_Parking_c m_Roads_A m_Roads_n m_Roads_c R) (by kernel_rfl) h
theorem Hj : As Try.prog 25 = true := by kernel_rfl
abbrev Gl : FuncId := 16
def D7 (σ : Hp) (m_Parking_A : Option Addr) (m_Parking_n : Nat) (m_Parking_c : Nat) (m_Roads_A : Option Addr) (m_Roads_n : Nat) (m_Roads_c : Nat) (l_A : Option Addr) (l_n : Nat) (_ : Nat) (R : Value → Hp → Prop) : Prop :=
  cut (α := Hp → Prop) (fun  σ2 => ∀ _ : Nat → Value, cut (α := Hp → Prop) (fun  σ5 => ∀ _ : Nat → Value, 
    rt σ5 R (.bool false)) (fun J6 => ∃ I9 : Nat → Int → Hp → Prop, (∃ n100, I9 n100 0 σ2) ∧ ∀ n10 : Nat, ∀ n11 : Int, ∀ σ8 : Hp, I9 n10 n11 σ8 → ∀ _ : Nat → Value, bc (decide (n11 < ((l_n : Nat) : Int))) (cut (α := Hp → Prop) (fun  σ13 => 
    ∀ _ : Nat → Value, wk .i64 (n11 + 1) (fun n15 => bk σ13 n10 (fun m16 σ17 => I9 m16 n15 σ17))) (fun J14 => 
    cut (α := Bool → Hp → Prop) (fun t21 σ19 => ∀ _ : Nat → Value, bc t21 (rt σ19 R (.bool true)) (J14 σ19)) (fun J20 => 
    ix l_A l_n n11 6 (fun b22 a23 => ldI σ8 .i64 b22 (a23 + 4) (fun n24 => bc (decide ((60 : Int) < n24)) (ix l_A l_n n11 6 (fun b25 a26 => 
    ldI σ8 .i64 b25 (a26 + 4) (fun n27 => J20 (decide (n27 ≤ 500)) σ8))) (J20 false σ8)))))) (J6 σ8))) (fun J3 => 
    cut (α := Bool → Hp → Prop) (fun t31 σ29 => ∀ _ : Nat → Value, bc t31 (rt σ29 R (.bool true)) (J3 σ29)) (fun J30 => 
    cl Try.prog (.func (.func 25) #[] #[]) #[(.agg #[(.slice m_Parking_A m_Parking_n m_Parking_c), (.slice m_Roads_A m_Roads_n m_Roads_c)])] σ (fun v32 σ33 => 
    ∃ t34 : Bool, (v32 = (.bool t34) ∧ bc t34 (J30 true σ33) (bc (decide ((5 : Int) < ((m_Parking_n : Nat) : Int))) (J30 true σ33) (bc (decide ((8 : Int) < ((m_Roads_n : Nat) : Int))) (J30 true σ33) (J30 (decide ((12 : Int) < ((l_n : Nat) : Int))) σ33)))))))
def Ar : OA := ⟨[], false, []⟩
def H5 : MAn := (.seq (.txt []) (.cut ⟨[true], 1, [], [(1, true)]⟩ (.cut ⟨[true], 1, [.slot 24 (.sc (.bool))], [(1, true)]⟩ (.txt [Ar, Ar, ⟨[], true, []⟩, Ar, Ar, Ar, Ar, Ar, ⟨[], true, []⟩, Ar, Ar, Ar, Ar, Ar, ⟨[], true, []⟩]) (.cond (.seq (.txt []) .leaf) .leaf)) (.cut ⟨[true], 1, [], []⟩ (.seq (.txt []) (.block (.loop ⟨[true], 1, [.slot 5 (.sc (.int .i64))], [(1, true)]⟩ (.seq (.seq (.txt []) (.cond .leaf .leaf)) (.cut ⟨[true], 1, [], [(1, true), (5, true)]⟩ (.block (.cut ⟨[true], 1, [.slot 44 (.sc (.bool))], [(1, true), (5, true)]⟩ (.txt [Ar, Ar, Ar, Ar, Ar, Ar, ⟨[], true, []⟩]) (.cond (.seq (.txt []) .leaf) .leaf))) (.txt [])))))) (.seq (.txt []) .leaf))))
set_option maxRecDepth 100000 in
theorem H6 (σ : Hp) (m_Parking_A : Option Addr) (m_Parking_n : Nat) (m_Parking_c : Nat) (m_Roads_A : Option Addr) (m_Roads_n : Nat) (m_Roads_c : Nat) (l_A : Option Addr) (l_n : Nat) (l_c : Nat) (R : Value → Hp → Prop) (h : D7 σ m_Parking_A m_Parking_n m_Parking_c m_Roads_A m_Roads_n m_Roads_c l_A l_n l_c R) : Ae Try.prog 16 #[(.agg #[(.slice m_Parking_A m_Parking_n m_Parking_c), (.slice m_Roads_A m_Roads_n m_Roads_c)]), (.slice l_A l_n l_c)] σ R :=
  Ak DC H5 Try.func16 rfl (by kernel_rfl) (by kernel_rfl) (M := D7 σ m_Parking_A m_Parking_n m_Parking_c m_Roads_A m_Roads_n m_Roads_c l_A l_n l_c R) (by kernel_rfl) h
theorem F5 : As Try.prog 16 = true := by kernel_rfl
abbrev Ij : FuncId := 17
def Ia (σ : Hp) (l_Height : Int) (l_Weight : Int) (l_From : Int) (l_Ready : Int) (l_Drive : Int) (l_Rest : Int) (R : Value → Hp → Prop) : Prop :=
  exl 27 [.int .i64, .int .i64, .int .i64, .int .i64, .int .i64, .int .i64] ([(l_Height, l_Weight, l_From, l_Ready, l_Drive, l_Rest)] : List (Int × Int × Int × Int × Int × Int)) σ (fun A1 l1 c1 σ2 => 
    rt σ2 R (.slice A1 l1 c1))
def Jl : MAn := (.seq (.txt []) (.seq (.txt []) .leaf))
set_option maxRecDepth 100000 in
theorem Jo (σ : Hp) (l_Height : Int) (l_Weight : Int) (l_From : Int) (l_Ready : Int) (l_Drive : Int) (l_Rest : Int) (R : Value → Hp → Prop) (h : Ia σ l_Height l_Weight l_From l_Ready l_Drive l_Rest R) : Ae Try.prog 17 #[(.agg #[(.int .i64 l_Height), (.int .i64 l_Weight), (.int .i64 l_From), (.int .i64 l_Ready), (.int .i64 l_Drive), (.int .i64 l_Rest)])] σ R :=
  Ak DC Jl Try.func17 rfl (by kernel_rfl) (by kernel_rfl) (M := Ia σ l_Height l_Weight l_From l_Ready l_Drive l_Rest R) (by kernel_rfl) h
theorem G8 : As Try.prog 17 = true := by kernel_rfl
abbrev G4 : FuncId := 34
def EU (σ : Hp) (j_A : Option Addr) (j_n : Nat) (_ : Nat) (R : Value → Hp → Prop) : Prop :=
  ∃ ys1 : List (Int × Int), RdS [.int .i64, .int .i64] σ j_A j_n ys1 ∧ Dz (List.length ([] : List (Int × Int)) + List.length ys1) (exl 60 [.int .i64, .int .i64] (([] : List (Int × Int)) ++ ys1) σ (fun A2 l2 c2 σ3 => 
    rt σ3 R (.slice A2 l2 c2)))
def Iy : MAn := (.seq (.txt []) (.seq (.txt []) .leaf))
set_option maxRecDepth 100000 in
theorem IE (σ : Hp) (j_A : Option Addr) (j_n : Nat) (j_c : Nat) (R : Value → Hp → Prop) (h : EU σ j_A j_n j_c R) : Ae Try.prog 34 #[(.slice j_A j_n j_c)] σ R :=
  Ak DC Iy Try.func34 rfl (by kernel_rfl) (by kernel_rfl) (M := EU σ j_A j_n j_c R) (by kernel_rfl) h
theorem GD : As Try.prog 34 = true := by kernel_rfl
abbrev BJ : FuncId := 11
def BG (σ : Hp) (a0_Parking_A : Option Addr) (a0_Parking_n : Nat) (a0_Parking_c : Nat) (a0_Roads_A : Option Addr) (a0_Roads_n : Nat) (a0_Roads_c : Nat) (a1_Height : Int) (a1_Weight : Int) (a1_From : Int) (a1_Ready : Int) (a1_Drive : Int) (a1_Rest : Int) (a2_To : Int) (a2_Legs_A : Option Addr) (a2_Legs_n : Nat) (a2_Legs_c : Nat) (R : Value → Hp → Prop) : Prop :=
  cut (α := Hp → Prop) (fun  σ2 => ∀ _ : Nat → Value, cl Try.prog (.func (.func 20) #[] #[]) #[(.agg #[(.slice a0_Parking_A a0_Parking_n a0_Parking_c), (.slice a0_Roads_A a0_Roads_n a0_Roads_c)])] σ2 (fun v4 σ5 => 
    ∃ A6 : Option Addr, ∃ l6 : Nat, ∃ c6 : Nat, ∃ A7 : Option Addr, ∃ l7 : Nat, ∃ c7 : Nat, (v4 = (.agg #[(.slice A6 l6 c6), (.slice A7 l7 c7)]) ∧ 
    cl Try.prog (.func (.func 19) #[] #[]) #[(.agg #[(.slice A6 l6 c6), (.slice A7 l7 c7)]), (.agg #[(.int .i64 a1_Height), (.int .i64 a1_Weight), (.int .i64 a1_From), (.int .i64 a1_Ready), (.int .i64 a1_Drive), (.int .i64 a1_Rest)]), (.int .i64 a2_To)] σ5 (fun v8 σ9 => 
    ∃ A10 : Option Addr, ∃ l10 : Nat, ∃ c10 : Nat, ∃ n11 : Int, (v8 = (.tuple #[(.slice A10 l10 c10), (.int .i64 n11)]) ∧ 
    cl Try.prog (.func (.func 30) #[] #[]) #[(.agg #[(.slice A6 l6 c6), (.slice A7 l7 c7)]), (.agg #[(.int .i64 a1_Height), (.int .i64 a1_Weight), (.int .i64 a1_From), (.int .i64 a1_Ready), (.int .i64 a1_Drive), (.int .i64 a1_Rest)])] σ9 (fun v12 σ13 => 
    ∃ A14 : Option Addr, ∃ l14 : Nat, ∃ c14 : Nat, ∃ n15 : Int, (v12 = (.tuple #[(.slice A14 l14 c14), (.int .i64 n15)]) ∧ 
    cut (α := Hp → Prop) (fun  σ17 => ∀ _ : Nat → Value, cut (α := Hp → Prop) (fun  σ20 => ∀ _ : Nat → Value, 
    cut (α := Hp → Prop) (fun  σ23 => ∀ _ : Nat → Value, cl Try.prog (.func (.func 34) #[] #[]) #[(.slice a2_Legs_A a2_Legs_n a2_Legs_c)] σ23 (fun v25 σ26 => 
    ∃ A27 : Option Addr, ∃ l27 : Nat, ∃ c27 : Nat, (v25 = (.slice A27 l27 c27) ∧ (Hp.Sub σ23 σ26 ∧ cl Try.prog (.func (.func 33) #[] #[]) #[(.agg #[(.slice A6 l6 c6), (.slice A7 l7 c7)]), (.agg #[(.int .i64 a1_Height), (.int .i64 a1_Weight), (.int .i64 a1_From), (.int .i64 a1_Ready), (.int .i64 a1_Drive), (.int .i64 a1_Rest)]), (.slice A27 l27 c27)] σ26 (fun v28 σ29 => 
    ∃ n30 : Int, ∃ n31 : Int, ∃ n32 : Int, ∃ n33 : Int, (v28 = (.tuple #[(.int .i64 n30), (.int .i64 n31), (.int .i64 n32), (.int .i64 n33)]) ∧ 
    cut (α := Hp → Prop) (fun  σ35 => ∀ _ : Nat → Value, bc (decide (n11 = 0)) (ix A14 l14 a2_To 1 (fun b37 a38 => 
    ldI σ35 .i64 b37 a38 (fun n39 => bc (decide (n39 ≤ n31)) (cl Try.prog (.func (.func 18) #[] #[]) #[] σ35 (fun v40 σ41 => 
    ∃ t42 : Bool, (v40 = (.bool t42) ∧ rt σ41 R (.bool t42)))) (rt σ35 R (.bool false))))) (rt σ35 R (.bool false))) (fun J36 => 
    cut (α := Bool → Hp → Prop) (fun t46 σ44 => ∀ _ : Nat → Value, bc t46 (cl Try.prog (.func (.func 18) #[] #[]) #[] σ44 (fun v47 σ48 => 
    ∃ t49 : Bool, (v47 = (.bool t49) ∧ rt σ48 R (.bool t49)))) (J36 σ44)) (fun J45 => bc (!decide (n33 = 0)) (J45 true σ29) (J45 (!decide (n30 = a2_To)) σ29))))))))) (fun J24 => 
    bc (decide (n11 = 0)) (cl Try.prog (.func (.func 34) #[] #[]) #[(.slice A10 l10 c10)] σ20 (fun v50 σ51 => 
    ∃ A52 : Option Addr, ∃ l52 : Nat, ∃ c52 : Nat, (v50 = (.slice A52 l52 c52) ∧ (Hp.Sub σ20 σ51 ∧ cl Try.prog (.func (.func 33) #[] #[]) #[(.agg #[(.slice A6 l6 c6), (.slice A7 l7 c7)]), (.agg #[(.int .i64 a1_Height), (.int .i64 a1_Weight), (.int .i64 a1_From), (.int .i64 a1_Ready), (.int .i64 a1_Drive), (.int .i64 a1_Rest)]), (.slice A52 l52 c52)] σ51 (fun v53 σ54 => 
    ∃ n55 : Int, ∃ n56 : Int, ∃ n57 : Int, ∃ n58 : Int, (v53 = (.tuple #[(.int .i64 n55), (.int .i64 n56), (.int .i64 n57), (.int .i64 n58)]) ∧ 
    cut (α := Bool → Hp → Prop) (fun t62 σ60 => ∀ _ : Nat → Value, bc t62 (rt σ60 R (.bool false)) (J24 σ60)) (fun J61 => 
    bc (!decide (n58 = 0)) (J61 true σ54) (bc (!decide (n55 = a2_To)) (J61 true σ54) (ix A14 l14 a2_To 1 (fun b63 a64 => 
    ldI σ54 .i64 b63 a64 (fun n65 => J61 (!decide (n56 = n65)) σ54))))))))))) (J24 σ20))) (fun J21 => cut (α := Bool → Hp → Prop) (fun t69 σ67 => 
    ∀ _ : Nat → Value, bc t69 (rt σ67 R (.bool false)) (J21 σ67)) (fun J68 => bc (!decide (n15 = 0)) (J68 true σ17) (bc (decide (a2_To < 0)) (J68 true σ17) (bc (decide (((l14 : Nat) : Int) ≤ a2_To)) (J68 true σ17) (ix A14 l14 a2_To 1 (fun b70 a71 => 
    ldI σ17 .i64 b70 a71 (fun n72 => J68 (!((decide (n72 < 0)) == (decide (n11 = 3)))) σ17)))))))) (fun J18 => 
    cut (α := Bool → Hp → Prop) (fun t76 σ74 => ∀ _ : Nat → Value, bc t76 (cl Try.prog (.func (.func 18) #[] #[]) #[] σ74 (fun v77 σ78 => 
    ∃ t79 : Bool, (v77 = (.bool t79) ∧ rt σ78 R (.bool t79)))) (J18 σ74)) (fun J75 => bc (!decide (n11 = 0)) (J75 (!decide (n11 = 3)) σ13) (J75 false σ13)))))))))) (fun J3 => 
    cut (α := Bool → Hp → Prop) (fun t83 σ81 => ∀ _ : Nat → Value, bc t83 (cl Try.prog (.func (.func 18) #[] #[]) #[] σ81 (fun v84 σ85 => 
    ∃ t86 : Bool, (v84 = (.bool t86) ∧ rt σ85 R (.bool t86)))) (J3 σ81)) (fun J82 => cl Try.prog (.func (.func 17) #[] #[]) #[(.agg #[(.int .i64 a1_Height), (.int .i64 a1_Weight), (.int .i64 a1_From), (.int .i64 a1_Ready), (.int .i64 a1_Drive), (.int .i64 a1_Rest)])] σ (fun v87 σ88 => 
    ∃ A89 : Option Addr, ∃ l89 : Nat, ∃ c89 : Nat, (v87 = (.slice A89 l89 c89) ∧ (Hp.Sub σ σ88 ∧ cl Try.prog (.func (.func 16) #[] #[]) #[(.agg #[(.slice a0_Parking_A a0_Parking_n a0_Parking_c), (.slice a0_Roads_A a0_Roads_n a0_Roads_c)]), (.slice A89 l89 c89)] σ88 (fun v90 σ91 => 
    ∃ t92 : Bool, (v90 = (.bool t92) ∧ bc t92 (J82 true σ91) (J82 (decide ((80 : Int) < ((a2_Legs_n : Nat) : Int))) σ91))))))))
def Aa : OA := ⟨[], false, []⟩
def Cb : MAn := (.plan [4] (.take 0 Aa (.take 1 Aa (.take 2 Aa (.alt 3 true Aa (.alt 4 false Aa (.take 5 Aa (.take 6 Aa (.take 7 Aa (.take 8 Aa (.take 9 Aa (.take 10 Aa (.take 11 Aa (.take 12 Aa (.take 13 Aa .done))))))))) .done) .done)))))
def D1 : MAn := (.seq (.txt []) (.seq (.plan [] (.take 0 Aa (.take 1 Aa (.take 2 Aa (.take 3 Aa (.take 4 Aa (.take 5 Aa .done))))))) (.cut ⟨[true, true, true], 3, [.slot 3 (.hb 0 0), .slot 4 (.hb 1 0)], [(7, true), (8, true)]⟩ (.cut ⟨[true, true, true], 3, [.slot 3 (.hb 0 0), .slot 4 (.hb 1 0), .slot 34 (.sc (.bool))], [(7, true), (8, true)]⟩ (.plan [3] (.take 0 Aa (.take 1 Aa (.alt 2 true Aa (.alt 3 false Aa (.take 4 ⟨[], true, []⟩ (.take 5 Aa (.take 6 Aa (.take 7 Aa (.take 8 Aa .done))))) .done) .done)))) (.cond (.seq (.txt []) .leaf) .leaf)) (.seq (.txt []) (.seq (.txt []) (.seq (.txt []) (.cut ⟨[true, true, true, true], 4, [.slot 4 (.hb 1 0), .slot 9 (.hb 3 0)], [(7, true), (8, true), (10, true), (11, true), (12, true), (13, true)]⟩ (.cut ⟨[true, true, true, true], 4, [.slot 4 (.hb 1 0), .slot 9 (.hb 3 0), .slot 56 (.sc (.bool))], [(7, true), (8, true), (10, true), (11, true), (12, true), (13, true)]⟩ (.txt [Aa, Aa, ⟨[], true, []⟩]) (.cond (.seq (.txt []) .leaf) .leaf)) (.cut ⟨[true, true, true, true], 4, [.slot 4 (.hb 1 0), .slot 9 (.hb 3 0)], [(7, true), (8, true), (10, true), (11, true), (12, true)]⟩ (.cut ⟨[true, true, true, true], 4, [.slot 4 (.hb 1 0), .slot 9 (.hb 3 0), .slot 79 (.sc (.bool))], [(7, true), (8, true), (10, true), (11, true), (12, true)]⟩ (.txt [Aa, Aa, ⟨[], true, []⟩, Aa, Aa, Aa, ⟨[], true, []⟩, Aa, Aa, Aa, Aa, Aa, ⟨[], true, []⟩]) (.cond (.seq (.txt []) .leaf) .leaf)) (.cut ⟨[true, true, true, true], 4, [.slot 4 (.hb 1 0), .slot 9 (.hb 3 0)], [(7, true), (8, true), (11, true), (12, true)]⟩ (.seq (.txt []) (.cond (.seq Cb (.cut ⟨[true, true, true, true], 4, [.slot 4 (.hb 1 0), .slot 9 (.hb 3 0), .slot 106 (.sc (.bool))], [(7, true), (8, true), (11, true), (12, true)]⟩ (.txt [Aa, Aa, ⟨[], true, []⟩, Aa, Aa, Aa, Aa, ⟨[], true, []⟩]) (.cond (.seq (.txt []) .leaf) .leaf))) .leaf)) (.seq Cb (.cut ⟨[true, true, true, true], 4, [], [(7, true), (11, true), (12, true), (19, true)]⟩ (.cut ⟨[true, true, true, true], 4, [.slot 123 (.sc (.bool))], [(7, true), (11, true), (12, true), (19, true)]⟩ (.txt [Aa, Aa, ⟨[], true, []⟩]) (.cond (.seq (.txt []) .leaf) .leaf)) (.seq (.txt [Aa, Aa, ⟨[], true, []⟩, Aa, Aa, Aa, Aa, Aa, Aa, Aa, ⟨[], true, []⟩]) .leaf))))))))))))
set_option maxRecDepth 100000 in
theorem Ec (σ : Hp) (a0_Parking_A : Option Addr) (a0_Parking_n : Nat) (a0_Parking_c : Nat) (a0_Roads_A : Option Addr) (a0_Roads_n : Nat) (a0_Roads_c : Nat) (a1_Height : Int) (a1_Weight : Int) (a1_From : Int) (a1_Ready : Int) (a1_Drive : Int) (a1_Rest : Int) (a2_To : Int) (a2_Legs_A : Option Addr) (a2_Legs_n : Nat) (a2_Legs_c : Nat) (R : Value → Hp → Prop) (h : BG σ a0_Parking_A a0_Parking_n a0_Parking_c a0_Roads_A a0_Roads_n a0_Roads_c a1_Height a1_Weight a1_From a1_Ready a1_Drive a1_Rest a2_To a2_Legs_A a2_Legs_n a2_Legs_c R) : Ae Try.prog 11 #[(.agg #[(.slice a0_Parking_A a0_Parking_n a0_Parking_c), (.slice a0_Roads_A a0_Roads_n a0_Roads_c)]), (.agg #[(.int .i64 a1_Height), (.int .i64 a1_Weight), (.int .i64 a1_From), (.int .i64 a1_Ready), (.int .i64 a1_Drive), (.int .i64 a1_Rest)]), (.agg #[(.int .i64 a2_To), (.slice a2_Legs_A a2_Legs_n a2_Legs_c)])] σ R :=
  Ak DC D1 Try.func11 rfl (by kernel_rfl) (by kernel_rfl) (M := BG σ a0_Parking_A a0_Parking_n a0_Parking_c a0_Roads_A a0_Roads_n a0_Roads_c a1_Height a1_Weight a1_From a1_Ready a1_Drive a1_Rest a2_To a2_Legs_A a2_Legs_n a2_Legs_c R) (by kernel_rfl) h
end Go.Proofs.Ytkdjkkimngeloaa
