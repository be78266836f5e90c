/- Trimmed by wip/trim.py to what this claim rests on. -/
import Derived.Test.YtkdjkkimngeloaaZB11
namespace Go.Proofs.Ytkdjkkimngeloaa
open Go.RowKit
theorem Dn : Try.prog.follows .mixedOrders = true := by kernel_rfl
abbrev Kk : FuncId := 49
def F8 (σ : Hp) (R : Value → Hp → Prop) : Prop :=
  exl 4 [.bool] ([false, true, false, false] : List Bool) σ (fun A1 l1 c1 σ2 => exl 51 [.int .i64, .int .i64, .int .i64, .int .i64, .int .i64] ([(0, 1, 10, 40, 90), (1, 2, 10, 30, 90), (0, 2, 40, 50, 90), (2, 3, 5, 50, 20)] : List (Int × Int × Int × Int × Int)) σ2 (fun A3 l3 c3 σ4 => 
    rt σ4 R (.tuple #[(.agg #[(.slice A1 l1 c1), (.slice A3 l3 c3)]), (.agg #[(.int .i64 25), (.int .i64 20), (.int .i64 0), (.int .i64 0), (.int .i64 15), (.int .i64 5)])])))
def HX : MAn := (.seq (.txt []) (.seq (.txt []) (.seq (.txt []) .leaf)))
set_option maxRecDepth 100000 in
theorem H5 (σ : Hp) (R : Value → Hp → Prop) (h : F8 σ  R) : Ah Try.prog 49 #[] σ R :=
  Aj Dn HX Try.func49 rfl (by kernel_rfl) (by kernel_rfl) (M := F8 σ  R) (by kernel_rfl) h
theorem Gf : Aw Try.prog 49 = true := by kernel_rfl
abbrev HG : FuncId := 18
def EK (σ : Hp) (R : Value → Hp → Prop) : Prop :=
  cl Try.prog (.func (.func 49) #[] #[]) #[] σ (fun v1 σ2 => ∃ A3 : Option Addr, ∃ l3 : Nat, ∃ c3 : Nat, ∃ A4 : Option Addr, ∃ l4 : Nat, ∃ c4 : Nat, ∃ n5 : Int, ∃ n6 : Int, ∃ n7 : Int, ∃ n8 : Int, ∃ n9 : Int, ∃ n10 : Int, (v1 = (.tuple #[(.agg #[(.slice A3 l3 c3), (.slice A4 l4 c4)]), (.agg #[(.int .i64 n5), (.int .i64 n6), (.int .i64 n7), (.int .i64 n8), (.int .i64 n9), (.int .i64 n10)])]) ∧ 
    cl Try.prog (.func (.func 19) #[] #[]) #[(.agg #[(.slice A3 l3 c3), (.slice A4 l4 c4)]), (.agg #[(.int .i64 n5), (.int .i64 n6), (.int .i64 n7), (.int .i64 n8), (.int .i64 n9), (.int .i64 n10)]), (.int .i64 2)] σ2 (fun v11 σ12 => 
    ∃ A13 : Option Addr, ∃ l13 : Nat, ∃ c13 : Nat, ∃ n14 : Int, (v11 = (.tuple #[(.slice A13 l13 c13), (.int .i64 n14)]) ∧ 
    cl Try.prog (.func (.func 23) #[] #[]) #[(.agg #[(.slice A3 l3 c3), (.slice A4 l4 c4)]), (.agg #[(.int .i64 n5), (.int .i64 n6), (.int .i64 n7), (.int .i64 n8), (.int .i64 n9), (.int .i64 n10)]), (.int .i64 2)] σ12 (fun v15 σ16 => 
    ∃ n17 : Int, ∃ n18 : Int, (v15 = (.tuple #[(.int .i64 n17), (.int .i64 n18)]) ∧ bc (decide (n14 = 0)) (bc (decide (n18 = 0)) (bc (decide (n17 = 30)) (bc (decide (((l13 : Nat) : Int) = 2)) (ix A13 l13 1 2 (fun b19 a20 => 
    ldI σ16 .i64 b19 a20 (fun n21 => ldI σ16 .i64 b19 (a20 + 1) (fun n22 => rt σ16 R (.bool (decide (n21 = 1) && decide (n22 = 15))))))) (rt σ16 R (.bool false))) (rt σ16 R (.bool false))) (rt σ16 R (.bool false))) (rt σ16 R (.bool false))))))))
def AI : OA := ⟨[], false, []⟩
def Jq : MAn := (.seq (.txt []) (.seq (.txt []) (.seq (.txt []) (.seq (.txt []) (.seq (.txt [AI, AI, ⟨[], true, []⟩, AI, AI, AI, ⟨[], true, []⟩, AI, AI, AI, ⟨[], true, []⟩, AI, AI, AI, AI, ⟨[], true, []⟩]) .leaf)))))
set_option maxRecDepth 100000 in
theorem Ju (σ : Hp) (R : Value → Hp → Prop) (h : EK σ  R) : Ah Try.prog 18 #[] σ R :=
  Aj Dn Jq Try.func18 rfl (by kernel_rfl) (by kernel_rfl) (M := EK σ  R) (by kernel_rfl) h
theorem HC : Aw Try.prog 18 = true := by kernel_rfl
abbrev Nv : FuncId := 25
def GT (σ : Hp) (_ : Option Addr) (m_Parking_n : Nat) (_ : Nat) (_ : Option Addr) (m_Roads_n : Nat) (_ : Nat) (R : Value → Hp → Prop) : Prop :=
  bc (decide ((20 : Int) < ((m_Parking_n : Nat) : Int))) (rt σ R (.bool true)) (rt σ R (.bool (decide ((40 : Int) < ((m_Roads_n : Nat) : Int)))))
def K9 : MAn := (.seq (.txt []) (.seq (.txt [⟨[], false, []⟩, ⟨[], false, []⟩, ⟨[], false, []⟩, ⟨[], false, []⟩, ⟨[], true, []⟩]) .leaf))
set_option maxRecDepth 100000 in
theorem KV (σ : Hp) (m_Parking_A : Option Addr) (m_Parking_n : Nat) (m_Parking_c : Nat) (m_Roads_A : Option Addr) (m_Roads_n : Nat) (m_Roads_c : Nat) (R : Value → Hp → Prop) (h : GT σ m_Parking_A m_Parking_n m_Parking_c m_Roads_A m_Roads_n m_Roads_c R) : Ah Try.prog 25 #[(.agg #[(.slice m_Parking_A m_Parking_n m_Parking_c), (.slice m_Roads_A m_Roads_n m_Roads_c)])] σ R :=
  Aj Dn K9 Try.func25 rfl (by kernel_rfl) (by kernel_rfl) (M := GT σ m_Parking_A m_Parking_n m_Parking_c m_Roads_A m_Roads_n m_Roads_c R) (by kernel_rfl) h
theorem IZ : Aw Try.prog 25 = true := by kernel_rfl
abbrev HK : FuncId := 16
def EG (σ : Hp) (m_Parking_A : Option Addr) (m_Parking_n : Nat) (m_Parking_c : Nat) (m_Roads_A : Option Addr) (m_Roads_n : Nat) (m_Roads_c : Nat) (l_A : Option Addr) (l_n : Nat) (_ : Nat) (R : Value → Hp → Prop) : Prop :=
  cut (α := Hp → Prop) (fun  σ2 => ∀ _ : Nat → Value, cut (α := Hp → Prop) (fun  σ5 => ∀ _ : Nat → Value, 
    rt σ5 R (.bool false)) (fun J6 => ∃ I9 : Nat → Int → Hp → Prop, (∃ n100, I9 n100 0 σ2) ∧ ∀ n10 : Nat, ∀ n11 : Int, ∀ σ8 : Hp, I9 n10 n11 σ8 → ∀ _ : Nat → Value, bc (decide (n11 < ((l_n : Nat) : Int))) (cut (α := Hp → Prop) (fun  σ13 => 
    ∀ _ : Nat → Value, wk .i64 (n11 + 1) (fun n15 => bk σ13 n10 (fun m16 σ17 => I9 m16 n15 σ17))) (fun J14 => 
    cut (α := Bool → Hp → Prop) (fun t21 σ19 => ∀ _ : Nat → Value, bc t21 (rt σ19 R (.bool true)) (J14 σ19)) (fun J20 => 
    ix l_A l_n n11 6 (fun b22 a23 => ldI σ8 .i64 b22 (a23 + 4) (fun n24 => bc (decide ((60 : Int) < n24)) (ix l_A l_n n11 6 (fun b25 a26 => 
    ldI σ8 .i64 b25 (a26 + 4) (fun n27 => J20 (decide (n27 ≤ 500)) σ8))) (J20 false σ8)))))) (J6 σ8))) (fun J3 => 
    cut (α := Bool → Hp → Prop) (fun t31 σ29 => ∀ _ : Nat → Value, bc t31 (rt σ29 R (.bool true)) (J3 σ29)) (fun J30 => 
    cl Try.prog (.func (.func 25) #[] #[]) #[(.agg #[(.slice m_Parking_A m_Parking_n m_Parking_c), (.slice m_Roads_A m_Roads_n m_Roads_c)])] σ (fun v32 σ33 => 
    ∃ t34 : Bool, (v32 = (.bool t34) ∧ bc t34 (J30 true σ33) (bc (decide ((5 : Int) < ((m_Parking_n : Nat) : Int))) (J30 true σ33) (bc (decide ((8 : Int) < ((m_Roads_n : Nat) : Int))) (J30 true σ33) (J30 (decide ((12 : Int) < ((l_n : Nat) : Int))) σ33)))))))
def AC : OA := ⟨[], false, []⟩
def Jy : MAn := (.seq (.txt []) (.cut ⟨[true], 1, [], [(1, true)]⟩ (.cut ⟨[true], 1, [.slot 24 (.sc (.bool))], [(1, true)]⟩ (.txt [AC, AC, ⟨[], true, []⟩, AC, AC, AC, AC, AC, ⟨[], true, []⟩, AC, AC, AC, AC, AC, ⟨[], true, []⟩]) (.cond (.seq (.txt []) .leaf) .leaf)) (.cut ⟨[true], 1, [], []⟩ (.seq (.txt []) (.block (.loop ⟨[true], 1, [.slot 5 (.sc (.int .i64))], [(1, true)]⟩ (.seq (.seq (.txt []) (.cond .leaf .leaf)) (.cut ⟨[true], 1, [], [(1, true), (5, true)]⟩ (.block (.cut ⟨[true], 1, [.slot 44 (.sc (.bool))], [(1, true), (5, true)]⟩ (.txt [AC, AC, AC, AC, AC, AC, ⟨[], true, []⟩]) (.cond (.seq (.txt []) .leaf) .leaf))) (.txt [])))))) (.seq (.txt []) .leaf))))
set_option maxRecDepth 100000 in
theorem JN (σ : Hp) (m_Parking_A : Option Addr) (m_Parking_n : Nat) (m_Parking_c : Nat) (m_Roads_A : Option Addr) (m_Roads_n : Nat) (m_Roads_c : Nat) (l_A : Option Addr) (l_n : Nat) (l_c : Nat) (R : Value → Hp → Prop) (h : EG σ m_Parking_A m_Parking_n m_Parking_c m_Roads_A m_Roads_n m_Roads_c l_A l_n l_c R) : Ah Try.prog 16 #[(.agg #[(.slice m_Parking_A m_Parking_n m_Parking_c), (.slice m_Roads_A m_Roads_n m_Roads_c)]), (.slice l_A l_n l_c)] σ R :=
  Aj Dn Jy Try.func16 rfl (by kernel_rfl) (by kernel_rfl) (M := EG σ m_Parking_A m_Parking_n m_Parking_c m_Roads_A m_Roads_n m_Roads_c l_A l_n l_c R) (by kernel_rfl) h
theorem Hx : Aw Try.prog 16 = true := by kernel_rfl
abbrev J2 : FuncId := 17
def JU (σ : Hp) (l_Height : Int) (l_Weight : Int) (l_From : Int) (l_Ready : Int) (l_Drive : Int) (l_Rest : Int) (R : Value → Hp → Prop) : Prop :=
  exl 27 [.int .i64, .int .i64, .int .i64, .int .i64, .int .i64, .int .i64] ([(l_Height, l_Weight, l_From, l_Ready, l_Drive, l_Rest)] : List (Int × Int × Int × Int × Int × Int)) σ (fun A1 l1 c1 σ2 => 
    rt σ2 R (.slice A1 l1 c1))
def KZ : MAn := (.seq (.txt []) (.seq (.txt []) .leaf))
set_option maxRecDepth 100000 in
theorem KW (σ : Hp) (l_Height : Int) (l_Weight : Int) (l_From : Int) (l_Ready : Int) (l_Drive : Int) (l_Rest : Int) (R : Value → Hp → Prop) (h : JU σ l_Height l_Weight l_From l_Ready l_Drive l_Rest R) : Ah Try.prog 17 #[(.agg #[(.int .i64 l_Height), (.int .i64 l_Weight), (.int .i64 l_From), (.int .i64 l_Ready), (.int .i64 l_Drive), (.int .i64 l_Rest)])] σ R :=
  Aj Dn KZ Try.func17 rfl (by kernel_rfl) (by kernel_rfl) (M := JU σ l_Height l_Weight l_From l_Ready l_Drive l_Rest R) (by kernel_rfl) h
theorem Ir : Aw Try.prog 17 = true := by kernel_rfl
abbrev Jz : FuncId := 32
def C7 (σ : Hp) (a_A : Option Addr) (a_n : Nat) (_ : Nat) (b_A : Option Addr) (b_n : Nat) (_ : Nat) (R : Value → Hp → Prop) : Prop :=
  bc (!decide (((a_n : Nat) : Int) = ((b_n : Nat) : Int))) (rt σ R (.bool false)) (cut (α := Hp → Prop) (fun  σ2 => 
    ∀ _ : Nat → Value, rt σ2 R (.bool true)) (fun J3 => ∃ I6 : Nat → Int → Hp → Prop, (∃ n70, I6 n70 0 σ) ∧ 
    ∀ n7 : Nat, ∀ n8 : Int, ∀ σ5 : Hp, I6 n7 n8 σ5 → ∀ _ : Nat → Value, bc (decide (n8 < ((a_n : Nat) : Int))) (ix a_A a_n n8 1 (fun b9 a10 => 
    ldI σ5 .i64 b9 a10 (fun n11 => ix b_A b_n n8 1 (fun b12 a13 => ldI σ5 .i64 b12 a13 (fun n14 => bc (!decide (n11 = n14)) (rt σ5 R (.bool false)) (wk .i64 (n8 + 1) (fun n15 => 
    bk σ5 n7 (fun m16 σ17 => I6 m16 n15 σ17)))))))) (J3 σ5)))
def AK : OA := ⟨[], false, []⟩
def Hl : MAn := (.seq (.txt []) (.seq (.seq (.txt []) (.cond (.seq (.txt []) .leaf) .leaf)) (.cut ⟨[], 0, [], []⟩ (.seq (.txt []) (.block (.loop ⟨[], 0, [.slot 5 (.sc (.int .i64))], [(0, true), (1, true)]⟩ (.seq (.seq (.txt []) (.cond .leaf .leaf)) (.seq (.block (.seq (.plan [] (.take 0 AK (.take 1 AK (.take 2 AK (.take 3 AK (.take 4 AK (.take 5 AK (.take 6 AK (.take 7 AK (.take 8 AK .done)))))))))) (.cond (.seq (.txt []) .leaf) .leaf))) (.txt [])))))) (.seq (.txt []) .leaf))))
set_option maxRecDepth 100000 in
theorem Hn (σ : Hp) (a_A : Option Addr) (a_n : Nat) (a_c : Nat) (b_A : Option Addr) (b_n : Nat) (b_c : Nat) (R : Value → Hp → Prop) (h : C7 σ a_A a_n a_c b_A b_n b_c R) : Ah Try.prog 32 #[(.slice a_A a_n a_c), (.slice b_A b_n b_c)] σ R :=
  Aj Dn Hl Try.func32 rfl (by kernel_rfl) (by kernel_rfl) (M := C7 σ a_A a_n a_c b_A b_n b_c R) (by kernel_rfl) h
theorem FM : Aw Try.prog 32 = true := by kernel_rfl
abbrev IU : FuncId := 34
def FA (σ : Hp) (j_A : Option Addr) (j_n : Nat) (_ : Nat) (R : Value → Hp → Prop) : Prop :=
  ∃ ys1 : List (Int × Int), RdS [.int .i64, .int .i64] σ j_A j_n ys1 ∧ Bx (List.length ([] : List (Int × Int)) + List.length ys1) (exl 60 [.int .i64, .int .i64] (([] : List (Int × Int)) ++ ys1) σ (fun A2 l2 c2 σ3 => 
    rt σ3 R (.slice A2 l2 c2)))
def Kp : MAn := (.seq (.txt []) (.seq (.txt []) .leaf))
set_option maxRecDepth 100000 in
theorem Kj (σ : Hp) (j_A : Option Addr) (j_n : Nat) (j_c : Nat) (R : Value → Hp → Prop) (h : FA σ j_A j_n j_c R) : Ah Try.prog 34 #[(.slice j_A j_n j_c)] σ R :=
  Aj Dn Kp Try.func34 rfl (by kernel_rfl) (by kernel_rfl) (M := FA σ j_A j_n j_c R) (by kernel_rfl) h
theorem Ie : Aw Try.prog 34 = true := by kernel_rfl
abbrev BU : FuncId := 13
def BO (σ : Hp) (a0_Parking_A : Option Addr) (a0_Parking_n : Nat) (a0_Parking_c : Nat) (a0_Roads_A : Option Addr) (a0_Roads_n : Nat) (a0_Roads_c : Nat) (a1_Height : Int) (a1_Weight : Int) (a1_From : Int) (a1_Ready : Int) (a1_Drive : Int) (a1_Rest : Int) (a2_To : Int) (a2_Legs_A : Option Addr) (a2_Legs_n : Nat) (a2_Legs_c : Nat) (R : Value → Hp → Prop) : Prop :=
  cut (α := Hp → Prop) (fun  σ2 => ∀ _ : Nat → Value, cl Try.prog (.func (.func 20) #[] #[]) #[(.agg #[(.slice a0_Parking_A a0_Parking_n a0_Parking_c), (.slice a0_Roads_A a0_Roads_n a0_Roads_c)])] σ2 (fun v4 σ5 => 
    ∃ A6 : Option Addr, ∃ l6 : Nat, ∃ c6 : Nat, ∃ A7 : Option Addr, ∃ l7 : Nat, ∃ c7 : Nat, (v4 = (.agg #[(.slice A6 l6 c6), (.slice A7 l7 c7)]) ∧ 
    cl Try.prog (.func (.func 43) #[] #[]) #[(.agg #[(.slice A6 l6 c6), (.slice A7 l7 c7)]), (.agg #[(.int .i64 a1_Height), (.int .i64 a1_Weight), (.int .i64 a1_From), (.int .i64 a1_Ready), (.int .i64 a1_Drive), (.int .i64 a1_Rest)]), (.int .i64 a2_To)] σ5 (fun v8 σ9 => 
    ∃ A10 : Option Addr, ∃ l10 : Nat, ∃ c10 : Nat, ∃ n11 : Int, (v8 = (.tuple #[(.slice A10 l10 c10), (.int .i64 n11)]) ∧ 
    cl Try.prog (.func (.func 44) #[] #[]) #[(.agg #[(.slice a0_Parking_A a0_Parking_n a0_Parking_c), (.slice a0_Roads_A a0_Roads_n a0_Roads_c)]), (.agg #[(.int .i64 a1_Height), (.int .i64 a1_Weight), (.int .i64 a1_From), (.int .i64 a1_Ready), (.int .i64 a1_Drive), (.int .i64 a1_Rest)]), (.int .i64 a2_To)] σ9 (fun v12 σ13 => 
    ∃ A14 : Option Addr, ∃ l14 : Nat, ∃ c14 : Nat, ∃ n15 : Int, (v12 = (.tuple #[(.slice A14 l14 c14), (.int .i64 n15)]) ∧ 
    cut (α := Hp → Prop) (fun  σ17 => ∀ _ : Nat → Value, cl Try.prog (.func (.func 34) #[] #[]) #[(.slice a2_Legs_A a2_Legs_n a2_Legs_c)] σ17 (fun v19 σ20 => 
    ∃ A21 : Option Addr, ∃ l21 : Nat, ∃ c21 : Nat, (v19 = (.slice A21 l21 c21) ∧ (Hp.Sub σ17 σ20 ∧ cl Try.prog (.func (.func 33) #[] #[]) #[(.agg #[(.slice A6 l6 c6), (.slice A7 l7 c7)]), (.agg #[(.int .i64 a1_Height), (.int .i64 a1_Weight), (.int .i64 a1_From), (.int .i64 a1_Ready), (.int .i64 a1_Drive), (.int .i64 a1_Rest)]), (.slice A21 l21 c21)] σ20 (fun v22 σ23 => 
    ∃ n24 : Int, ∃ n25 : Int, ∃ n26 : Int, ∃ n27 : Int, (v22 = (.tuple #[(.int .i64 n24), (.int .i64 n25), (.int .i64 n26), (.int .i64 n27)]) ∧ 
    cut (α := Hp → Prop) (fun  σ29 => ∀ _ : Nat → Value, bc (!decide (n11 = 0)) (rt σ29 R (.bool false)) (cut (α := Hp → Prop) (fun  σ32 => 
    ∀ _ : Nat → Value, cl Try.prog (.func (.func 18) #[] #[]) #[] σ32 (fun v34 σ35 => ∃ t36 : Bool, (v34 = (.bool t36) ∧ 
    rt σ35 R (.bool t36)))) (fun J33 => ∃ I39 : Nat → Int → Hp → Prop, (∃ n400, I39 n400 0 σ29) ∧ ∀ n40 : Nat, ∀ n41 : Int, ∀ σ38 : Hp, I39 n40 n41 σ38 → ∀ _ : Nat → Value, bc (decide (n41 < ((l10 : Nat) : Int))) (cut (α := Hp → Prop) (fun  σ43 => 
    ∀ _ : Nat → Value, wk .i64 (n41 + 1) (fun n45 => bk σ43 n40 (fun m46 σ47 => I39 m46 n45 σ47))) (fun J44 => 
    cut (α := Bool → Hp → Prop) (fun t51 σ49 => ∀ _ : Nat → Value, bc (!t51) (rt σ49 R (.bool false)) (J44 σ49)) (fun J50 => 
    ∃ I54 : Nat → Bool → Int → Hp → Prop, (∃ n550, I54 n550 false 0 σ38) ∧ ∀ n55 : Nat, ∀ t56 : Bool, ∀ n57 : Int, ∀ σ53 : Hp, I54 n55 t56 n57 σ53 → ∀ _ : Nat → Value, bc (decide (n57 < ((a2_Legs_n : Nat) : Int))) (cut (α := Bool → Hp → Prop) (fun t61 σ59 => 
    ∀ _ : Nat → Value, wk .i64 (n57 + 1) (fun n62 => bk σ59 n55 (fun m63 σ64 => I54 m63 t61 n62 σ64))) (fun J60 => 
    bc t56 (J60 true σ53) (ix a2_Legs_A a2_Legs_n n57 2 (fun b65 a66 => ldI σ53 .i64 b65 a66 (fun n67 => 
    ix A10 l10 n41 1 (fun b68 a69 => ldI σ53 .i64 b68 a69 (fun n70 => J60 (decide (n67 = n70)) σ53))))))) (J50 t56 σ53)))) (J33 σ38)))) (fun J30 => 
    cut (α := Bool → Hp → Prop) (fun t74 σ72 => ∀ _ : Nat → Value, bc t74 (cl Try.prog (.func (.func 18) #[] #[]) #[] σ72 (fun v75 σ76 => 
    ∃ t77 : Bool, (v75 = (.bool t77) ∧ rt σ76 R (.bool t77)))) (J30 σ72)) (fun J73 => bc (!decide (n27 = 0)) (J73 true σ23) (J73 (!decide (n24 = a2_To)) σ23))))))))) (fun J18 => 
    cut (α := Bool → Hp → Prop) (fun t81 σ79 => ∀ _ : Nat → Value, bc t81 (rt σ79 R (.bool false)) (J18 σ79)) (fun J80 => 
    cl Try.prog (.func (.func 32) #[] #[]) #[(.slice A10 l10 c10), (.slice A14 l14 c14)] σ13 (fun v82 σ83 => 
    ∃ t84 : Bool, (v82 = (.bool t84) ∧ bc (!t84) (J80 true σ83) (J80 (!decide (n11 = n15)) σ83)))))))))))) (fun J3 => 
    cut (α := Bool → Hp → Prop) (fun t88 σ86 => ∀ _ : Nat → Value, bc t88 (cl Try.prog (.func (.func 18) #[] #[]) #[] σ86 (fun v89 σ90 => 
    ∃ t91 : Bool, (v89 = (.bool t91) ∧ rt σ90 R (.bool t91)))) (J3 σ86)) (fun J87 => cl Try.prog (.func (.func 17) #[] #[]) #[(.agg #[(.int .i64 a1_Height), (.int .i64 a1_Weight), (.int .i64 a1_From), (.int .i64 a1_Ready), (.int .i64 a1_Drive), (.int .i64 a1_Rest)])] σ (fun v92 σ93 => 
    ∃ A94 : Option Addr, ∃ l94 : Nat, ∃ c94 : Nat, (v92 = (.slice A94 l94 c94) ∧ (Hp.Sub σ σ93 ∧ cl Try.prog (.func (.func 16) #[] #[]) #[(.agg #[(.slice a0_Parking_A a0_Parking_n a0_Parking_c), (.slice a0_Roads_A a0_Roads_n a0_Roads_c)]), (.slice A94 l94 c94)] σ93 (fun v95 σ96 => 
    ∃ t97 : Bool, (v95 = (.bool t97) ∧ bc t97 (J87 true σ96) (J87 (decide ((80 : Int) < ((a2_Legs_n : Nat) : Int))) σ96))))))))
def Ab : OA := ⟨[], false, []⟩
def Cj : MPlan := (.take 5 Ab (.take 6 Ab (.take 7 Ab (.take 8 Ab (.take 9 Ab (.take 10 Ab (.take 11 Ab (.take 12 Ab (.take 13 Ab .done)))))))))
def Ej : MAn := (.seq (.txt []) (.seq (.plan [] (.take 0 Ab (.take 1 Ab (.take 2 Ab (.take 3 Ab (.take 4 Ab (.take 5 Ab .done))))))) (.cut ⟨[true, true, true], 3, [.slot 3 (.hb 0 0), .slot 4 (.hb 1 0)], [(7, true), (8, true)]⟩ (.cut ⟨[true, true, true], 3, [.slot 3 (.hb 0 0), .slot 4 (.hb 1 0), .slot 33 (.sc (.bool))], [(7, true), (8, true)]⟩ (.plan [3] (.take 0 Ab (.take 1 Ab (.alt 2 true Ab (.alt 3 false Ab (.take 4 ⟨[], true, []⟩ (.take 5 Ab (.take 6 Ab (.take 7 Ab (.take 8 Ab .done))))) .done) .done)))) (.cond (.seq (.txt []) .leaf) .leaf)) (.seq (.txt []) (.seq (.txt []) (.seq (.txt []) (.cut ⟨[true, true, true, true], 4, [.slot 4 (.hb 1 0), .slot 9 (.hb 3 0)], [(7, true), (8, true), (10, true), (11, true)]⟩ (.cut ⟨[true, true, true, true], 4, [.slot 4 (.hb 1 0), .slot 9 (.hb 3 0), .slot 59 (.sc (.bool))], [(7, true), (8, true), (10, true), (11, true)]⟩ (.txt [Ab, Ab, Ab, Ab, ⟨[], true, []⟩]) (.cond (.seq (.txt []) .leaf) .leaf)) (.seq (.plan [4] (.take 0 Ab (.take 1 Ab (.take 2 Ab (.alt 3 true Ab (.alt 4 false Ab Cj .done) .done))))) (.cut ⟨[true, true, true, true], 4, [], [(8, true), (10, true), (11, true)]⟩ (.cut ⟨[true, true, true, true], 4, [.slot 76 (.sc (.bool))], [(8, true), (10, true), (11, true)]⟩ (.txt [Ab, Ab, ⟨[], true, []⟩]) (.cond (.seq (.txt []) .leaf) .leaf)) (.seq (.seq (.txt []) (.cond (.seq (.txt []) .leaf) .leaf)) (.cut ⟨[true, true, true, true], 4, [], []⟩ (.seq (.txt []) (.block (.loop ⟨[true, true, true, true], 4, [.slot 18 (.sc (.int .i64))], [(8, true), (10, true)]⟩ (.seq (.seq (.txt []) (.cond .leaf .leaf)) (.cut ⟨[true, true, true, true], 4, [], [(8, true), (10, true), (18, true)]⟩ (.block (.seq (.txt []) (.cut ⟨[true, true, true, true], 4, [.slot 19 (.sc (.bool))], [(8, true), (10, true), (18, true)]⟩ (.seq (.txt []) (.block (.loop ⟨[true, true, true, true], 4, [.slot 19 (.sc (.bool)), .slot 20 (.sc (.int .i64))], [(8, true), (10, true), (18, true)]⟩ (.seq (.seq (.txt []) (.cond .leaf .leaf)) (.cut ⟨[true, true, true, true], 4, [.slot 19 (.sc (.bool))], [(8, true), (10, true), (18, true), (20, true)]⟩ (.block (.plan [] (.take 0 Ab (.take 1 ⟨[], true, []⟩ (.take 2 Ab (.take 3 Ab (.take 4 Ab Cj))))))) (.txt [])))))) (.seq (.txt []) (.cond (.seq (.txt []) .leaf) .leaf))))) (.txt [])))))) (.seq (.txt []) .leaf))))))))))))
set_option maxRecDepth 100000 in
theorem Ek (σ : Hp) (a0_Parking_A : Option Addr) (a0_Parking_n : Nat) (a0_Parking_c : Nat) (a0_Roads_A : Option Addr) (a0_Roads_n : Nat) (a0_Roads_c : Nat) (a1_Height : Int) (a1_Weight : Int) (a1_From : Int) (a1_Ready : Int) (a1_Drive : Int) (a1_Rest : Int) (a2_To : Int) (a2_Legs_A : Option Addr) (a2_Legs_n : Nat) (a2_Legs_c : Nat) (R : Value → Hp → Prop) (h : BO σ a0_Parking_A a0_Parking_n a0_Parking_c a0_Roads_A a0_Roads_n a0_Roads_c a1_Height a1_Weight a1_From a1_Ready a1_Drive a1_Rest a2_To a2_Legs_A a2_Legs_n a2_Legs_c R) : Ah Try.prog 13 #[(.agg #[(.slice a0_Parking_A a0_Parking_n a0_Parking_c), (.slice a0_Roads_A a0_Roads_n a0_Roads_c)]), (.agg #[(.int .i64 a1_Height), (.int .i64 a1_Weight), (.int .i64 a1_From), (.int .i64 a1_Ready), (.int .i64 a1_Drive), (.int .i64 a1_Rest)]), (.agg #[(.int .i64 a2_To), (.slice a2_Legs_A a2_Legs_n a2_Legs_c)])] σ R :=
  Aj Dn Ej Try.func13 rfl (by kernel_rfl) (by kernel_rfl) (M := BO σ a0_Parking_A a0_Parking_n a0_Parking_c a0_Roads_A a0_Roads_n a0_Roads_c a1_Height a1_Weight a1_From a1_Ready a1_Drive a1_Rest a2_To a2_Legs_A a2_Legs_n a2_Legs_c R) (by kernel_rfl) h
end Go.Proofs.Ytkdjkkimngeloaa
