/- Trimmed by wip/trim.py to what this claim rests on. -/
import Derived.Test.YtkdjkkimngeloaaYB11
namespace Go.Proofs.Ytkdjkkimngeloaa
open Go.RowKit
theorem Du : Try.prog.follows .mixedOrders = true := by kernel_rfl
abbrev H3 : FuncId := 49
def EY (σ : Hp) (R : Value → Hp → Prop) : Prop :=
  exl 4 [.bool] ([false, true, false, false] : List Bool) σ (fun A1 l1 c1 σ2 => exl 51 [.int .i64, .int .i64, .int .i64, .int .i64, .int .i64] ([(0, 1, 10, 40, 90), (1, 2, 10, 30, 90), (0, 2, 40, 50, 90), (2, 3, 5, 50, 20)] : List (Int × Int × Int × Int × Int)) σ2 (fun A3 l3 c3 σ4 => 
    rt σ4 R (.tuple #[(.agg #[(.slice A1 l1 c1), (.slice A3 l3 c3)]), (.agg #[(.int .i64 25), (.int .i64 20), (.int .i64 0), (.int .i64 0), (.int .i64 15), (.int .i64 5)])])))
def Gs : MAn := (.seq (.txt []) (.seq (.txt []) (.seq (.txt []) .leaf)))
set_option maxRecDepth 100000 in
theorem Ge (σ : Hp) (R : Value → Hp → Prop) (h : EY σ  R) : Ad Try.prog 49 #[] σ R :=
  Ak Du Gs Try.func49 rfl (by kernel_rfl) (by kernel_rfl) (M := EY σ  R) (by kernel_rfl) h
theorem E6 : As Try.prog 49 = true := by kernel_rfl
abbrev F4 : FuncId := 18
def DZ (σ : Hp) (R : Value → Hp → Prop) : Prop :=
  cl Try.prog (.func (.func 49) #[] #[]) #[] σ (fun v1 σ2 => ∃ A3 : Option Addr, ∃ l3 : Nat, ∃ c3 : Nat, ∃ A4 : Option Addr, ∃ l4 : Nat, ∃ c4 : Nat, ∃ n5 : Int, ∃ n6 : Int, ∃ n7 : Int, ∃ n8 : Int, ∃ n9 : Int, ∃ n10 : Int, (v1 = (.tuple #[(.agg #[(.slice A3 l3 c3), (.slice A4 l4 c4)]), (.agg #[(.int .i64 n5), (.int .i64 n6), (.int .i64 n7), (.int .i64 n8), (.int .i64 n9), (.int .i64 n10)])]) ∧ 
    cl Try.prog (.func (.func 19) #[] #[]) #[(.agg #[(.slice A3 l3 c3), (.slice A4 l4 c4)]), (.agg #[(.int .i64 n5), (.int .i64 n6), (.int .i64 n7), (.int .i64 n8), (.int .i64 n9), (.int .i64 n10)]), (.int .i64 2)] σ2 (fun v11 σ12 => 
    ∃ A13 : Option Addr, ∃ l13 : Nat, ∃ c13 : Nat, ∃ n14 : Int, (v11 = (.tuple #[(.slice A13 l13 c13), (.int .i64 n14)]) ∧ 
    cl Try.prog (.func (.func 23) #[] #[]) #[(.agg #[(.slice A3 l3 c3), (.slice A4 l4 c4)]), (.agg #[(.int .i64 n5), (.int .i64 n6), (.int .i64 n7), (.int .i64 n8), (.int .i64 n9), (.int .i64 n10)]), (.int .i64 2)] σ12 (fun v15 σ16 => 
    ∃ n17 : Int, ∃ n18 : Int, (v15 = (.tuple #[(.int .i64 n17), (.int .i64 n18)]) ∧ bc (decide (n14 = 0)) (bc (decide (n18 = 0)) (bc (decide (n17 = 30)) (bc (decide (((l13 : Nat) : Int) = 2)) (ix A13 l13 1 2 (fun b19 a20 => 
    ldI σ16 .i64 b19 a20 (fun n21 => ldI σ16 .i64 b19 (a20 + 1) (fun n22 => rt σ16 R (.bool (decide (n21 = 1) && decide (n22 = 15))))))) (rt σ16 R (.bool false))) (rt σ16 R (.bool false))) (rt σ16 R (.bool false))) (rt σ16 R (.bool false))))))))
def Ay : OA := ⟨[], false, []⟩
def Hi : MAn := (.seq (.txt []) (.seq (.txt []) (.seq (.txt []) (.seq (.txt []) (.seq (.txt [Ay, Ay, ⟨[], true, []⟩, Ay, Ay, Ay, ⟨[], true, []⟩, Ay, Ay, Ay, ⟨[], true, []⟩, Ay, Ay, Ay, Ay, ⟨[], true, []⟩]) .leaf)))))
set_option maxRecDepth 100000 in
theorem HG (σ : Hp) (R : Value → Hp → Prop) (h : DZ σ  R) : Ad Try.prog 18 #[] σ R :=
  Ak Du Hi Try.func18 rfl (by kernel_rfl) (by kernel_rfl) (M := DZ σ  R) (by kernel_rfl) h
theorem FS : As Try.prog 18 = true := by kernel_rfl
abbrev KP : FuncId := 25
def Ff (σ : Hp) (_ : Option Addr) (m_Parking_n : Nat) (_ : Nat) (_ : Option Addr) (m_Roads_n : Nat) (_ : Nat) (R : Value → Hp → Prop) : Prop :=
  bc (decide ((20 : Int) < ((m_Parking_n : Nat) : Int))) (rt σ R (.bool true)) (rt σ R (.bool (decide ((40 : Int) < ((m_Roads_n : Nat) : Int)))))
def IT : MAn := (.seq (.txt []) (.seq (.txt [⟨[], false, []⟩, ⟨[], false, []⟩, ⟨[], false, []⟩, ⟨[], false, []⟩, ⟨[], true, []⟩]) .leaf))
set_option maxRecDepth 100000 in
theorem Iy (σ : Hp) (m_Parking_A : Option Addr) (m_Parking_n : Nat) (m_Parking_c : Nat) (m_Roads_A : Option Addr) (m_Roads_n : Nat) (m_Roads_c : Nat) (R : Value → Hp → Prop) (h : Ff σ m_Parking_A m_Parking_n m_Parking_c m_Roads_A m_Roads_n m_Roads_c R) : Ad Try.prog 25 #[(.agg #[(.slice m_Parking_A m_Parking_n m_Parking_c), (.slice m_Roads_A m_Roads_n m_Roads_c)])] σ R :=
  Ak Du IT Try.func25 rfl (by kernel_rfl) (by kernel_rfl) (M := Ff σ m_Parking_A m_Parking_n m_Parking_c m_Roads_A m_Roads_n m_Roads_c R) (by kernel_rfl) h
theorem GJ : As Try.prog 25 = true := by kernel_rfl
abbrev F2 : FuncId := 16
def D3 (σ : Hp) (m_Parking_A : Option Addr) (m_Parking_n : Nat) (m_Parking_c : Nat) (m_Roads_A : Option Addr) (m_Roads_n : Nat) (m_Roads_c : Nat) (l_A : Option Addr) (l_n : Nat) (_ : Nat) (R : Value → Hp → Prop) : Prop :=
  cut (α := Hp → Prop) (fun  σ2 => ∀ _ : Nat → Value, cut (α := Hp → Prop) (fun  σ5 => ∀ _ : Nat → Value, 
    rt σ5 R (.bool false)) (fun J6 => ∃ I9 : Nat → Int → Hp → Prop, (∃ n100, I9 n100 0 σ2) ∧ ∀ n10 : Nat, ∀ n11 : Int, ∀ σ8 : Hp, I9 n10 n11 σ8 → ∀ _ : Nat → Value, bc (decide (n11 < ((l_n : Nat) : Int))) (cut (α := Hp → Prop) (fun  σ13 => 
    ∀ _ : Nat → Value, wk .i64 (n11 + 1) (fun n15 => bk σ13 n10 (fun m16 σ17 => I9 m16 n15 σ17))) (fun J14 => 
    cut (α := Bool → Hp → Prop) (fun t21 σ19 => ∀ _ : Nat → Value, bc t21 (rt σ19 R (.bool true)) (J14 σ19)) (fun J20 => 
    ix l_A l_n n11 6 (fun b22 a23 => ldI σ8 .i64 b22 (a23 + 4) (fun n24 => bc (decide ((60 : Int) < n24)) (ix l_A l_n n11 6 (fun b25 a26 => 
    ldI σ8 .i64 b25 (a26 + 4) (fun n27 => J20 (decide (n27 ≤ 500)) σ8))) (J20 false σ8)))))) (J6 σ8))) (fun J3 => 
    cut (α := Bool → Hp → Prop) (fun t31 σ29 => ∀ _ : Nat → Value, bc t31 (rt σ29 R (.bool true)) (J3 σ29)) (fun J30 => 
    cl Try.prog (.func (.func 25) #[] #[]) #[(.agg #[(.slice m_Parking_A m_Parking_n m_Parking_c), (.slice m_Roads_A m_Roads_n m_Roads_c)])] σ (fun v32 σ33 => 
    ∃ t34 : Bool, (v32 = (.bool t34) ∧ bc t34 (J30 true σ33) (bc (decide ((5 : Int) < ((m_Parking_n : Nat) : Int))) (J30 true σ33) (bc (decide ((8 : Int) < ((m_Roads_n : Nat) : Int))) (J30 true σ33) (J30 (decide ((12 : Int) < ((l_n : Nat) : Int))) σ33)))))))
def Ar : OA := ⟨[], false, []⟩
def Hj : MAn := (.seq (.txt []) (.cut ⟨[true], 1, [], [(1, true)]⟩ (.cut ⟨[true], 1, [.slot 24 (.sc (.bool))], [(1, true)]⟩ (.txt [Ar, Ar, ⟨[], true, []⟩, Ar, Ar, Ar, Ar, Ar, ⟨[], true, []⟩, Ar, Ar, Ar, Ar, Ar, ⟨[], true, []⟩]) (.cond (.seq (.txt []) .leaf) .leaf)) (.cut ⟨[true], 1, [], []⟩ (.seq (.txt []) (.block (.loop ⟨[true], 1, [.slot 5 (.sc (.int .i64))], [(1, true)]⟩ (.seq (.seq (.txt []) (.cond .leaf .leaf)) (.cut ⟨[true], 1, [], [(1, true), (5, true)]⟩ (.block (.cut ⟨[true], 1, [.slot 44 (.sc (.bool))], [(1, true), (5, true)]⟩ (.txt [Ar, Ar, Ar, Ar, Ar, Ar, ⟨[], true, []⟩]) (.cond (.seq (.txt []) .leaf) .leaf))) (.txt [])))))) (.seq (.txt []) .leaf))))
set_option maxRecDepth 100000 in
theorem Hg (σ : Hp) (m_Parking_A : Option Addr) (m_Parking_n : Nat) (m_Parking_c : Nat) (m_Roads_A : Option Addr) (m_Roads_n : Nat) (m_Roads_c : Nat) (l_A : Option Addr) (l_n : Nat) (l_c : Nat) (R : Value → Hp → Prop) (h : D3 σ m_Parking_A m_Parking_n m_Parking_c m_Roads_A m_Roads_n m_Roads_c l_A l_n l_c R) : Ad Try.prog 16 #[(.agg #[(.slice m_Parking_A m_Parking_n m_Parking_c), (.slice m_Roads_A m_Roads_n m_Roads_c)]), (.slice l_A l_n l_c)] σ R :=
  Ak Du Hj Try.func16 rfl (by kernel_rfl) (by kernel_rfl) (M := D3 σ m_Parking_A m_Parking_n m_Parking_c m_Roads_A m_Roads_n m_Roads_c l_A l_n l_c R) (by kernel_rfl) h
theorem F1 : As Try.prog 16 = true := by kernel_rfl
abbrev HV : FuncId := 17
def HL (σ : Hp) (l_Height : Int) (l_Weight : Int) (l_From : Int) (l_Ready : Int) (l_Drive : Int) (l_Rest : Int) (R : Value → Hp → Prop) : Prop :=
  exl 27 [.int .i64, .int .i64, .int .i64, .int .i64, .int .i64, .int .i64] ([(l_Height, l_Weight, l_From, l_Ready, l_Drive, l_Rest)] : List (Int × Int × Int × Int × Int × Int)) σ (fun A1 l1 c1 σ2 => 
    rt σ2 R (.slice A1 l1 c1))
def IN : MAn := (.seq (.txt []) (.seq (.txt []) .leaf))
set_option maxRecDepth 100000 in
theorem Ix (σ : Hp) (l_Height : Int) (l_Weight : Int) (l_From : Int) (l_Ready : Int) (l_Drive : Int) (l_Rest : Int) (R : Value → Hp → Prop) (h : HL σ l_Height l_Weight l_From l_Ready l_Drive l_Rest R) : Ad Try.prog 17 #[(.agg #[(.int .i64 l_Height), (.int .i64 l_Weight), (.int .i64 l_From), (.int .i64 l_Ready), (.int .i64 l_Drive), (.int .i64 l_Rest)])] σ R :=
  Ak Du IN Try.func17 rfl (by kernel_rfl) (by kernel_rfl) (M := HL σ l_Height l_Weight l_From l_Ready l_Drive l_Rest R) (by kernel_rfl) h
theorem GA : As Try.prog 17 = true := by kernel_rfl
abbrev J0 : FuncId := 34
def EG (σ : Hp) (j_A : Option Addr) (j_n : Nat) (_ : Nat) (R : Value → Hp → Prop) : Prop :=
  ∃ ys1 : List (Int × Int), RdS [.int .i64, .int .i64] σ j_A j_n ys1 ∧ CJ (List.length ([] : List (Int × Int)) + List.length ys1) (exl 60 [.int .i64, .int .i64] (([] : List (Int × Int)) ++ ys1) σ (fun A2 l2 c2 σ3 => 
    rt σ3 R (.slice A2 l2 c2)))
def H4 : MAn := (.seq (.txt []) (.seq (.txt []) .leaf))
set_option maxRecDepth 100000 in
theorem H7 (σ : Hp) (j_A : Option Addr) (j_n : Nat) (j_c : Nat) (R : Value → Hp → Prop) (h : EG σ j_A j_n j_c R) : Ad Try.prog 34 #[(.slice j_A j_n j_c)] σ R :=
  Ak Du H4 Try.func34 rfl (by kernel_rfl) (by kernel_rfl) (M := EG σ j_A j_n j_c R) (by kernel_rfl) h
abbrev Ca : FuncId := 7
def B8 (σ : Hp) (a0_Parking_A : Option Addr) (a0_Parking_n : Nat) (a0_Parking_c : Nat) (a0_Roads_A : Option Addr) (a0_Roads_n : Nat) (a0_Roads_c : Nat) (a1_Height : Int) (a1_Weight : Int) (a1_From : Int) (a1_Ready : Int) (a1_Drive : Int) (a1_Rest : Int) (a2_Town : Int) (a2_Road : Int) (a2_By : Int) (a2_New_A : Int) (a2_New_B : Int) (a2_New_Length : Int) (a2_New_Height : Int) (a2_New_Weight : Int) (R : Value → Hp → Prop) : Prop :=
  cl Try.prog (.func (.func 17) #[] #[]) #[(.agg #[(.int .i64 a1_Height), (.int .i64 a1_Weight), (.int .i64 a1_From), (.int .i64 a1_Ready), (.int .i64 a1_Drive), (.int .i64 a1_Rest)])] σ (fun v1 σ2 => 
    ∃ A3 : Option Addr, ∃ l3 : Nat, ∃ c3 : Nat, (v1 = (.slice A3 l3 c3) ∧ (Hp.Sub σ σ2 ∧ cl Try.prog (.func (.func 16) #[] #[]) #[(.agg #[(.slice a0_Parking_A a0_Parking_n a0_Parking_c), (.slice a0_Roads_A a0_Roads_n a0_Roads_c)]), (.slice A3 l3 c3)] σ2 (fun v4 σ5 => 
    ∃ t6 : Bool, (v4 = (.bool t6) ∧ bc t6 (cl Try.prog (.func (.func 18) #[] #[]) #[] σ5 (fun v7 σ8 => ∃ t9 : Bool, (v7 = (.bool t9) ∧ 
    rt σ8 R (.bool t9)))) (cl Try.prog (.func (.func 20) #[] #[]) #[(.agg #[(.slice a0_Parking_A a0_Parking_n a0_Parking_c), (.slice a0_Roads_A a0_Roads_n a0_Roads_c)])] σ5 (fun v10 σ11 => 
    ∃ A12 : Option Addr, ∃ l12 : Nat, ∃ c12 : Nat, ∃ A13 : Option Addr, ∃ l13 : Nat, ∃ c13 : Nat, (v10 = (.agg #[(.slice A12 l12 c12), (.slice A13 l13 c13)]) ∧ 
    (Hp.Sub σ5 σ11 ∧ cl Try.prog (.func (.func 30) #[] #[]) #[(.agg #[(.slice A12 l12 c12), (.slice A13 l13 c13)]), (.agg #[(.int .i64 a1_Height), (.int .i64 a1_Weight), (.int .i64 a1_From), (.int .i64 a1_Ready), (.int .i64 a1_Drive), (.int .i64 a1_Rest)])] σ11 (fun v14 σ15 => 
    ∃ A16 : Option Addr, ∃ l16 : Nat, ∃ c16 : Nat, ∃ n17 : Int, (v14 = (.tuple #[(.slice A16 l16 c16), (.int .i64 n17)]) ∧ 
    cl Try.prog (.func (.func 20) #[] #[]) #[(.agg #[(.slice a0_Parking_A a0_Parking_n a0_Parking_c), (.slice a0_Roads_A a0_Roads_n a0_Roads_c)])] σ15 (fun v18 σ19 => 
    ∃ A20 : Option Addr, ∃ l20 : Nat, ∃ c20 : Nat, ∃ A21 : Option Addr, ∃ l21 : Nat, ∃ c21 : Nat, (v18 = (.agg #[(.slice A20 l20 c20), (.slice A21 l21 c21)]) ∧ 
    cut (α := Hp → Prop) (fun  σ23 => ∀ _ : Nat → Value, cut (α := Hp → Prop) (fun  σ26 => ∀ _ : Nat → Value, 
    adp 51 [.int .i64, .int .i64, .int .i64, .int .i64, .int .i64] A21 l21 c21 σ26 (fun (xs28 : List (Int × Int × Int × Int × Int)) σ29 => 
    CJ (List.length xs28 + List.length ([(a2_New_A, a2_New_B, a2_New_Length, a2_New_Height, a2_New_Weight)] : List (Int × Int × Int × Int × Int))) (exl 51 [.int .i64, .int .i64, .int .i64, .int .i64, .int .i64] (xs28 ++ ([(a2_New_A, a2_New_B, a2_New_Length, a2_New_Height, a2_New_Weight)] : List (Int × Int × Int × Int × Int))) σ29 (fun A30 l30 c30 σ31 => 
    cl Try.prog (.func (.func 30) #[] #[]) #[(.agg #[(.slice A20 l20 c20), (.slice A30 l30 c30)]), (.agg #[(.int .i64 a1_Height), (.int .i64 a1_Weight), (.int .i64 a1_From), (.int .i64 a1_Ready), (.int .i64 a1_Drive), (.int .i64 a1_Rest)])] σ31 (fun v32 σ33 => 
    ∃ A34 : Option Addr, ∃ l34 : Nat, ∃ c34 : Nat, ∃ n35 : Int, (v32 = (.tuple #[(.slice A34 l34 c34), (.int .i64 n35)]) ∧ 
    cut (α := Hp → Prop) (fun  σ37 => ∀ _ : Nat → Value, cut (α := Hp → Prop) (fun  σ40 => ∀ _ : Nat → Value, 
    cut (α := Hp → Prop) (fun  σ43 => ∀ _ : Nat → Value, cl Try.prog (.func (.func 18) #[] #[]) #[] σ43 (fun v45 σ46 => 
    ∃ t47 : Bool, (v45 = (.bool t47) ∧ rt σ46 R (.bool t47)))) (fun J44 => ∃ I50 : Nat → Int → Hp → Prop, (∃ n510, I50 n510 0 σ40) ∧ 
    ∀ n51 : Nat, ∀ n52 : Int, ∀ σ49 : Hp, I50 n51 n52 σ49 → ∀ _ : Nat → Value, bc (decide (n52 < ((l16 : Nat) : Int))) (cut (α := Hp → Prop) (fun  σ54 => 
    ∀ _ : Nat → Value, wk .i64 (n52 + 1) (fun n56 => bk σ54 n51 (fun m57 σ58 => I50 m57 n56 σ58))) (fun J55 => 
    cut (α := Bool → Hp → Prop) (fun t62 σ60 => ∀ _ : Nat → Value, bc t62 (rt σ60 R (.bool false)) (J55 σ60)) (fun J61 => 
    ix A16 l16 n52 1 (fun b63 a64 => ldI σ49 .i64 b63 a64 (fun n65 => bc (decide ((0 : Int) ≤ n65)) (ix A34 l34 n52 1 (fun b66 a67 => 
    ldI σ49 .i64 b66 a67 (fun n68 => bc (decide (n68 < 0)) (J61 true σ49) (ix A34 l34 n52 1 (fun b69 a70 => 
    ldI σ49 .i64 b69 a70 (fun n71 => ix A16 l16 n52 1 (fun b72 a73 => ldI σ49 .i64 b72 a73 (fun n74 => J61 (decide (n74 < n71)) σ49)))))))) (J61 false σ49)))))) (J44 σ49))) (fun J41 => 
    cut (α := Bool → Hp → Prop) (fun t78 σ76 => ∀ _ : Nat → Value, bc t78 (rt σ76 R (.bool false)) (J41 σ76)) (fun J77 => 
    bc (!decide (((l16 : Nat) : Int) = ((a0_Parking_n : Nat) : Int))) (J77 true σ37) (J77 (!decide (((l34 : Nat) : Int) = ((l16 : Nat) : Int))) σ37)))) (fun J38 => 
    cut (α := Bool → Hp → Prop) (fun t82 σ80 => ∀ _ : Nat → Value, bc t82 (cl Try.prog (.func (.func 18) #[] #[]) #[] σ80 (fun v83 σ84 => 
    ∃ t85 : Bool, (v83 = (.bool t85) ∧ rt σ84 R (.bool t85)))) (J38 σ80)) (fun J81 => bc (!decide (n17 = 0)) (J81 true σ33) (J81 (!decide (n35 = 0)) σ33))))))))) (fun J27 => 
    cut (α := Bool → Hp → Prop) (fun t89 σ87 => ∀ _ : Nat → Value, bc t89 (ix A21 l21 a2_Road 5 (fun b90 a91 => 
    ldI σ87 .i64 b90 (a91 + 3) (fun n92 => wk .i64 (n92 + a2_By) (fun n93 => ix A21 l21 a2_Road 5 (fun b94 a95 => 
    st σ87 b94 (a95 + 3) (.int .i64 n93) (fun σ96 => J27 σ96)))))) (J27 σ87)) (fun J88 => bc (decide ((0 : Int) ≤ a2_Road)) (bc (decide (a2_Road < ((l21 : Nat) : Int))) (bc (decide ((0 : Int) ≤ a2_By)) (J88 (decide (a2_By ≤ 1000)) σ23) (J88 false σ23)) (J88 false σ23)) (J88 false σ23)))) (fun J24 => 
    cut (α := Bool → Hp → Prop) (fun t100 σ98 => ∀ _ : Nat → Value, bc t100 (ix A20 l20 a2_Town 1 (fun b101 a102 => 
    st σ98 b101 a102 (.bool true) (fun σ103 => J24 σ103))) (J24 σ98)) (fun J99 => bc (decide ((0 : Int) ≤ a2_Town)) (J99 (decide (a2_Town < ((l20 : Nat) : Int))) σ19) (J99 false σ19))))))))))))))))
def Aa : OA := ⟨[], false, []⟩
def Fc : MAn := (.seq (.txt []) (.seq (.seq (.plan [3] (.take 0 Aa (.take 1 Aa (.alt 2 true Aa (.alt 3 false Aa .done .done) .done)))) (.cond (.seq (.txt []) .leaf) .leaf)) (.seq (.plan [3] (.take 0 Aa (.take 2 Aa (.alt 1 true Aa (.alt 3 false Aa (.take 4 Aa (.take 5 Aa (.take 6 Aa (.take 7 Aa (.take 8 Aa .done))))) .done) .done)))) (.seq (.txt []) (.cut ⟨[true, true, true, true], 4, [.slot 3 (.hb 0 0), .slot 4 (.hb 1 0), .slot 5 (.hb 2 0), .slot 9 (.hb 3 0)], [(7, true), (8, true)]⟩ (.cut ⟨[true, true, true, true], 4, [.slot 3 (.hb 0 0), .slot 4 (.hb 1 0), .slot 5 (.hb 2 0), .slot 9 (.hb 3 0), .slot 37 (.sc (.bool))], [(7, true), (8, true)]⟩ (.txt [Aa, Aa, Aa, ⟨[], true, []⟩]) (.cond (.txt []) .leaf)) (.cut ⟨[true, true, true, true], 4, [.slot 3 (.hb 0 0), .slot 4 (.hb 1 0), .slot 5 (.hb 2 0), .slot 9 (.hb 3 0)], [(7, true), (8, true)]⟩ (.cut ⟨[true, true, true, true], 4, [.slot 3 (.hb 0 0), .slot 4 (.hb 1 0), .slot 5 (.hb 2 0), .slot 9 (.hb 3 0), .slot 63 (.sc (.bool))], [(7, true), (8, true)]⟩ (.txt [Aa, Aa, Aa, ⟨[], true, []⟩, Aa, Aa, Aa, Aa, Aa, Aa, Aa, ⟨[], true, []⟩, Aa, Aa, Aa, Aa, ⟨[], true, []⟩]) (.cond (.plan [12] (.take 0 Aa (.take 1 Aa (.take 2 Aa (.take 3 Aa (.take 4 Aa (.take 5 Aa (.take 6 Aa (.take 7 Aa (.take 8 Aa (.take 9 Aa (.take 10 Aa (.take 11 Aa (.alt 12 false Aa .done .done)))))))))))))) .leaf)) (.seq (.txt []) (.seq (.txt []) (.cut ⟨[true, true, true, true, true, false], 6, [.slot 3 (.hb 0 0)], [(7, true), (10, true)]⟩ (.cut ⟨[true, true, true, true, true, false], 6, [.slot 3 (.hb 0 0), .slot 94 (.sc (.bool))], [(7, true), (10, true)]⟩ (.txt [Aa, Aa, ⟨[], true, []⟩]) (.cond (.seq (.txt []) .leaf) .leaf)) (.cut ⟨[true, true, true, true, true, false], 6, [], [(7, true), (10, true)]⟩ (.cut ⟨[true, true, true, true, true, false], 6, [.slot 108 (.sc (.bool))], [(7, true), (10, true)]⟩ (.txt [Aa, Aa, Aa, Aa, Aa, Aa, ⟨[], true, []⟩]) (.cond (.seq (.txt []) .leaf) .leaf)) (.cut ⟨[true, true, true, true, true, false], 6, [], []⟩ (.seq (.txt []) (.block (.loop ⟨[true, true, true, true, true, false], 6, [.slot 12 (.sc (.int .i64))], [(7, true), (10, true)]⟩ (.seq (.seq (.txt []) (.cond .leaf .leaf)) (.cut ⟨[true, true, true, true, true, false], 6, [], [(7, true), (10, true), (12, true)]⟩ (.block (.cut ⟨[true, true, true, true, true, false], 6, [.slot 137 (.sc (.bool))], [(7, true), (10, true), (12, true)]⟩ (.plan [] (.take 0 Aa (.take 1 Aa (.take 2 Aa (.take 3 Aa (.take 4 Aa (.take 5 ⟨[], true, []⟩ (.take 6 Aa (.take 7 Aa (.take 8 Aa (.take 9 Aa (.take 10 Aa (.take 11 ⟨[], true, []⟩ (.take 12 Aa (.take 13 Aa (.take 14 Aa (.take 15 Aa (.take 16 Aa (.take 17 Aa (.take 18 Aa (.take 19 Aa (.take 20 Aa (.take 21 Aa (.take 22 Aa .done)))))))))))))))))))))))) (.cond (.seq (.txt []) .leaf) .leaf))) (.txt [])))))) (.seq (.txt []) .leaf))))))))))))
set_option maxRecDepth 100000 in
theorem Fa (σ : Hp) (a0_Parking_A : Option Addr) (a0_Parking_n : Nat) (a0_Parking_c : Nat) (a0_Roads_A : Option Addr) (a0_Roads_n : Nat) (a0_Roads_c : Nat) (a1_Height : Int) (a1_Weight : Int) (a1_From : Int) (a1_Ready : Int) (a1_Drive : Int) (a1_Rest : Int) (a2_Town : Int) (a2_Road : Int) (a2_By : Int) (a2_New_A : Int) (a2_New_B : Int) (a2_New_Length : Int) (a2_New_Height : Int) (a2_New_Weight : Int) (R : Value → Hp → Prop) (h : B8 σ a0_Parking_A a0_Parking_n a0_Parking_c a0_Roads_A a0_Roads_n a0_Roads_c a1_Height a1_Weight a1_From a1_Ready a1_Drive a1_Rest a2_Town a2_Road a2_By a2_New_A a2_New_B a2_New_Length a2_New_Height a2_New_Weight R) : Ad Try.prog 7 #[(.agg #[(.slice a0_Parking_A a0_Parking_n a0_Parking_c), (.slice a0_Roads_A a0_Roads_n a0_Roads_c)]), (.agg #[(.int .i64 a1_Height), (.int .i64 a1_Weight), (.int .i64 a1_From), (.int .i64 a1_Ready), (.int .i64 a1_Drive), (.int .i64 a1_Rest)]), (.agg #[(.int .i64 a2_Town), (.int .i64 a2_Road), (.int .i64 a2_By), (.int .i64 a2_New_A), (.int .i64 a2_New_B), (.int .i64 a2_New_Length), (.int .i64 a2_New_Height), (.int .i64 a2_New_Weight)])] σ R :=
  Ak Du Fc Try.func7 rfl (by kernel_rfl) (by kernel_rfl) (M := B8 σ a0_Parking_A a0_Parking_n a0_Parking_c a0_Roads_A a0_Roads_n a0_Roads_c a1_Height a1_Weight a1_From a1_Ready a1_Drive a1_Rest a2_Town a2_Road a2_By a2_New_A a2_New_B a2_New_Length a2_New_Height a2_New_Weight R) (by kernel_rfl) h
end Go.Proofs.Ytkdjkkimngeloaa
