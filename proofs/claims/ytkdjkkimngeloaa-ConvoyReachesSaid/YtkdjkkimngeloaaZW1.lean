/- Trimmed by wip/trim.py to what this claim rests on. -/
import Derived.Test.YtkdjkkimngeloaaZB11
namespace Go.Proofs.Ytkdjkkimngeloaa
open Go.RowKit
theorem C1 : Try.prog.follows .mixedOrders = true := by kernel_rfl
abbrev Js : FuncId := 49
def Fw (σ : Hp) (R : Value → Hp → Prop) : Prop :=
  exl 4 [.bool] ([false, true, false, false] : List Bool) σ (fun A1 l1 c1 σ2 => exl 51 [.int .i64, .int .i64, .int .i64, .int .i64, .int .i64] ([(0, 1, 10, 40, 90), (1, 2, 10, 30, 90), (0, 2, 40, 50, 90), (2, 3, 5, 50, 20)] : List (Int × Int × Int × Int × Int)) σ2 (fun A3 l3 c3 σ4 => 
    rt σ4 R (.tuple #[(.agg #[(.slice A1 l1 c1), (.slice A3 l3 c3)]), (.agg #[(.int .i64 25), (.int .i64 20), (.int .i64 0), (.int .i64 0), (.int .i64 15), (.int .i64 5)])])))
def Hi : MAn := (.seq (.txt []) (.seq (.txt []) (.seq (.txt []) .leaf)))
set_option maxRecDepth 100000 in
theorem G0 (σ : Hp) (R : Value → Hp → Prop) (h : Fw σ  R) : Ae Try.prog 49 #[] σ R :=
  Ah C1 Hi Try.func49 rfl (by kernel_rfl) (by kernel_rfl) (M := Fw σ  R) (by kernel_rfl) h
theorem FH : Av Try.prog 49 = true := by kernel_rfl
abbrev GR : FuncId := 18
def Ea (σ : Hp) (R : Value → Hp → Prop) : Prop :=
  cl Try.prog (.func (.func 49) #[] #[]) #[] σ (fun v1 σ2 => ∃ A3 : Option Addr, ∃ l3 : Nat, ∃ c3 : Nat, ∃ A4 : Option Addr, ∃ l4 : Nat, ∃ c4 : Nat, ∃ n5 : Int, ∃ n6 : Int, ∃ n7 : Int, ∃ n8 : Int, ∃ n9 : Int, ∃ n10 : Int, (v1 = (.tuple #[(.agg #[(.slice A3 l3 c3), (.slice A4 l4 c4)]), (.agg #[(.int .i64 n5), (.int .i64 n6), (.int .i64 n7), (.int .i64 n8), (.int .i64 n9), (.int .i64 n10)])]) ∧ 
    cl Try.prog (.func (.func 19) #[] #[]) #[(.agg #[(.slice A3 l3 c3), (.slice A4 l4 c4)]), (.agg #[(.int .i64 n5), (.int .i64 n6), (.int .i64 n7), (.int .i64 n8), (.int .i64 n9), (.int .i64 n10)]), (.int .i64 2)] σ2 (fun v11 σ12 => 
    ∃ A13 : Option Addr, ∃ l13 : Nat, ∃ c13 : Nat, ∃ n14 : Int, (v11 = (.tuple #[(.slice A13 l13 c13), (.int .i64 n14)]) ∧ 
    cl Try.prog (.func (.func 23) #[] #[]) #[(.agg #[(.slice A3 l3 c3), (.slice A4 l4 c4)]), (.agg #[(.int .i64 n5), (.int .i64 n6), (.int .i64 n7), (.int .i64 n8), (.int .i64 n9), (.int .i64 n10)]), (.int .i64 2)] σ12 (fun v15 σ16 => 
    ∃ n17 : Int, ∃ n18 : Int, (v15 = (.tuple #[(.int .i64 n17), (.int .i64 n18)]) ∧ bc (decide (n14 = 0)) (bc (decide (n18 = 0)) (bc (decide (n17 = 30)) (bc (decide (((l13 : Nat) : Int) = 2)) (ix A13 l13 1 2 (fun b19 a20 => 
    ldI σ16 .i64 b19 a20 (fun n21 => ldI σ16 .i64 b19 (a20 + 1) (fun n22 => rt σ16 R (.bool (decide (n21 = 1) && decide (n22 = 15))))))) (rt σ16 R (.bool false))) (rt σ16 R (.bool false))) (rt σ16 R (.bool false))) (rt σ16 R (.bool false))))))))
def AE : OA := ⟨[], false, []⟩
def Iq : MAn := (.seq (.txt []) (.seq (.txt []) (.seq (.txt []) (.seq (.txt []) (.seq (.txt [AE, AE, ⟨[], true, []⟩, AE, AE, AE, ⟨[], true, []⟩, AE, AE, AE, ⟨[], true, []⟩, AE, AE, AE, AE, ⟨[], true, []⟩]) .leaf)))))
set_option maxRecDepth 100000 in
theorem IG (σ : Hp) (R : Value → Hp → Prop) (h : Ea σ  R) : Ae Try.prog 18 #[] σ R :=
  Ah C1 Iq Try.func18 rfl (by kernel_rfl) (by kernel_rfl) (M := Ea σ  R) (by kernel_rfl) h
theorem Gz : Av Try.prog 18 = true := by kernel_rfl
abbrev Mf : FuncId := 25
def F9 (σ : Hp) (_ : Option Addr) (m_Parking_n : Nat) (_ : Nat) (_ : Option Addr) (m_Roads_n : Nat) (_ : Nat) (R : Value → Hp → Prop) : Prop :=
  bc (decide ((20 : Int) < ((m_Parking_n : Nat) : Int))) (rt σ R (.bool true)) (rt σ R (.bool (decide ((40 : Int) < ((m_Roads_n : Nat) : Int)))))
def Kc : MAn := (.seq (.txt []) (.seq (.txt [⟨[], false, []⟩, ⟨[], false, []⟩, ⟨[], false, []⟩, ⟨[], false, []⟩, ⟨[], true, []⟩]) .leaf))
set_option maxRecDepth 100000 in
theorem JM (σ : Hp) (m_Parking_A : Option Addr) (m_Parking_n : Nat) (m_Parking_c : Nat) (m_Roads_A : Option Addr) (m_Roads_n : Nat) (m_Roads_c : Nat) (R : Value → Hp → Prop) (h : F9 σ m_Parking_A m_Parking_n m_Parking_c m_Roads_A m_Roads_n m_Roads_c R) : Ae Try.prog 25 #[(.agg #[(.slice m_Parking_A m_Parking_n m_Parking_c), (.slice m_Roads_A m_Roads_n m_Roads_c)])] σ R :=
  Ah C1 Kc Try.func25 rfl (by kernel_rfl) (by kernel_rfl) (M := F9 σ m_Parking_A m_Parking_n m_Parking_c m_Roads_A m_Roads_n m_Roads_c R) (by kernel_rfl) h
theorem Hm : Av Try.prog 25 = true := by kernel_rfl
abbrev GS : FuncId := 16
def D5 (σ : Hp) (m_Parking_A : Option Addr) (m_Parking_n : Nat) (m_Parking_c : Nat) (m_Roads_A : Option Addr) (m_Roads_n : Nat) (m_Roads_c : Nat) (l_A : Option Addr) (l_n : Nat) (_ : Nat) (R : Value → Hp → Prop) : Prop :=
  cut (α := Hp → Prop) (fun  σ2 => ∀ _ : Nat → Value, cut (α := Hp → Prop) (fun  σ5 => ∀ _ : Nat → Value, 
    rt σ5 R (.bool false)) (fun J6 => ∃ I9 : Nat → Int → Hp → Prop, (∃ n100, I9 n100 0 σ2) ∧ ∀ n10 : Nat, ∀ n11 : Int, ∀ σ8 : Hp, I9 n10 n11 σ8 → ∀ _ : Nat → Value, bc (decide (n11 < ((l_n : Nat) : Int))) (cut (α := Hp → Prop) (fun  σ13 => 
    ∀ _ : Nat → Value, wk .i64 (n11 + 1) (fun n15 => bk σ13 n10 (fun m16 σ17 => I9 m16 n15 σ17))) (fun J14 => 
    cut (α := Bool → Hp → Prop) (fun t21 σ19 => ∀ _ : Nat → Value, bc t21 (rt σ19 R (.bool true)) (J14 σ19)) (fun J20 => 
    ix l_A l_n n11 6 (fun b22 a23 => ldI σ8 .i64 b22 (a23 + 4) (fun n24 => bc (decide ((60 : Int) < n24)) (ix l_A l_n n11 6 (fun b25 a26 => 
    ldI σ8 .i64 b25 (a26 + 4) (fun n27 => J20 (decide (n27 ≤ 500)) σ8))) (J20 false σ8)))))) (J6 σ8))) (fun J3 => 
    cut (α := Bool → Hp → Prop) (fun t31 σ29 => ∀ _ : Nat → Value, bc t31 (rt σ29 R (.bool true)) (J3 σ29)) (fun J30 => 
    cl Try.prog (.func (.func 25) #[] #[]) #[(.agg #[(.slice m_Parking_A m_Parking_n m_Parking_c), (.slice m_Roads_A m_Roads_n m_Roads_c)])] σ (fun v32 σ33 => 
    ∃ t34 : Bool, (v32 = (.bool t34) ∧ bc t34 (J30 true σ33) (bc (decide ((5 : Int) < ((m_Parking_n : Nat) : Int))) (J30 true σ33) (bc (decide ((8 : Int) < ((m_Roads_n : Nat) : Int))) (J30 true σ33) (J30 (decide ((12 : Int) < ((l_n : Nat) : Int))) σ33)))))))
def Ay : OA := ⟨[], false, []⟩
def IH : MAn := (.seq (.txt []) (.cut ⟨[true], 1, [], [(1, true)]⟩ (.cut ⟨[true], 1, [.slot 24 (.sc (.bool))], [(1, true)]⟩ (.txt [Ay, Ay, ⟨[], true, []⟩, Ay, Ay, Ay, Ay, Ay, ⟨[], true, []⟩, Ay, Ay, Ay, Ay, Ay, ⟨[], true, []⟩]) (.cond (.seq (.txt []) .leaf) .leaf)) (.cut ⟨[true], 1, [], []⟩ (.seq (.txt []) (.block (.loop ⟨[true], 1, [.slot 5 (.sc (.int .i64))], [(1, true)]⟩ (.seq (.seq (.txt []) (.cond .leaf .leaf)) (.cut ⟨[true], 1, [], [(1, true), (5, true)]⟩ (.block (.cut ⟨[true], 1, [.slot 44 (.sc (.bool))], [(1, true), (5, true)]⟩ (.txt [Ay, Ay, Ay, Ay, Ay, Ay, ⟨[], true, []⟩]) (.cond (.seq (.txt []) .leaf) .leaf))) (.txt [])))))) (.seq (.txt []) .leaf))))
set_option maxRecDepth 100000 in
theorem Ii (σ : Hp) (m_Parking_A : Option Addr) (m_Parking_n : Nat) (m_Parking_c : Nat) (m_Roads_A : Option Addr) (m_Roads_n : Nat) (m_Roads_c : Nat) (l_A : Option Addr) (l_n : Nat) (l_c : Nat) (R : Value → Hp → Prop) (h : D5 σ m_Parking_A m_Parking_n m_Parking_c m_Roads_A m_Roads_n m_Roads_c l_A l_n l_c R) : Ae Try.prog 16 #[(.agg #[(.slice m_Parking_A m_Parking_n m_Parking_c), (.slice m_Roads_A m_Roads_n m_Roads_c)]), (.slice l_A l_n l_c)] σ R :=
  Ah C1 IH Try.func16 rfl (by kernel_rfl) (by kernel_rfl) (M := D5 σ m_Parking_A m_Parking_n m_Parking_c m_Roads_A m_Roads_n m_Roads_c l_A l_n l_c R) (by kernel_rfl) h
theorem GI : Av Try.prog 16 = true := by kernel_rfl
abbrev I1 : FuncId := 17
def I2 (σ : Hp) (l_Height : Int) (l_Weight : Int) (l_From : Int) (l_Ready : Int) (l_Drive : Int) (l_Rest : Int) (R : Value → Hp → Prop) : Prop :=
  exl 27 [.int .i64, .int .i64, .int .i64, .int .i64, .int .i64, .int .i64] ([(l_Height, l_Weight, l_From, l_Ready, l_Drive, l_Rest)] : List (Int × Int × Int × Int × Int × Int)) σ (fun A1 l1 c1 σ2 => 
    rt σ2 R (.slice A1 l1 c1))
def Ka : MAn := (.seq (.txt []) (.seq (.txt []) .leaf))
set_option maxRecDepth 100000 in
theorem Kn (σ : Hp) (l_Height : Int) (l_Weight : Int) (l_From : Int) (l_Ready : Int) (l_Drive : Int) (l_Rest : Int) (R : Value → Hp → Prop) (h : I2 σ l_Height l_Weight l_From l_Ready l_Drive l_Rest R) : Ae Try.prog 17 #[(.agg #[(.int .i64 l_Height), (.int .i64 l_Weight), (.int .i64 l_From), (.int .i64 l_Ready), (.int .i64 l_Drive), (.int .i64 l_Rest)])] σ R :=
  Ah C1 Ka Try.func17 rfl (by kernel_rfl) (by kernel_rfl) (M := I2 σ l_Height l_Weight l_From l_Ready l_Drive l_Rest R) (by kernel_rfl) h
theorem HK : Av Try.prog 17 = true := by kernel_rfl
abbrev Ij : FuncId := 32
def CW (σ : Hp) (a_A : Option Addr) (a_n : Nat) (_ : Nat) (b_A : Option Addr) (b_n : Nat) (_ : Nat) (R : Value → Hp → Prop) : Prop :=
  bc (!decide (((a_n : Nat) : Int) = ((b_n : Nat) : Int))) (rt σ R (.bool false)) (cut (α := Hp → Prop) (fun  σ2 => 
    ∀ _ : Nat → Value, rt σ2 R (.bool true)) (fun J3 => ∃ I6 : Nat → Int → Hp → Prop, (∃ n70, I6 n70 0 σ) ∧ 
    ∀ n7 : Nat, ∀ n8 : Int, ∀ σ5 : Hp, I6 n7 n8 σ5 → ∀ _ : Nat → Value, bc (decide (n8 < ((a_n : Nat) : Int))) (ix a_A a_n n8 1 (fun b9 a10 => 
    ldI σ5 .i64 b9 a10 (fun n11 => ix b_A b_n n8 1 (fun b12 a13 => ldI σ5 .i64 b12 a13 (fun n14 => bc (!decide (n11 = n14)) (rt σ5 R (.bool false)) (wk .i64 (n8 + 1) (fun n15 => 
    bk σ5 n7 (fun m16 σ17 => I6 m16 n15 σ17)))))))) (J3 σ5)))
def AH : OA := ⟨[], false, []⟩
def GF : MAn := (.seq (.txt []) (.seq (.seq (.txt []) (.cond (.seq (.txt []) .leaf) .leaf)) (.cut ⟨[], 0, [], []⟩ (.seq (.txt []) (.block (.loop ⟨[], 0, [.slot 5 (.sc (.int .i64))], [(0, true), (1, true)]⟩ (.seq (.seq (.txt []) (.cond .leaf .leaf)) (.seq (.block (.seq (.plan [] (.take 0 AH (.take 1 AH (.take 2 AH (.take 3 AH (.take 4 AH (.take 5 AH (.take 6 AH (.take 7 AH (.take 8 AH .done)))))))))) (.cond (.seq (.txt []) .leaf) .leaf))) (.txt [])))))) (.seq (.txt []) .leaf))))
set_option maxRecDepth 100000 in
theorem GJ (σ : Hp) (a_A : Option Addr) (a_n : Nat) (a_c : Nat) (b_A : Option Addr) (b_n : Nat) (b_c : Nat) (R : Value → Hp → Prop) (h : CW σ a_A a_n a_c b_A b_n b_c R) : Ae Try.prog 32 #[(.slice a_A a_n a_c), (.slice b_A b_n b_c)] σ R :=
  Ah C1 GF Try.func32 rfl (by kernel_rfl) (by kernel_rfl) (M := CW σ a_A a_n a_c b_A b_n b_c R) (by kernel_rfl) h
theorem Fq : Av Try.prog 32 = true := by kernel_rfl
abbrev L0 : FuncId := 34
def E4 (σ : Hp) (j_A : Option Addr) (j_n : Nat) (_ : Nat) (R : Value → Hp → Prop) : Prop :=
  ∃ ys1 : List (Int × Int), RdS [.int .i64, .int .i64] σ j_A j_n ys1 ∧ Bq (List.length ([] : List (Int × Int)) + List.length ys1) (exl 60 [.int .i64, .int .i64] (([] : List (Int × Int)) ++ ys1) σ (fun A2 l2 c2 σ3 => 
    rt σ3 R (.slice A2 l2 c2)))
def Jv : MAn := (.seq (.txt []) (.seq (.txt []) .leaf))
set_option maxRecDepth 100000 in
theorem Jx (σ : Hp) (j_A : Option Addr) (j_n : Nat) (j_c : Nat) (R : Value → Hp → Prop) (h : E4 σ j_A j_n j_c R) : Ae Try.prog 34 #[(.slice j_A j_n j_c)] σ R :=
  Ah C1 Jv Try.func34 rfl (by kernel_rfl) (by kernel_rfl) (M := E4 σ j_A j_n j_c R) (by kernel_rfl) h
abbrev BR : FuncId := 6
def BN (σ : Hp) (m_Parking_A : Option Addr) (m_Parking_n : Nat) (m_Parking_c : Nat) (m_Roads_A : Option Addr) (m_Roads_n : Nat) (m_Roads_c : Nat) (l_Height : Int) (l_Weight : Int) (l_From : Int) (l_Ready : Int) (l_Drive : Int) (l_Rest : Int) (R : Value → Hp → Prop) : Prop :=
  cl Try.prog (.func (.func 17) #[] #[]) #[(.agg #[(.int .i64 l_Height), (.int .i64 l_Weight), (.int .i64 l_From), (.int .i64 l_Ready), (.int .i64 l_Drive), (.int .i64 l_Rest)])] σ (fun v1 σ2 => 
    ∃ A3 : Option Addr, ∃ l3 : Nat, ∃ c3 : Nat, (v1 = (.slice A3 l3 c3) ∧ (Hp.Sub σ σ2 ∧ cl Try.prog (.func (.func 16) #[] #[]) #[(.agg #[(.slice m_Parking_A m_Parking_n m_Parking_c), (.slice m_Roads_A m_Roads_n m_Roads_c)]), (.slice A3 l3 c3)] σ2 (fun v4 σ5 => 
    ∃ t6 : Bool, (v4 = (.bool t6) ∧ bc t6 (cl Try.prog (.func (.func 18) #[] #[]) #[] σ5 (fun v7 σ8 => ∃ t9 : Bool, (v7 = (.bool t9) ∧ 
    rt σ8 R (.bool t9)))) (cl Try.prog (.func (.func 20) #[] #[]) #[(.agg #[(.slice m_Parking_A m_Parking_n m_Parking_c), (.slice m_Roads_A m_Roads_n m_Roads_c)])] σ5 (fun v10 σ11 => 
    ∃ A12 : Option Addr, ∃ l12 : Nat, ∃ c12 : Nat, ∃ A13 : Option Addr, ∃ l13 : Nat, ∃ c13 : Nat, (v10 = (.agg #[(.slice A12 l12 c12), (.slice A13 l13 c13)]) ∧ 
    (Hp.Sub σ5 σ11 ∧ cl Try.prog (.func (.func 30) #[] #[]) #[(.agg #[(.slice A12 l12 c12), (.slice A13 l13 c13)]), (.agg #[(.int .i64 l_Height), (.int .i64 l_Weight), (.int .i64 l_From), (.int .i64 l_Ready), (.int .i64 l_Drive), (.int .i64 l_Rest)])] σ11 (fun v14 σ15 => 
    ∃ A16 : Option Addr, ∃ l16 : Nat, ∃ c16 : Nat, ∃ n17 : Int, (v14 = (.tuple #[(.slice A16 l16 c16), (.int .i64 n17)]) ∧ 
    cl Try.prog (.func (.func 31) #[] #[]) #[(.agg #[(.slice m_Parking_A m_Parking_n m_Parking_c), (.slice m_Roads_A m_Roads_n m_Roads_c)]), (.agg #[(.int .i64 l_Height), (.int .i64 l_Weight), (.int .i64 l_From), (.int .i64 l_Ready), (.int .i64 l_Drive), (.int .i64 l_Rest)])] σ15 (fun v18 σ19 => 
    ∃ A20 : Option Addr, ∃ l20 : Nat, ∃ c20 : Nat, ∃ n21 : Int, (v18 = (.tuple #[(.slice A20 l20 c20), (.int .i64 n21)]) ∧ 
    cl Try.prog (.func (.func 32) #[] #[]) #[(.slice A16 l16 c16), (.slice A20 l20 c20)] σ19 (fun v22 σ23 => 
    ∃ t24 : Bool, (v22 = (.bool t24) ∧ bc t24 (bc (decide (n17 = n21)) (cl Try.prog (.func (.func 18) #[] #[]) #[] σ23 (fun v25 σ26 => 
    ∃ t27 : Bool, (v25 = (.bool t27) ∧ rt σ26 R (.bool t27)))) (rt σ23 R (.bool false))) (rt σ23 R (.bool false)))))))))))))))))
def Al : OA := ⟨[], false, []⟩
def D8 : MAn := (.seq (.txt []) (.seq (.seq (.plan [3] (.take 0 Al (.take 1 Al (.alt 2 true Al (.alt 3 false Al .done .done) .done)))) (.cond (.seq (.txt []) .leaf) .leaf)) (.seq (.plan [3] (.take 0 Al (.take 2 Al (.alt 1 true Al (.alt 3 false Al (.take 4 Al (.take 5 Al (.take 6 Al (.take 7 Al (.take 8 Al .done))))) .done) .done)))) (.seq (.txt []) (.seq (.txt [Al, Al, Al, ⟨[], true, []⟩, Al, Al, Al, Al, ⟨[], true, []⟩]) .leaf)))))
set_option maxRecDepth 100000 in
theorem Ej (σ : Hp) (m_Parking_A : Option Addr) (m_Parking_n : Nat) (m_Parking_c : Nat) (m_Roads_A : Option Addr) (m_Roads_n : Nat) (m_Roads_c : Nat) (l_Height : Int) (l_Weight : Int) (l_From : Int) (l_Ready : Int) (l_Drive : Int) (l_Rest : Int) (R : Value → Hp → Prop) (h : BN σ m_Parking_A m_Parking_n m_Parking_c m_Roads_A m_Roads_n m_Roads_c l_Height l_Weight l_From l_Ready l_Drive l_Rest R) : Ae Try.prog 6 #[(.agg #[(.slice m_Parking_A m_Parking_n m_Parking_c), (.slice m_Roads_A m_Roads_n m_Roads_c)]), (.agg #[(.int .i64 l_Height), (.int .i64 l_Weight), (.int .i64 l_From), (.int .i64 l_Ready), (.int .i64 l_Drive), (.int .i64 l_Rest)])] σ R :=
  Ah C1 D8 Try.func6 rfl (by kernel_rfl) (by kernel_rfl) (M := BN σ m_Parking_A m_Parking_n m_Parking_c m_Roads_A m_Roads_n m_Roads_c l_Height l_Weight l_From l_Ready l_Drive l_Rest R) (by kernel_rfl) h
end Go.Proofs.Ytkdjkkimngeloaa
