/- Trimmed by wip/trim.py to what this claim rests on. -/
import Derived.Test.YtkdjkkimngeloaaZB11
namespace Go.Proofs.Ytkdjkkimngeloaa
open Go.RowKit
theorem Fr : Try.prog.follows .mixedOrders = true := by kernel_rfl
abbrev H3 : FuncId := 49
def E2 (σ : Hp) (R : Value → Hp → Prop) : Prop :=
  exl 4 [.bool] ([false, true, false, false] : List Bool) σ (fun A1 l1 c1 σ2 => exl 51 [.int .i64, .int .i64, .int .i64, .int .i64, .int .i64] ([(0, 1, 10, 40, 90), (1, 2, 10, 30, 90), (0, 2, 40, 50, 90), (2, 3, 5, 50, 20)] : List (Int × Int × Int × Int × Int)) σ2 (fun A3 l3 c3 σ4 => 
    rt σ4 R (.tuple #[(.agg #[(.slice A1 l1 c1), (.slice A3 l3 c3)]), (.agg #[(.int .i64 25), (.int .i64 20), (.int .i64 0), (.int .i64 0), (.int .i64 15), (.int .i64 5)])])))
def Gg : MAn := (.seq (.txt []) (.seq (.txt []) (.seq (.txt []) .leaf)))
set_option maxRecDepth 100000 in
theorem Gx (σ : Hp) (R : Value → Hp → Prop) (h : E2 σ  R) : Ae Try.prog 49 #[] σ R :=
  Al Fr Gg Try.func49 rfl (by kernel_rfl) (by kernel_rfl) (M := E2 σ  R) (by kernel_rfl) h
theorem E9 : Ar Try.prog 49 = true := by kernel_rfl
abbrev F9 : FuncId := 18
def DQ (σ : Hp) (R : Value → Hp → Prop) : Prop :=
  cl Try.prog (.func (.func 49) #[] #[]) #[] σ (fun v1 σ2 => ∃ A3 : Option Addr, ∃ l3 : Nat, ∃ c3 : Nat, ∃ A4 : Option Addr, ∃ l4 : Nat, ∃ c4 : Nat, ∃ n5 : Int, ∃ n6 : Int, ∃ n7 : Int, ∃ n8 : Int, ∃ n9 : Int, ∃ n10 : Int, (v1 = (.tuple #[(.agg #[(.slice A3 l3 c3), (.slice A4 l4 c4)]), (.agg #[(.int .i64 n5), (.int .i64 n6), (.int .i64 n7), (.int .i64 n8), (.int .i64 n9), (.int .i64 n10)])]) ∧ 
    cl Try.prog (.func (.func 19) #[] #[]) #[(.agg #[(.slice A3 l3 c3), (.slice A4 l4 c4)]), (.agg #[(.int .i64 n5), (.int .i64 n6), (.int .i64 n7), (.int .i64 n8), (.int .i64 n9), (.int .i64 n10)]), (.int .i64 2)] σ2 (fun v11 σ12 => 
    ∃ A13 : Option Addr, ∃ l13 : Nat, ∃ c13 : Nat, ∃ n14 : Int, (v11 = (.tuple #[(.slice A13 l13 c13), (.int .i64 n14)]) ∧ 
    cl Try.prog (.func (.func 23) #[] #[]) #[(.agg #[(.slice A3 l3 c3), (.slice A4 l4 c4)]), (.agg #[(.int .i64 n5), (.int .i64 n6), (.int .i64 n7), (.int .i64 n8), (.int .i64 n9), (.int .i64 n10)]), (.int .i64 2)] σ12 (fun v15 σ16 => 
    ∃ n17 : Int, ∃ n18 : Int, (v15 = (.tuple #[(.int .i64 n17), (.int .i64 n18)]) ∧ bc (decide (n14 = 0)) (bc (decide (n18 = 0)) (bc (decide (n17 = 30)) (bc (decide (((l13 : Nat) : Int) = 2)) (ix A13 l13 1 2 (fun b19 a20 => 
    ldI σ16 .i64 b19 a20 (fun n21 => ldI σ16 .i64 b19 (a20 + 1) (fun n22 => rt σ16 R (.bool (decide (n21 = 1) && decide (n22 = 15))))))) (rt σ16 R (.bool false))) (rt σ16 R (.bool false))) (rt σ16 R (.bool false))) (rt σ16 R (.bool false))))))))
def Ax : OA := ⟨[], false, []⟩
def HH : MAn := (.seq (.txt []) (.seq (.txt []) (.seq (.txt []) (.seq (.txt []) (.seq (.txt [Ax, Ax, ⟨[], true, []⟩, Ax, Ax, Ax, ⟨[], true, []⟩, Ax, Ax, Ax, ⟨[], true, []⟩, Ax, Ax, Ax, Ax, ⟨[], true, []⟩]) .leaf)))))
set_option maxRecDepth 100000 in
theorem HD (σ : Hp) (R : Value → Hp → Prop) (h : DQ σ  R) : Ae Try.prog 18 #[] σ R :=
  Al Fr HH Try.func18 rfl (by kernel_rfl) (by kernel_rfl) (M := DQ σ  R) (by kernel_rfl) h
theorem F1 : Ar Try.prog 18 = true := by kernel_rfl
abbrev Le : FuncId := 25
def Fp (σ : Hp) (_ : Option Addr) (m_Parking_n : Nat) (_ : Nat) (_ : Option Addr) (m_Roads_n : Nat) (_ : Nat) (R : Value → Hp → Prop) : Prop :=
  bc (decide ((20 : Int) < ((m_Parking_n : Nat) : Int))) (rt σ R (.bool true)) (rt σ R (.bool (decide ((40 : Int) < ((m_Roads_n : Nat) : Int)))))
def Je : MAn := (.seq (.txt []) (.seq (.txt [⟨[], false, []⟩, ⟨[], false, []⟩, ⟨[], false, []⟩, ⟨[], false, []⟩, ⟨[], true, []⟩]) .leaf))
set_option maxRecDepth 100000 in
theorem IQ (σ : Hp) (m_Parking_A : Option Addr) (m_Parking_n : Nat) (m_Parking_c : Nat) (m_Roads_A : Option Addr) (m_Roads_n : Nat) (m_Roads_c : Nat) (R : Value → Hp → Prop) (h : Fp σ m_Parking_A m_Parking_n m_Parking_c m_Roads_A m_Roads_n m_Roads_c R) : Ae Try.prog 25 #[(.agg #[(.slice m_Parking_A m_Parking_n m_Parking_c), (.slice m_Roads_A m_Roads_n m_Roads_c)])] σ R :=
  Al Fr Je Try.func25 rfl (by kernel_rfl) (by kernel_rfl) (M := Fp σ m_Parking_A m_Parking_n m_Parking_c m_Roads_A m_Roads_n m_Roads_c R) (by kernel_rfl) h
theorem GO : Ar Try.prog 25 = true := by kernel_rfl
abbrev Hi : FuncId := 34
def EF (σ : Hp) (j_A : Option Addr) (j_n : Nat) (_ : Nat) (R : Value → Hp → Prop) : Prop :=
  ∃ ys1 : List (Int × Int), RdS [.int .i64, .int .i64] σ j_A j_n ys1 ∧ Eh (List.length ([] : List (Int × Int)) + List.length ys1) (exl 60 [.int .i64, .int .i64] (([] : List (Int × Int)) ++ ys1) σ (fun A2 l2 c2 σ3 => 
    rt σ3 R (.slice A2 l2 c2)))
def Ic : MAn := (.seq (.txt []) (.seq (.txt []) .leaf))
set_option maxRecDepth 100000 in
theorem Ia (σ : Hp) (j_A : Option Addr) (j_n : Nat) (j_c : Nat) (R : Value → Hp → Prop) (h : EF σ j_A j_n j_c R) : Ae Try.prog 34 #[(.slice j_A j_n j_c)] σ R :=
  Al Fr Ic Try.func34 rfl (by kernel_rfl) (by kernel_rfl) (M := EF σ j_A j_n j_c R) (by kernel_rfl) h
theorem Gu : Ar Try.prog 34 = true := by kernel_rfl
abbrev BD : FuncId := 9
def Bz (σ : Hp) (a0_Parking_A : Option Addr) (a0_Parking_n : Nat) (a0_Parking_c : Nat) (a0_Roads_A : Option Addr) (a0_Roads_n : Nat) (a0_Roads_c : Nat) (a1_Height : Int) (a1_Weight : Int) (a1_From : Int) (a1_Ready : Int) (a1_Drive : Int) (a1_Rest : Int) (a2_A : Option Addr) (a2_n : Nat) (a2_c : Nat) (R : Value → Hp → Prop) : Prop :=
  cut (α := Hp → Prop) (fun  σ2 => ∀ _ : Nat → Value, cl Try.prog (.func (.func 20) #[] #[]) #[(.agg #[(.slice a0_Parking_A a0_Parking_n a0_Parking_c), (.slice a0_Roads_A a0_Roads_n a0_Roads_c)])] σ2 (fun v4 σ5 => 
    ∃ A6 : Option Addr, ∃ l6 : Nat, ∃ c6 : Nat, ∃ A7 : Option Addr, ∃ l7 : Nat, ∃ c7 : Nat, (v4 = (.agg #[(.slice A6 l6 c6), (.slice A7 l7 c7)]) ∧ 
    (Hp.Sub σ2 σ5 ∧ cl Try.prog (.func (.func 34) #[] #[]) #[(.slice a2_A a2_n a2_c)] σ5 (fun v8 σ9 => ∃ A10 : Option Addr, ∃ l10 : Nat, ∃ c10 : Nat, (v8 = (.slice A10 l10 c10) ∧ 
    (Hp.Sub σ5 σ9 ∧ cl Try.prog (.func (.func 33) #[] #[]) #[(.agg #[(.slice A6 l6 c6), (.slice A7 l7 c7)]), (.agg #[(.int .i64 a1_Height), (.int .i64 a1_Weight), (.int .i64 a1_From), (.int .i64 a1_Ready), (.int .i64 a1_Drive), (.int .i64 a1_Rest)]), (.slice A10 l10 c10)] σ9 (fun v11 σ12 => 
    ∃ n13 : Int, ∃ n14 : Int, ∃ n15 : Int, ∃ n16 : Int, (v11 = (.tuple #[(.int .i64 n13), (.int .i64 n14), (.int .i64 n15), (.int .i64 n16)]) ∧ 
    bc (!decide (n16 = 0)) (cl Try.prog (.func (.func 18) #[] #[]) #[] σ12 (fun v17 σ18 => ∃ t19 : Bool, (v17 = (.bool t19) ∧ 
    rt σ18 R (.bool t19)))) (cut (α := Int → Int → Hp → Prop) (fun n23 n24 σ21 => ∀ _ : Nat → Value, bc (decide (n13 = n23)) (bc (decide (n14 = n24)) (cl Try.prog (.func (.func 18) #[] #[]) #[] σ21 (fun v25 σ26 => 
    ∃ t27 : Bool, (v25 = (.bool t27) ∧ rt σ26 R (.bool t27)))) (rt σ21 R (.bool false))) (rt σ21 R (.bool false))) (fun J22 => 
    ∃ I30 : Nat → Int → Int → Int → Int → Hp → Prop, (∃ n310, I30 n310 a1_From a1_Ready 0 0 σ12) ∧ ∀ n31 : Nat, ∀ n32 : Int, ∀ n33 : Int, ∀ n34 : Int, ∀ n35 : Int, ∀ σ29 : Hp, I30 n31 n32 n33 n34 n35 σ29 → ∀ _ : Nat → Value, bc (decide (n35 < ((a2_n : Nat) : Int))) (cut (α := Int → Int → Int → Hp → Prop) (fun n39 n40 n41 σ37 => 
    ∀ _ : Nat → Value, wk .i64 (n35 + 1) (fun n42 => bk σ37 n31 (fun m43 σ44 => I30 m43 n39 n40 n41 n42 σ44))) (fun J38 => 
    cut (α := Hp → Prop) (fun  σ46 => ∀ _ : Nat → Value, ix a2_A a2_n n35 2 (fun b48 a49 => ldI σ46 .i64 b48 a49 (fun n50 => 
    ix a0_Roads_A a0_Roads_n n50 5 (fun b51 a52 => ldI σ46 .i64 b51 a52 (fun n53 => ldI σ46 .i64 b51 (a52 + 1) (fun n54 => 
    ldI σ46 .i64 b51 (a52 + 2) (fun n55 => ldI σ46 .i64 b51 (a52 + 3) (fun n56 => ldI σ46 .i64 b51 (a52 + 4) (fun n57 => 
    cut (α := Hp → Prop) (fun  σ59 => ∀ _ : Nat → Value, cut (α := Int → Hp → Prop) (fun n64 σ62 => ∀ _ : Nat → Value, 
    wk .i64 (n64 + n55) (fun n65 => bc (decide (a1_Drive < n65)) (rt σ62 R (.bool false)) (ix a2_A a2_n n35 2 (fun b66 a67 => 
    ldI σ62 .i64 b66 (a67 + 1) (fun n68 => wk .i64 (n68 + n55) (fun n69 => bc (decide (n32 = n53)) (J38 n54 n69 n65 σ62) (J38 n53 n69 n65 σ62))))))) (fun J63 => 
    cut (α := Bool → Hp → Prop) (fun t73 σ71 => ∀ _ : Nat → Value, bc t73 (J63 0 σ71) (J63 n34 σ71)) (fun J72 => 
    ix a0_Parking_A a0_Parking_n n32 1 (fun b74 a75 => ldB σ59 b74 a75 (fun t76 => bc t76 (ix a2_A a2_n n35 2 (fun b77 a78 => 
    ldI σ59 .i64 b77 (a78 + 1) (fun n79 => wk .i64 (n79 - n33) (fun n80 => J72 (decide (a1_Rest ≤ n80)) σ59)))) (J72 false σ59)))))) (fun J60 => 
    cut (α := Bool → Hp → Prop) (fun t84 σ82 => ∀ _ : Nat → Value, bc t84 (rt σ82 R (.bool false)) (J60 σ82)) (fun J83 => 
    bc (decide (n56 < a1_Height)) (J83 true σ46) (bc (decide (n57 < a1_Weight)) (J83 true σ46) (bc (!decide (n32 = n53)) (bc (!decide (n32 = n54)) (J83 true σ46) (ix a2_A a2_n n35 2 (fun b85 a86 => 
    ldI σ46 .i64 b85 (a86 + 1) (fun n87 => bc (decide (n87 < n33)) (J83 true σ46) (bc (decide (n32 < 0)) (J83 true σ46) (J83 (decide (((a0_Parking_n : Nat) : Int) ≤ n32)) σ46)))))) (ix a2_A a2_n n35 2 (fun b88 a89 => 
    ldI σ46 .i64 b88 (a89 + 1) (fun n90 => bc (decide (n90 < n33)) (J83 true σ46) (bc (decide (n32 < 0)) (J83 true σ46) (J83 (decide (((a0_Parking_n : Nat) : Int) ≤ n32)) σ46)))))))))))))))))) (fun J47 => 
    cut (α := Bool → Hp → Prop) (fun t94 σ92 => ∀ _ : Nat → Value, bc t94 (rt σ92 R (.bool false)) (J47 σ92)) (fun J93 => 
    ix a2_A a2_n n35 2 (fun b95 a96 => ldI σ29 .i64 b95 a96 (fun n97 => bc (decide (n97 < 0)) (J93 true σ29) (ix a2_A a2_n n35 2 (fun b98 a99 => 
    ldI σ29 .i64 b98 a99 (fun n100 => J93 (decide (((a0_Roads_n : Nat) : Int) ≤ n100)) σ29))))))))) (J22 n32 n33 σ29)))))))))))) (fun J3 => 
    cut (α := Bool → Hp → Prop) (fun t104 σ102 => ∀ _ : Nat → Value, bc t104 (cl Try.prog (.func (.func 18) #[] #[]) #[] σ102 (fun v105 σ106 => 
    ∃ t107 : Bool, (v105 = (.bool t107) ∧ rt σ106 R (.bool t107)))) (J3 σ102)) (fun J103 => cl Try.prog (.func (.func 25) #[] #[]) #[(.agg #[(.slice a0_Parking_A a0_Parking_n a0_Parking_c), (.slice a0_Roads_A a0_Roads_n a0_Roads_c)])] σ (fun v108 σ109 => 
    ∃ t110 : Bool, (v108 = (.bool t110) ∧ bc t110 (J103 true σ109) (J103 (decide ((80 : Int) < ((a2_n : Nat) : Int))) σ109)))))
def Aa : OA := ⟨[], false, []⟩
def B4 : MPlan := (.take 7 Aa (.take 8 Aa (.take 9 Aa (.take 10 Aa (.take 11 Aa (.take 12 Aa (.take 13 Aa (.take 14 Aa (.take 15 Aa (.take 16 Aa .done))))))))))
def DS : MAn := (.seq (.txt []) (.cut ⟨[true, true], 2, [.slot 3 (.hb 0 0), .slot 4 (.hb 1 0)], [(2, true)]⟩ (.cut ⟨[true, true], 2, [.slot 3 (.hb 0 0), .slot 4 (.hb 1 0), .slot 22 (.sc (.bool))], [(2, true)]⟩ (.txt [Aa, Aa, ⟨[], true, []⟩]) (.cond (.seq (.txt []) .leaf) .leaf)) (.seq (.plan [5] (.take 0 Aa (.take 2 Aa (.take 3 Aa (.alt 1 true Aa (.alt 4 true Aa (.alt 5 false Aa (.take 6 Aa (.take 7 Aa (.take 8 Aa (.take 9 Aa (.take 10 Aa (.take 11 Aa (.take 12 Aa (.take 13 Aa (.take 14 Aa .done))))))))) .done) .done) .done))))) (.seq (.seq (.txt []) (.cond (.seq (.txt []) .leaf) .leaf)) (.seq (.plan [] (.take 0 Aa (.take 1 Aa (.take 2 Aa (.take 3 Aa (.take 4 Aa (.take 5 Aa (.take 6 Aa .done)))))))) (.cut ⟨[true, true], 2, [.slot 11 (.sc (.int .i64)), .slot 12 (.sc (.int .i64))], [(7, true), (8, true)]⟩ (.seq (.txt []) (.block (.loop ⟨[true, true], 2, [.slot 3 (.hb 0 0), .slot 4 (.hb 1 0), .slot 11 (.sc (.int .i64)), .slot 12 (.sc (.int .i64)), .slot 13 (.sc (.int .i64)), .slot 14 (.sc (.int .i64))], [(2, true), (7, true), (8, true)]⟩ (.seq (.seq (.txt []) (.cond .leaf .leaf)) (.cut ⟨[true, true], 2, [.slot 3 (.hb 0 0), .slot 4 (.hb 1 0), .slot 11 (.sc (.int .i64)), .slot 12 (.sc (.int .i64)), .slot 13 (.sc (.int .i64))], [(2, true), (7, true), (8, true), (14, true)]⟩ (.block (.cut ⟨[true, true], 2, [.slot 3 (.hb 0 0), .slot 4 (.hb 1 0)], [(2, true), (7, true), (8, true), (11, true), (12, true), (13, true), (14, true)]⟩ (.cut ⟨[true, true], 2, [.slot 3 (.hb 0 0), .slot 4 (.hb 1 0), .slot 64 (.sc (.bool))], [(2, true), (7, true), (8, true), (11, true), (12, true), (13, true), (14, true)]⟩ (.plan [] (.take 0 Aa (.take 1 Aa (.take 2 Aa (.take 3 Aa (.take 4 Aa (.take 5 Aa (.take 6 ⟨[], true, []⟩ B4)))))))) (.cond (.seq (.txt []) .leaf) .leaf)) (.seq (.plan [10] (.take 0 Aa (.take 1 Aa (.take 2 Aa (.take 3 Aa (.take 4 Aa (.take 5 Aa (.take 6 Aa (.take 7 Aa (.take 8 Aa (.alt 9 true Aa (.alt 10 false Aa .done .done) .done))))))))))) (.cut ⟨[true, true, true], 3, [.slot 3 (.hb 0 0), .slot 4 (.hb 1 0), .slot 15 (.hb 2 0)], [(2, true), (7, true), (8, true), (11, true), (12, true), (13, true), (14, true)]⟩ (.cut ⟨[true, true, true], 3, [.slot 3 (.hb 0 0), .slot 4 (.hb 1 0), .slot 15 (.hb 2 0), .slot 117 (.sc (.bool))], [(2, true), (7, true), (8, true), (11, true), (12, true), (13, true), (14, true)]⟩ (.txt [Aa, Aa, Aa, Aa, Aa, ⟨[], true, []⟩, Aa, Aa, Aa, Aa, Aa, Aa, ⟨[], true, []⟩, Aa, Aa, Aa, Aa, ⟨[], true, []⟩, Aa, Aa, Aa, Aa, Aa, Aa, ⟨[], true, []⟩, Aa, Aa, Aa, Aa, Aa, Aa, Aa, Aa, ⟨[], true, []⟩, Aa, Aa, Aa, ⟨[], true, []⟩]) (.cond (.seq (.txt []) .leaf) .leaf)) (.cut ⟨[true, true, true], 3, [.slot 3 (.hb 0 0), .slot 4 (.hb 1 0), .slot 13 (.sc (.int .i64)), .slot 15 (.hb 2 0)], [(2, true), (7, true), (8, true), (11, true), (14, true)]⟩ (.cut ⟨[true, true, true], 3, [.slot 3 (.hb 0 0), .slot 4 (.hb 1 0), .slot 15 (.hb 2 0), .slot 134 (.sc (.bool))], [(2, true), (7, true), (8, true), (11, true), (13, true), (14, true)]⟩ (.plan [] (.take 0 Aa (.take 1 Aa (.take 2 Aa (.take 3 Aa (.take 4 Aa (.take 5 ⟨[], true, []⟩ (.take 6 Aa B4)))))))) (.cond (.txt []) .leaf)) (.seq (.txt []) (.seq (.seq (.txt []) (.cond (.seq (.txt []) .leaf) .leaf)) (.seq (.plan [] (.take 0 Aa (.take 1 Aa (.take 2 Aa (.take 3 Aa (.take 4 Aa (.take 5 Aa (.take 6 Aa (.take 7 Aa (.take 8 Aa .done)))))))))) (.seq (.txt []) (.cond (.txt []) (.txt []))))))))))) (.txt [])))))) (.seq (.txt [Aa, Aa, Aa, ⟨[], true, []⟩, Aa, Aa, Aa, Aa, ⟨[], true, []⟩]) .leaf)))))))
set_option maxRecDepth 100000 in
theorem D0 (σ : Hp) (a0_Parking_A : Option Addr) (a0_Parking_n : Nat) (a0_Parking_c : Nat) (a0_Roads_A : Option Addr) (a0_Roads_n : Nat) (a0_Roads_c : Nat) (a1_Height : Int) (a1_Weight : Int) (a1_From : Int) (a1_Ready : Int) (a1_Drive : Int) (a1_Rest : Int) (a2_A : Option Addr) (a2_n : Nat) (a2_c : Nat) (R : Value → Hp → Prop) (h : Bz σ a0_Parking_A a0_Parking_n a0_Parking_c a0_Roads_A a0_Roads_n a0_Roads_c a1_Height a1_Weight a1_From a1_Ready a1_Drive a1_Rest a2_A a2_n a2_c R) : Ae Try.prog 9 #[(.agg #[(.slice a0_Parking_A a0_Parking_n a0_Parking_c), (.slice a0_Roads_A a0_Roads_n a0_Roads_c)]), (.agg #[(.int .i64 a1_Height), (.int .i64 a1_Weight), (.int .i64 a1_From), (.int .i64 a1_Ready), (.int .i64 a1_Drive), (.int .i64 a1_Rest)]), (.slice a2_A a2_n a2_c)] σ R :=
  Al Fr DS Try.func9 rfl (by kernel_rfl) (by kernel_rfl) (M := Bz σ a0_Parking_A a0_Parking_n a0_Parking_c a0_Roads_A a0_Roads_n a0_Roads_c a1_Height a1_Weight a1_From a1_Ready a1_Drive a1_Rest a2_A a2_n a2_c R) (by kernel_rfl) h
end Go.Proofs.Ytkdjkkimngeloaa
