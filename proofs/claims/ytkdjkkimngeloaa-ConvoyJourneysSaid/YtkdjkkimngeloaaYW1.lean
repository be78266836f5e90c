/- Trimmed by wip/trim.py to what this claim rests on. -/
import Derived.Test.YtkdjkkimngeloaaYB11
namespace Go.Proofs.Ytkdjkkimngeloaa
open Go.RowKit
theorem FT : Try.prog.follows .mixedOrders = true := by kernel_rfl
abbrev IV : FuncId := 49
def Fm (σ : Hp) (R : Value → Hp → Prop) : Prop :=
  exl 4 [.bool] ([false, true, false, false] : List Bool) σ (fun A1 l1 c1 σ2 => exl 51 [.int .i64, .int .i64, .int .i64, .int .i64, .int .i64] ([(0, 1, 10, 40, 90), (1, 2, 10, 30, 90), (0, 2, 40, 50, 90), (2, 3, 5, 50, 20)] : List (Int × Int × Int × Int × Int)) σ2 (fun A3 l3 c3 σ4 => 
    rt σ4 R (.tuple #[(.agg #[(.slice A1 l1 c1), (.slice A3 l3 c3)]), (.agg #[(.int .i64 25), (.int .i64 20), (.int .i64 0), (.int .i64 0), (.int .i64 15), (.int .i64 5)])])))
def G4 : MAn := (.seq (.txt []) (.seq (.txt []) (.seq (.txt []) .leaf)))
set_option maxRecDepth 100000 in
theorem GL (σ : Hp) (R : Value → Hp → Prop) (h : Fm σ  R) : Ag Try.prog 49 #[] σ R :=
  An FT G4 Try.func49 rfl (by kernel_rfl) (by kernel_rfl) (M := Fm σ  R) (by kernel_rfl) h
theorem Fw : Aw Try.prog 49 = true := by kernel_rfl
abbrev GE : FuncId := 18
def Ed (σ : Hp) (R : Value → Hp → Prop) : Prop :=
  cl Try.prog (.func (.func 49) #[] #[]) #[] σ (fun v1 σ2 => ∃ A3 : Option Addr, ∃ l3 : Nat, ∃ c3 : Nat, ∃ A4 : Option Addr, ∃ l4 : Nat, ∃ c4 : Nat, ∃ n5 : Int, ∃ n6 : Int, ∃ n7 : Int, ∃ n8 : Int, ∃ n9 : Int, ∃ n10 : Int, (v1 = (.tuple #[(.agg #[(.slice A3 l3 c3), (.slice A4 l4 c4)]), (.agg #[(.int .i64 n5), (.int .i64 n6), (.int .i64 n7), (.int .i64 n8), (.int .i64 n9), (.int .i64 n10)])]) ∧ 
    cl Try.prog (.func (.func 19) #[] #[]) #[(.agg #[(.slice A3 l3 c3), (.slice A4 l4 c4)]), (.agg #[(.int .i64 n5), (.int .i64 n6), (.int .i64 n7), (.int .i64 n8), (.int .i64 n9), (.int .i64 n10)]), (.int .i64 2)] σ2 (fun v11 σ12 => 
    ∃ A13 : Option Addr, ∃ l13 : Nat, ∃ c13 : Nat, ∃ n14 : Int, (v11 = (.tuple #[(.slice A13 l13 c13), (.int .i64 n14)]) ∧ 
    cl Try.prog (.func (.func 23) #[] #[]) #[(.agg #[(.slice A3 l3 c3), (.slice A4 l4 c4)]), (.agg #[(.int .i64 n5), (.int .i64 n6), (.int .i64 n7), (.int .i64 n8), (.int .i64 n9), (.int .i64 n10)]), (.int .i64 2)] σ12 (fun v15 σ16 => 
    ∃ n17 : Int, ∃ n18 : Int, (v15 = (.tuple #[(.int .i64 n17), (.int .i64 n18)]) ∧ bc (decide (n14 = 0)) (bc (decide (n18 = 0)) (bc (decide (n17 = 30)) (bc (decide (((l13 : Nat) : Int) = 2)) (ix A13 l13 1 2 (fun b19 a20 => 
    ldI σ16 .i64 b19 a20 (fun n21 => ldI σ16 .i64 b19 (a20 + 1) (fun n22 => rt σ16 R (.bool (decide (n21 = 1) && decide (n22 = 15))))))) (rt σ16 R (.bool false))) (rt σ16 R (.bool false))) (rt σ16 R (.bool false))) (rt σ16 R (.bool false))))))))
def AC : OA := ⟨[], false, []⟩
def Ic : MAn := (.seq (.txt []) (.seq (.txt []) (.seq (.txt []) (.seq (.txt []) (.seq (.txt [AC, AC, ⟨[], true, []⟩, AC, AC, AC, ⟨[], true, []⟩, AC, AC, AC, ⟨[], true, []⟩, AC, AC, AC, AC, ⟨[], true, []⟩]) .leaf)))))
set_option maxRecDepth 100000 in
theorem Ih (σ : Hp) (R : Value → Hp → Prop) (h : Ed σ  R) : Ag Try.prog 18 #[] σ R :=
  An FT Ic Try.func18 rfl (by kernel_rfl) (by kernel_rfl) (M := Ed σ  R) (by kernel_rfl) h
theorem Gy : Aw Try.prog 18 = true := by kernel_rfl
abbrev LW : FuncId := 25
def FQ (σ : Hp) (_ : Option Addr) (m_Parking_n : Nat) (_ : Nat) (_ : Option Addr) (m_Roads_n : Nat) (_ : Nat) (R : Value → Hp → Prop) : Prop :=
  bc (decide ((20 : Int) < ((m_Parking_n : Nat) : Int))) (rt σ R (.bool true)) (rt σ R (.bool (decide ((40 : Int) < ((m_Roads_n : Nat) : Int)))))
def JK : MAn := (.seq (.txt []) (.seq (.txt [⟨[], false, []⟩, ⟨[], false, []⟩, ⟨[], false, []⟩, ⟨[], false, []⟩, ⟨[], true, []⟩]) .leaf))
set_option maxRecDepth 100000 in
theorem Jt (σ : Hp) (m_Parking_A : Option Addr) (m_Parking_n : Nat) (m_Parking_c : Nat) (m_Roads_A : Option Addr) (m_Roads_n : Nat) (m_Roads_c : Nat) (R : Value → Hp → Prop) (h : FQ σ m_Parking_A m_Parking_n m_Parking_c m_Roads_A m_Roads_n m_Roads_c R) : Ag Try.prog 25 #[(.agg #[(.slice m_Parking_A m_Parking_n m_Parking_c), (.slice m_Roads_A m_Roads_n m_Roads_c)])] σ R :=
  An FT JK Try.func25 rfl (by kernel_rfl) (by kernel_rfl) (M := FQ σ m_Parking_A m_Parking_n m_Parking_c m_Roads_A m_Roads_n m_Roads_c R) (by kernel_rfl) h
theorem Hu : Aw Try.prog 25 = true := by kernel_rfl
abbrev Ht : FuncId := 34
def ET (σ : Hp) (j_A : Option Addr) (j_n : Nat) (_ : Nat) (R : Value → Hp → Prop) : Prop :=
  ∃ ys1 : List (Int × Int), RdS [.int .i64, .int .i64] σ j_A j_n ys1 ∧ Ew (List.length ([] : List (Int × Int)) + List.length ys1) (exl 60 [.int .i64, .int .i64] (([] : List (Int × Int)) ++ ys1) σ (fun A2 l2 c2 σ3 => 
    rt σ3 R (.slice A2 l2 c2)))
def IR : MAn := (.seq (.txt []) (.seq (.txt []) .leaf))
set_option maxRecDepth 100000 in
theorem IS (σ : Hp) (j_A : Option Addr) (j_n : Nat) (j_c : Nat) (R : Value → Hp → Prop) (h : ET σ j_A j_n j_c R) : Ag Try.prog 34 #[(.slice j_A j_n j_c)] σ R :=
  An FT IR Try.func34 rfl (by kernel_rfl) (by kernel_rfl) (M := ET σ j_A j_n j_c R) (by kernel_rfl) h
theorem GN : Aw Try.prog 34 = true := by kernel_rfl
abbrev BA : FuncId := 8
def Bz (σ : Hp) (m_Parking_A : Option Addr) (m_Parking_n : Nat) (m_Parking_c : Nat) (m_Roads_A : Option Addr) (m_Roads_n : Nat) (m_Roads_c : Nat) (l_Height : Int) (l_Weight : Int) (l_From : Int) (l_Ready : Int) (l_Drive : Int) (l_Rest : Int) (j_A : Option Addr) (j_n : Nat) (j_c : Nat) (R : Value → Hp → Prop) : Prop :=
  cut (α := Hp → Prop) (fun  σ2 => ∀ _ : Nat → Value, cl Try.prog (.func (.func 20) #[] #[]) #[(.agg #[(.slice m_Parking_A m_Parking_n m_Parking_c), (.slice m_Roads_A m_Roads_n m_Roads_c)])] σ2 (fun v4 σ5 => 
    ∃ A6 : Option Addr, ∃ l6 : Nat, ∃ c6 : Nat, ∃ A7 : Option Addr, ∃ l7 : Nat, ∃ c7 : Nat, (v4 = (.agg #[(.slice A6 l6 c6), (.slice A7 l7 c7)]) ∧ 
    (Hp.Sub σ2 σ5 ∧ cl Try.prog (.func (.func 34) #[] #[]) #[(.slice j_A j_n j_c)] σ5 (fun v8 σ9 => ∃ A10 : Option Addr, ∃ l10 : Nat, ∃ c10 : Nat, (v8 = (.slice A10 l10 c10) ∧ 
    (Hp.Sub σ5 σ9 ∧ cl Try.prog (.func (.func 33) #[] #[]) #[(.agg #[(.slice A6 l6 c6), (.slice A7 l7 c7)]), (.agg #[(.int .i64 l_Height), (.int .i64 l_Weight), (.int .i64 l_From), (.int .i64 l_Ready), (.int .i64 l_Drive), (.int .i64 l_Rest)]), (.slice A10 l10 c10)] σ9 (fun v11 σ12 => 
    ∃ n13 : Int, ∃ n14 : Int, ∃ n15 : Int, ∃ n16 : Int, (v11 = (.tuple #[(.int .i64 n13), (.int .i64 n14), (.int .i64 n15), (.int .i64 n16)]) ∧ 
    cl Try.prog (.func (.func 35) #[] #[]) #[(.agg #[(.slice m_Parking_A m_Parking_n m_Parking_c), (.slice m_Roads_A m_Roads_n m_Roads_c)]), (.agg #[(.int .i64 l_Height), (.int .i64 l_Weight), (.int .i64 l_From), (.int .i64 l_Ready), (.int .i64 l_Drive), (.int .i64 l_Rest)]), (.slice j_A j_n j_c)] σ12 (fun v17 σ18 => 
    ∃ n19 : Int, ∃ n20 : Int, ∃ n21 : Int, ∃ n22 : Int, (v17 = (.tuple #[(.int .i64 n19), (.int .i64 n20), (.int .i64 n21), (.int .i64 n22)]) ∧ 
    bc (decide (n13 = n19)) (bc (decide (n14 = n20)) (bc (decide (n15 = n21)) (bc (decide (n16 = n22)) (cl Try.prog (.func (.func 18) #[] #[]) #[] σ18 (fun v23 σ24 => 
    ∃ t25 : Bool, (v23 = (.bool t25) ∧ rt σ24 R (.bool t25)))) (rt σ18 R (.bool false))) (rt σ18 R (.bool false))) (rt σ18 R (.bool false))) (rt σ18 R (.bool false))))))))))))) (fun J3 => 
    cut (α := Bool → Hp → Prop) (fun t29 σ27 => ∀ _ : Nat → Value, bc t29 (cl Try.prog (.func (.func 18) #[] #[]) #[] σ27 (fun v30 σ31 => 
    ∃ t32 : Bool, (v30 = (.bool t32) ∧ rt σ31 R (.bool t32)))) (J3 σ27)) (fun J28 => cl Try.prog (.func (.func 25) #[] #[]) #[(.agg #[(.slice m_Parking_A m_Parking_n m_Parking_c), (.slice m_Roads_A m_Roads_n m_Roads_c)])] σ (fun v33 σ34 => 
    ∃ t35 : Bool, (v33 = (.bool t35) ∧ bc t35 (J28 true σ34) (J28 (decide ((80 : Int) < ((j_n : Nat) : Int))) σ34)))))
def Ad : OA := ⟨[], false, []⟩
def DQ : MAn := (.seq (.txt []) (.cut ⟨[true, true], 2, [.slot 3 (.hb 0 0), .slot 4 (.hb 1 0)], [(2, true)]⟩ (.cut ⟨[true, true], 2, [.slot 3 (.hb 0 0), .slot 4 (.hb 1 0), .slot 21 (.sc (.bool))], [(2, true)]⟩ (.txt [Ad, Ad, ⟨[], true, []⟩]) (.cond (.seq (.txt []) .leaf) .leaf)) (.seq (.plan [5] (.take 0 Ad (.take 2 Ad (.take 3 Ad (.alt 1 true Ad (.alt 4 true Ad (.alt 5 false Ad (.take 6 Ad (.take 7 Ad (.take 8 Ad (.take 9 Ad (.take 10 Ad (.take 11 Ad (.take 12 Ad (.take 13 Ad (.take 14 Ad .done))))))))) .done) .done) .done))))) (.seq (.txt []) (.seq (.txt [Ad, Ad, Ad, ⟨[], true, []⟩, Ad, Ad, Ad, Ad, ⟨[], true, []⟩, Ad, Ad, Ad, Ad, ⟨[], true, []⟩, Ad, Ad, Ad, Ad, ⟨[], true, []⟩]) .leaf)))))
set_option maxRecDepth 100000 in
theorem DO (σ : Hp) (m_Parking_A : Option Addr) (m_Parking_n : Nat) (m_Parking_c : Nat) (m_Roads_A : Option Addr) (m_Roads_n : Nat) (m_Roads_c : Nat) (l_Height : Int) (l_Weight : Int) (l_From : Int) (l_Ready : Int) (l_Drive : Int) (l_Rest : Int) (j_A : Option Addr) (j_n : Nat) (j_c : Nat) (R : Value → Hp → Prop) (h : Bz σ m_Parking_A m_Parking_n m_Parking_c m_Roads_A m_Roads_n m_Roads_c l_Height l_Weight l_From l_Ready l_Drive l_Rest j_A j_n j_c R) : Ag Try.prog 8 #[(.agg #[(.slice m_Parking_A m_Parking_n m_Parking_c), (.slice m_Roads_A m_Roads_n m_Roads_c)]), (.agg #[(.int .i64 l_Height), (.int .i64 l_Weight), (.int .i64 l_From), (.int .i64 l_Ready), (.int .i64 l_Drive), (.int .i64 l_Rest)]), (.slice j_A j_n j_c)] σ R :=
  An FT DQ Try.func8 rfl (by kernel_rfl) (by kernel_rfl) (M := Bz σ m_Parking_A m_Parking_n m_Parking_c m_Roads_A m_Roads_n m_Roads_c l_Height l_Weight l_From l_Ready l_Drive l_Rest j_A j_n j_c R) (by kernel_rfl) h
end Go.Proofs.Ytkdjkkimngeloaa
