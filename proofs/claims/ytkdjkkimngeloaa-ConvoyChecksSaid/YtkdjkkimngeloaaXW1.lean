/- Trimmed by wip/trim.py to what this claim rests on. -/
import Derived.Test.YtkdjkkimngeloaaXB11
namespace Go.Proofs.Ytkdjkkimngeloaa
open Go.RowKit
theorem FG : Try.prog.follows .mixedOrders = true := by kernel_rfl
abbrev IB : FuncId := 49
def Fb (σ : Hp) (R : Value → Hp → Prop) : Prop :=
  exl 4 [.bool] ([false, true, false, false] : List Bool) σ (fun A1 l1 c1 σ2 => exl 51 [.int .i64, .int .i64, .int .i64, .int .i64, .int .i64] ([(0, 1, 10, 40, 90), (1, 2, 10, 30, 90), (0, 2, 40, 50, 90), (2, 3, 5, 50, 20)] : List (Int × Int × Int × Int × Int)) σ2 (fun A3 l3 c3 σ4 => 
    rt σ4 R (.tuple #[(.agg #[(.slice A1 l1 c1), (.slice A3 l3 c3)]), (.agg #[(.int .i64 25), (.int .i64 20), (.int .i64 0), (.int .i64 0), (.int .i64 15), (.int .i64 5)])])))
def GF : MAn := (.seq (.txt []) (.seq (.txt []) (.seq (.txt []) .leaf)))
set_option maxRecDepth 100000 in
theorem GN (σ : Hp) (R : Value → Hp → Prop) (h : Fb σ  R) : Ad Try.prog 49 #[] σ R :=
  Aj FG GF Try.func49 rfl (by kernel_rfl) (by kernel_rfl) (M := Fb σ  R) (by kernel_rfl) h
theorem Fp : As Try.prog 49 = true := by kernel_rfl
abbrev Gj : FuncId := 18
def D2 (σ : Hp) (R : Value → Hp → Prop) : Prop :=
  cl Try.prog (.func (.func 49) #[] #[]) #[] σ (fun v1 σ2 => ∃ A3 : Option Addr, ∃ l3 : Nat, ∃ c3 : Nat, ∃ A4 : Option Addr, ∃ l4 : Nat, ∃ c4 : Nat, ∃ n5 : Int, ∃ n6 : Int, ∃ n7 : Int, ∃ n8 : Int, ∃ n9 : Int, ∃ n10 : Int, (v1 = (.tuple #[(.agg #[(.slice A3 l3 c3), (.slice A4 l4 c4)]), (.agg #[(.int .i64 n5), (.int .i64 n6), (.int .i64 n7), (.int .i64 n8), (.int .i64 n9), (.int .i64 n10)])]) ∧ 
    cl Try.prog (.func (.func 19) #[] #[]) #[(.agg #[(.slice A3 l3 c3), (.slice A4 l4 c4)]), (.agg #[(.int .i64 n5), (.int .i64 n6), (.int .i64 n7), (.int .i64 n8), (.int .i64 n9), (.int .i64 n10)]), (.int .i64 2)] σ2 (fun v11 σ12 => 
    ∃ A13 : Option Addr, ∃ l13 : Nat, ∃ c13 : Nat, ∃ n14 : Int, (v11 = (.tuple #[(.slice A13 l13 c13), (.int .i64 n14)]) ∧ 
    cl Try.prog (.func (.func 23) #[] #[]) #[(.agg #[(.slice A3 l3 c3), (.slice A4 l4 c4)]), (.agg #[(.int .i64 n5), (.int .i64 n6), (.int .i64 n7), (.int .i64 n8), (.int .i64 n9), (.int .i64 n10)]), (.int .i64 2)] σ12 (fun v15 σ16 => 
    ∃ n17 : Int, ∃ n18 : Int, (v15 = (.tuple #[(.int .i64 n17), (.int .i64 n18)]) ∧ bc (decide (n14 = 0)) (bc (decide (n18 = 0)) (bc (decide (n17 = 30)) (bc (decide (((l13 : Nat) : Int) = 2)) (ix A13 l13 1 2 (fun b19 a20 => 
    ldI σ16 .i64 b19 a20 (fun n21 => ldI σ16 .i64 b19 (a20 + 1) (fun n22 => rt σ16 R (.bool (decide (n21 = 1) && decide (n22 = 15))))))) (rt σ16 R (.bool false))) (rt σ16 R (.bool false))) (rt σ16 R (.bool false))) (rt σ16 R (.bool false))))))))
def Az : OA := ⟨[], false, []⟩
def HN : MAn := (.seq (.txt []) (.seq (.txt []) (.seq (.txt []) (.seq (.txt []) (.seq (.txt [Az, Az, ⟨[], true, []⟩, Az, Az, Az, ⟨[], true, []⟩, Az, Az, Az, ⟨[], true, []⟩, Az, Az, Az, Az, ⟨[], true, []⟩]) .leaf)))))
set_option maxRecDepth 100000 in
theorem HI (σ : Hp) (R : Value → Hp → Prop) (h : D2 σ  R) : Ad Try.prog 18 #[] σ R :=
  Aj FG HN Try.func18 rfl (by kernel_rfl) (by kernel_rfl) (M := D2 σ  R) (by kernel_rfl) h
theorem Gg : As Try.prog 18 = true := by kernel_rfl
abbrev Lo : FuncId := 25
def FL (σ : Hp) (_ : Option Addr) (m_Parking_n : Nat) (_ : Nat) (_ : Option Addr) (m_Roads_n : Nat) (_ : Nat) (R : Value → Hp → Prop) : Prop :=
  bc (decide ((20 : Int) < ((m_Parking_n : Nat) : Int))) (rt σ R (.bool true)) (rt σ R (.bool (decide ((40 : Int) < ((m_Roads_n : Nat) : Int)))))
def Jr : MAn := (.seq (.txt []) (.seq (.txt [⟨[], false, []⟩, ⟨[], false, []⟩, ⟨[], false, []⟩, ⟨[], false, []⟩, ⟨[], true, []⟩]) .leaf))
set_option maxRecDepth 100000 in
theorem Jf (σ : Hp) (m_Parking_A : Option Addr) (m_Parking_n : Nat) (m_Parking_c : Nat) (m_Roads_A : Option Addr) (m_Roads_n : Nat) (m_Roads_c : Nat) (R : Value → Hp → Prop) (h : FL σ m_Parking_A m_Parking_n m_Parking_c m_Roads_A m_Roads_n m_Roads_c R) : Ad Try.prog 25 #[(.agg #[(.slice m_Parking_A m_Parking_n m_Parking_c), (.slice m_Roads_A m_Roads_n m_Roads_c)])] σ R :=
  Aj FG Jr Try.func25 rfl (by kernel_rfl) (by kernel_rfl) (M := FL σ m_Parking_A m_Parking_n m_Parking_c m_Roads_A m_Roads_n m_Roads_c R) (by kernel_rfl) h
theorem GW : As Try.prog 25 = true := by kernel_rfl
abbrev Ko : FuncId := 34
def E3 (σ : Hp) (j_A : Option Addr) (j_n : Nat) (_ : Nat) (R : Value → Hp → Prop) : Prop :=
  ∃ ys1 : List (Int × Int), RdS [.int .i64, .int .i64] σ j_A j_n ys1 ∧ Eo (List.length ([] : List (Int × Int)) + List.length ys1) (exl 60 [.int .i64, .int .i64] (([] : List (Int × Int)) ++ ys1) σ (fun A2 l2 c2 σ3 => 
    rt σ3 R (.slice A2 l2 c2)))
def Iw : MAn := (.seq (.txt []) (.seq (.txt []) .leaf))
set_option maxRecDepth 100000 in
theorem Ix (σ : Hp) (j_A : Option Addr) (j_n : Nat) (j_c : Nat) (R : Value → Hp → Prop) (h : E3 σ j_A j_n j_c R) : Ad Try.prog 34 #[(.slice j_A j_n j_c)] σ R :=
  Aj FG Iw Try.func34 rfl (by kernel_rfl) (by kernel_rfl) (M := E3 σ j_A j_n j_c R) (by kernel_rfl) h
abbrev BL : FuncId := 5
def BN (σ : Hp) (m_Parking_A : Option Addr) (m_Parking_n : Nat) (m_Parking_c : Nat) (m_Roads_A : Option Addr) (m_Roads_n : Nat) (m_Roads_c : Nat) (l_Height : Int) (l_Weight : Int) (l_From : Int) (l_Ready : Int) (l_Drive : Int) (l_Rest : Int) (road : Int) (R : Value → Hp → Prop) : Prop :=
  cl Try.prog (.func (.func 25) #[] #[]) #[(.agg #[(.slice m_Parking_A m_Parking_n m_Parking_c), (.slice m_Roads_A m_Roads_n m_Roads_c)])] σ (fun v1 σ2 => 
    ∃ t3 : Bool, (v1 = (.bool t3) ∧ bc t3 (cl Try.prog (.func (.func 18) #[] #[]) #[] σ2 (fun v4 σ5 => ∃ t6 : Bool, (v4 = (.bool t6) ∧ 
    rt σ5 R (.bool t6)))) (cl Try.prog (.func (.func 20) #[] #[]) #[(.agg #[(.slice m_Parking_A m_Parking_n m_Parking_c), (.slice m_Roads_A m_Roads_n m_Roads_c)])] σ2 (fun v7 σ8 => 
    ∃ A9 : Option Addr, ∃ l9 : Nat, ∃ c9 : Nat, ∃ A10 : Option Addr, ∃ l10 : Nat, ∃ c10 : Nat, (v7 = (.agg #[(.slice A9 l9 c9), (.slice A10 l10 c10)]) ∧ 
    (Hp.Sub σ2 σ8 ∧ cl Try.prog (.func (.func 26) #[] #[]) #[(.agg #[(.slice A9 l9 c9), (.slice A10 l10 c10)]), (.agg #[(.int .i64 l_Height), (.int .i64 l_Weight), (.int .i64 l_From), (.int .i64 l_Ready), (.int .i64 l_Drive), (.int .i64 l_Rest)]), (.int .i64 road)] σ8 (fun v11 σ12 => 
    ∃ t13 : Bool, ∃ n14 : Int, (v11 = (.tuple #[(.bool t13), (.int .i64 n14)]) ∧ cl Try.prog (.func (.func 27) #[] #[]) #[(.agg #[(.slice m_Parking_A m_Parking_n m_Parking_c), (.slice m_Roads_A m_Roads_n m_Roads_c)]), (.agg #[(.int .i64 l_Height), (.int .i64 l_Weight), (.int .i64 l_From), (.int .i64 l_Ready), (.int .i64 l_Drive), (.int .i64 l_Rest)]), (.int .i64 road)] σ12 (fun v15 σ16 => 
    ∃ t17 : Bool, ∃ n18 : Int, (v15 = (.tuple #[(.bool t17), (.int .i64 n18)]) ∧ cl Try.prog (.func (.func 20) #[] #[]) #[(.agg #[(.slice m_Parking_A m_Parking_n m_Parking_c), (.slice m_Roads_A m_Roads_n m_Roads_c)])] σ16 (fun v19 σ20 => 
    ∃ A21 : Option Addr, ∃ l21 : Nat, ∃ c21 : Nat, ∃ A22 : Option Addr, ∃ l22 : Nat, ∃ c22 : Nat, (v19 = (.agg #[(.slice A21 l21 c21), (.slice A22 l22 c22)]) ∧ 
    (Hp.Sub σ16 σ20 ∧ cl Try.prog (.func (.func 28) #[] #[]) #[(.agg #[(.slice A21 l21 c21), (.slice A22 l22 c22)]), (.agg #[(.int .i64 l_Height), (.int .i64 l_Weight), (.int .i64 l_From), (.int .i64 l_Ready), (.int .i64 l_Drive), (.int .i64 l_Rest)])] σ20 (fun v23 σ24 => 
    ∃ n25 : Int, (v23 = (.int .i64 n25) ∧ (Hp.Sub σ20 σ24 ∧ cl Try.prog (.func (.func 29) #[] #[]) #[(.agg #[(.slice m_Parking_A m_Parking_n m_Parking_c), (.slice m_Roads_A m_Roads_n m_Roads_c)]), (.agg #[(.int .i64 l_Height), (.int .i64 l_Weight), (.int .i64 l_From), (.int .i64 l_Ready), (.int .i64 l_Drive), (.int .i64 l_Rest)])] σ24 (fun v26 σ27 => 
    ∃ n28 : Int, (v26 = (.int .i64 n28) ∧ bc (decide (n25 = n28)) (bc (t13 == t17) (bc (decide (n14 = n18)) (cl Try.prog (.func (.func 18) #[] #[]) #[] σ27 (fun v29 σ30 => 
    ∃ t31 : Bool, (v29 = (.bool t31) ∧ rt σ30 R (.bool t31)))) (rt σ27 R (.bool false))) (rt σ27 R (.bool false))) (rt σ27 R (.bool false))))))))))))))))))))
def Ac : OA := ⟨[], false, []⟩
def Ee : MAn := (.seq (.txt []) (.seq (.seq (.txt []) (.cond (.seq (.txt []) .leaf) .leaf)) (.seq (.plan [4] (.take 0 Ac (.take 2 Ac (.take 3 Ac (.alt 1 true Ac (.alt 4 false Ac (.take 5 Ac (.take 6 Ac (.take 7 Ac (.take 8 Ac (.take 9 Ac .done))))) .done) .done))))) (.seq (.txt []) (.seq (.plan [6, 19] (.take 0 Ac (.take 2 Ac (.take 4 Ac (.take 5 Ac (.alt 1 true Ac (.alt 3 true Ac (.alt 6 false Ac (.take 7 Ac (.take 8 ⟨[], true, []⟩ (.take 9 Ac (.take 10 Ac (.take 11 Ac (.take 12 Ac (.take 13 ⟨[], true, []⟩ (.take 14 Ac (.take 15 Ac (.take 16 Ac (.take 17 Ac (.take 18 ⟨[], true, []⟩ (.alt 19 false Ac (.take 20 Ac (.take 21 Ac .done)) .done))))))))))))) .done) .done) .done)))))) .leaf)))))
set_option maxRecDepth 100000 in
theorem Ec (σ : Hp) (m_Parking_A : Option Addr) (m_Parking_n : Nat) (m_Parking_c : Nat) (m_Roads_A : Option Addr) (m_Roads_n : Nat) (m_Roads_c : Nat) (l_Height : Int) (l_Weight : Int) (l_From : Int) (l_Ready : Int) (l_Drive : Int) (l_Rest : Int) (road : Int) (R : Value → Hp → Prop) (h : BN σ m_Parking_A m_Parking_n m_Parking_c m_Roads_A m_Roads_n m_Roads_c l_Height l_Weight l_From l_Ready l_Drive l_Rest road R) : Ad Try.prog 5 #[(.agg #[(.slice m_Parking_A m_Parking_n m_Parking_c), (.slice m_Roads_A m_Roads_n m_Roads_c)]), (.agg #[(.int .i64 l_Height), (.int .i64 l_Weight), (.int .i64 l_From), (.int .i64 l_Ready), (.int .i64 l_Drive), (.int .i64 l_Rest)]), (.int .i64 road)] σ R :=
  Aj FG Ee Try.func5 rfl (by kernel_rfl) (by kernel_rfl) (M := BN σ m_Parking_A m_Parking_n m_Parking_c m_Roads_A m_Roads_n m_Roads_c l_Height l_Weight l_From l_Ready l_Drive l_Rest road R) (by kernel_rfl) h
end Go.Proofs.Ytkdjkkimngeloaa
