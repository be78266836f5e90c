/- Trimmed by wip/trim.py to what this claim rests on. -/
import Derived.Test.YtkdjkkimngeloaaXB11
namespace Go.Proofs.Ytkdjkkimngeloaa
open Go.RowKit
theorem Gd : Try.prog.follows .mixedOrders = true := by kernel_rfl
abbrev Jo : FuncId := 49
def FU (σ : Hp) (R : Value → Hp → Prop) : Prop :=
  exl 4 [.bool] ([false, true, false, false] : List Bool) σ (fun A1 l1 c1 σ2 => exl 51 [.int .i64, .int .i64, .int .i64, .int .i64, .int .i64] ([(0, 1, 10, 40, 90), (1, 2, 10, 30, 90), (0, 2, 40, 50, 90), (2, 3, 5, 50, 20)] : List (Int × Int × Int × Int × Int)) σ2 (fun A3 l3 c3 σ4 => 
    rt σ4 R (.tuple #[(.agg #[(.slice A1 l1 c1), (.slice A3 l3 c3)]), (.agg #[(.int .i64 25), (.int .i64 20), (.int .i64 0), (.int .i64 0), (.int .i64 15), (.int .i64 5)])])))
def Ho : MAn := (.seq (.txt []) (.seq (.txt []) (.seq (.txt []) .leaf)))
set_option maxRecDepth 100000 in
theorem Hs (σ : Hp) (R : Value → Hp → Prop) (h : FU σ  R) : Ag Try.prog 49 #[] σ R :=
  An Gd Ho Try.func49 rfl (by kernel_rfl) (by kernel_rfl) (M := FU σ  R) (by kernel_rfl) h
theorem FV : Az Try.prog 49 = true := by kernel_rfl
abbrev Hd : FuncId := 18
def Eo (σ : Hp) (R : Value → Hp → Prop) : Prop :=
  cl Try.prog (.func (.func 49) #[] #[]) #[] σ (fun v1 σ2 => ∃ A3 : Option Addr, ∃ l3 : Nat, ∃ c3 : Nat, ∃ A4 : Option Addr, ∃ l4 : Nat, ∃ c4 : Nat, ∃ n5 : Int, ∃ n6 : Int, ∃ n7 : Int, ∃ n8 : Int, ∃ n9 : Int, ∃ n10 : Int, (v1 = (.tuple #[(.agg #[(.slice A3 l3 c3), (.slice A4 l4 c4)]), (.agg #[(.int .i64 n5), (.int .i64 n6), (.int .i64 n7), (.int .i64 n8), (.int .i64 n9), (.int .i64 n10)])]) ∧ 
    cl Try.prog (.func (.func 19) #[] #[]) #[(.agg #[(.slice A3 l3 c3), (.slice A4 l4 c4)]), (.agg #[(.int .i64 n5), (.int .i64 n6), (.int .i64 n7), (.int .i64 n8), (.int .i64 n9), (.int .i64 n10)]), (.int .i64 2)] σ2 (fun v11 σ12 => 
    ∃ A13 : Option Addr, ∃ l13 : Nat, ∃ c13 : Nat, ∃ n14 : Int, (v11 = (.tuple #[(.slice A13 l13 c13), (.int .i64 n14)]) ∧ 
    cl Try.prog (.func (.func 23) #[] #[]) #[(.agg #[(.slice A3 l3 c3), (.slice A4 l4 c4)]), (.agg #[(.int .i64 n5), (.int .i64 n6), (.int .i64 n7), (.int .i64 n8), (.int .i64 n9), (.int .i64 n10)]), (.int .i64 2)] σ12 (fun v15 σ16 => 
    ∃ n17 : Int, ∃ n18 : Int, (v15 = (.tuple #[(.int .i64 n17), (.int .i64 n18)]) ∧ bc (decide (n14 = 0)) (bc (decide (n18 = 0)) (bc (decide (n17 = 30)) (bc (decide (((l13 : Nat) : Int) = 2)) (ix A13 l13 1 2 (fun b19 a20 => 
    ldI σ16 .i64 b19 a20 (fun n21 => ldI σ16 .i64 b19 (a20 + 1) (fun n22 => rt σ16 R (.bool (decide (n21 = 1) && decide (n22 = 15))))))) (rt σ16 R (.bool false))) (rt σ16 R (.bool false))) (rt σ16 R (.bool false))) (rt σ16 R (.bool false))))))))
def AG : OA := ⟨[], false, []⟩
def IG : MAn := (.seq (.txt []) (.seq (.txt []) (.seq (.txt []) (.seq (.txt []) (.seq (.txt [AG, AG, ⟨[], true, []⟩, AG, AG, AG, ⟨[], true, []⟩, AG, AG, AG, ⟨[], true, []⟩, AG, AG, AG, AG, ⟨[], true, []⟩]) .leaf)))))
set_option maxRecDepth 100000 in
theorem IN (σ : Hp) (R : Value → Hp → Prop) (h : Eo σ  R) : Ag Try.prog 18 #[] σ R :=
  An Gd IG Try.func18 rfl (by kernel_rfl) (by kernel_rfl) (M := Eo σ  R) (by kernel_rfl) h
theorem G4 : Az Try.prog 18 = true := by kernel_rfl
abbrev Na : FuncId := 25
def Gk (σ : Hp) (_ : Option Addr) (m_Parking_n : Nat) (_ : Nat) (_ : Option Addr) (m_Roads_n : Nat) (_ : Nat) (R : Value → Hp → Prop) : Prop :=
  bc (decide ((20 : Int) < ((m_Parking_n : Nat) : Int))) (rt σ R (.bool true)) (rt σ R (.bool (decide ((40 : Int) < ((m_Roads_n : Nat) : Int)))))
def JQ : MAn := (.seq (.txt []) (.seq (.txt [⟨[], false, []⟩, ⟨[], false, []⟩, ⟨[], false, []⟩, ⟨[], false, []⟩, ⟨[], true, []⟩]) .leaf))
set_option maxRecDepth 100000 in
theorem KD (σ : Hp) (m_Parking_A : Option Addr) (m_Parking_n : Nat) (m_Parking_c : Nat) (m_Roads_A : Option Addr) (m_Roads_n : Nat) (m_Roads_c : Nat) (R : Value → Hp → Prop) (h : Gk σ m_Parking_A m_Parking_n m_Parking_c m_Roads_A m_Roads_n m_Roads_c R) : Ag Try.prog 25 #[(.agg #[(.slice m_Parking_A m_Parking_n m_Parking_c), (.slice m_Roads_A m_Roads_n m_Roads_c)])] σ R :=
  An Gd JQ Try.func25 rfl (by kernel_rfl) (by kernel_rfl) (M := Gk σ m_Parking_A m_Parking_n m_Parking_c m_Roads_A m_Roads_n m_Roads_c R) (by kernel_rfl) h
theorem H9 : Az Try.prog 25 = true := by kernel_rfl
abbrev L0 : FuncId := 34
def FI (σ : Hp) (j_A : Option Addr) (j_n : Nat) (_ : Nat) (R : Value → Hp → Prop) : Prop :=
  ∃ ys1 : List (Int × Int), RdS [.int .i64, .int .i64] σ j_A j_n ys1 ∧ BS (List.length ([] : List (Int × Int)) + List.length ys1) (exl 60 [.int .i64, .int .i64] (([] : List (Int × Int)) ++ ys1) σ (fun A2 l2 c2 σ3 => 
    rt σ3 R (.slice A2 l2 c2)))
def Jr : MAn := (.seq (.txt []) (.seq (.txt []) .leaf))
set_option maxRecDepth 100000 in
theorem Jy (σ : Hp) (j_A : Option Addr) (j_n : Nat) (j_c : Nat) (R : Value → Hp → Prop) (h : FI σ j_A j_n j_c R) : Ag Try.prog 34 #[(.slice j_A j_n j_c)] σ R :=
  An Gd Jr Try.func34 rfl (by kernel_rfl) (by kernel_rfl) (M := FI σ j_A j_n j_c R) (by kernel_rfl) h
abbrev B2 : FuncId := 10
def AR (A5 : Option Addr) (l5 : Nat) (c5 : Nat) (σ97 : Hp) (ys125 : List (Int × Int × Int × Int × Int × Int)) (A98 : Option Addr) (l98 : Nat) (c98 : Nat) (A99 : Option Addr) (l99 : Nat) (c99 : Nat) (n112 : Int) (n124 : Int) (J14 : Int → Int → Hp → Prop) : Prop :=
  (cl Try.prog (.func (.func 37) #[] #[]) #[(.slice A5 l5 c5)] σ97 (fun v126 σ127 => 
    ∃ A128 : Option Addr, ∃ l128 : Nat, ∃ c128 : Nat, (v126 = (.slice A128 l128 c128) ∧ (Hp.Sub σ97 σ127 ∧ 
    exl 27 [.int .i64, .int .i64, .int .i64, .int .i64, .int .i64, .int .i64] (([] : List (Int × Int × Int × Int × Int × Int)) ++ ys125) σ127 (fun A129 l129 c129 σ130 => 
    cl Try.prog (.func (.func 36) #[] #[]) #[(.agg #[(.slice A98 l98 c98), (.slice A99 l99 c99)]), (.slice A129 l129 c129), (.int .i64 n112), (.int .i64 n124), (.slice A128 l128 c128)] σ130 (fun v131 σ132 => 
    ∃ n133 : Int, ∃ n134 : Int, (v131 = (.tuple #[(.int .i64 n133), (.int .i64 n134)]) ∧ J14 n133 n134 σ132)))))))
def AC (σ35 : Hp) (σ42 : Hp) (ys38 : List (Int × Int × Int × Int × Int × Int)) (A36 : Option Addr) (l36 : Nat) (c36 : Nat) (A37 : Option Addr) (l37 : Nat) (c37 : Nat) (n39 : Int) (n40 : Int) (A43 : Option Addr) (l43 : Nat) (c43 : Nat) (J14 : Int → Int → Hp → Prop) : Prop :=
  (Hp.Sub σ35 σ42 ∧ exl 27 [.int .i64, .int .i64, .int .i64, .int .i64, .int .i64, .int .i64] (([] : List (Int × Int × Int × Int × Int × Int)) ++ ys38) σ42 (fun A44 l44 c44 σ45 => 
    cl Try.prog (.func (.func 36) #[] #[]) #[(.agg #[(.slice A36 l36 c36), (.slice A37 l37 c37)]), (.slice A44 l44 c44), (.int .i64 n39), (.int .i64 n40), (.slice A43 l43 c43)] σ45 (fun v46 σ47 => 
    ∃ n48 : Int, ∃ n49 : Int, (v46 = (.tuple #[(.int .i64 n48), (.int .i64 n49)]) ∧ J14 n48 n49 σ47))))
def Bf (σ97 : Hp) (a1_A : Option Addr) (a1_n : Nat) (b32 : Nat) (o33 : Nat) (A5 : Option Addr) (l5 : Nat) (c5 : Nat) (A98 : Option Addr) (l98 : Nat) (c98 : Nat) (A99 : Option Addr) (l99 : Nat) (c99 : Nat) (n112 : Int) (J14 : Int → Int → Hp → Prop) : Prop :=
  ((∃ ys113 : List (Int × Int × Int × Int × Int × Int), RdS [.int .i64, .int .i64, .int .i64, .int .i64, .int .i64, .int .i64] σ97 a1_A a1_n ys113 ∧ 
    BS (List.length ([] : List (Int × Int × Int × Int × Int × Int)) + List.length ys113) (ldI σ97 .i64 b32 (o33 + 1) (fun n114 => 
    cl Try.prog (.func (.func 37) #[] #[]) #[(.slice A5 l5 c5)] σ97 (fun v115 σ116 => ∃ A117 : Option Addr, ∃ l117 : Nat, ∃ c117 : Nat, (v115 = (.slice A117 l117 c117) ∧ 
    (AC σ97 σ116 ys113 A98 l98 c98 A99 l99 c99 n112 n114 A117 l117 c117 J14)))))) ∧ 
    (ldI σ97 .i64 b32 (o33 + 1) (fun n124 => ∃ ys125 : List (Int × Int × Int × Int × Int × Int), RdS [.int .i64, .int .i64, .int .i64, .int .i64, .int .i64, .int .i64] σ97 a1_A a1_n ys125 ∧ 
    BS (List.length ([] : List (Int × Int × Int × Int × Int × Int)) + List.length ys125) (AR A5 l5 c5 σ97 ys125 A98 l98 c98 A99 l99 c99 n112 n124 J14))))
def Bi (σ97 : Hp) (a1_A : Option Addr) (a1_n : Nat) (b30 : Nat) (o31 : Nat) (A5 : Option Addr) (l5 : Nat) (c5 : Nat) (A98 : Option Addr) (l98 : Nat) (c98 : Nat) (A99 : Option Addr) (l99 : Nat) (c99 : Nat) (n135 : Int) (J14 : Int → Int → Hp → Prop) : Prop :=
  ((∃ ys136 : List (Int × Int × Int × Int × Int × Int), RdS [.int .i64, .int .i64, .int .i64, .int .i64, .int .i64, .int .i64] σ97 a1_A a1_n ys136 ∧ 
    BS (List.length ([] : List (Int × Int × Int × Int × Int × Int)) + List.length ys136) (ldI σ97 .i64 b30 o31 (fun n137 => 
    cl Try.prog (.func (.func 37) #[] #[]) #[(.slice A5 l5 c5)] σ97 (fun v138 σ139 => ∃ A140 : Option Addr, ∃ l140 : Nat, ∃ c140 : Nat, (v138 = (.slice A140 l140 c140) ∧ 
    (AC σ97 σ139 ys136 A98 l98 c98 A99 l99 c99 n137 n135 A140 l140 c140 J14)))))) ∧ 
    (ldI σ97 .i64 b30 o31 (fun n147 => ∃ ys148 : List (Int × Int × Int × Int × Int × Int), RdS [.int .i64, .int .i64, .int .i64, .int .i64, .int .i64, .int .i64] σ97 a1_A a1_n ys148 ∧ 
    BS (List.length ([] : List (Int × Int × Int × Int × Int × Int)) + List.length ys148) (AR A5 l5 c5 σ97 ys148 A98 l98 c98 A99 l99 c99 n147 n135 J14))))
def Bg (v186 : Value) (A188 : Option Addr) (l188 : Nat) (c188 : Nat) (A189 : Option Addr) (l189 : Nat) (c189 : Nat) (σ10 : Hp) (σ187 : Hp) (a1_A : Option Addr) (a1_n : Nat) (A5 : Option Addr) (l5 : Nat) (c5 : Nat) (n158 : Int) (n185 : Int) (J14 : Int → Int → Hp → Prop) : Prop :=
  (v186 = (.agg #[(.slice A188 l188 c188), (.slice A189 l189 c189)]) ∧ 
    (Hp.Sub σ10 σ187 ∧ ∃ ys190 : List (Int × Int × Int × Int × Int × Int), RdS [.int .i64, .int .i64, .int .i64, .int .i64, .int .i64, .int .i64] σ187 a1_A a1_n ys190 ∧ 
    BS (List.length ([] : List (Int × Int × Int × Int × Int × Int)) + List.length ys190) (AR A5 l5 c5 σ187 ys190 A188 l188 c188 A189 l189 c189 n158 n185 J14)))
def BM (a0_Parking_A : Option Addr) (a0_Parking_n : Nat) (a0_Parking_c : Nat) (a0_Roads_A : Option Addr) (a0_Roads_n : Nat) (a0_Roads_c : Nat) (σ10 : Hp) (a1_A : Option Addr) (a1_n : Nat) (b32 : Nat) (o33 : Nat) (A5 : Option Addr) (l5 : Nat) (c5 : Nat) (n158 : Int) (J14 : Int → Int → Hp → Prop) : Prop :=
  ((cl Try.prog (.func (.func 20) #[] #[]) #[(.agg #[(.slice a0_Parking_A a0_Parking_n a0_Parking_c), (.slice a0_Roads_A a0_Roads_n a0_Roads_c)])] σ10 (fun v159 σ160 => 
    ∃ A161 : Option Addr, ∃ l161 : Nat, ∃ c161 : Nat, ∃ A162 : Option Addr, ∃ l162 : Nat, ∃ c162 : Nat, (v159 = (.agg #[(.slice A161 l161 c161), (.slice A162 l162 c162)]) ∧ 
    (Hp.Sub σ10 σ160 ∧ (Bf σ160 a1_A a1_n b32 o33 A5 l5 c5 A161 l161 c161 A162 l162 c162 n158 J14))))) ∧ 
    (ldI σ10 .i64 b32 (o33 + 1) (fun n185 => cl Try.prog (.func (.func 20) #[] #[]) #[(.agg #[(.slice a0_Parking_A a0_Parking_n a0_Parking_c), (.slice a0_Roads_A a0_Roads_n a0_Roads_c)])] σ10 (fun v186 σ187 => 
    ∃ A188 : Option Addr, ∃ l188 : Nat, ∃ c188 : Nat, ∃ A189 : Option Addr, ∃ l189 : Nat, ∃ c189 : Nat, (Bg v186 A188 l188 c188 A189 l189 c189 σ10 σ187 a1_A a1_n A5 l5 c5 n158 n185 J14)))))
def BK (a0_Parking_A : Option Addr) (a0_Parking_n : Nat) (a0_Parking_c : Nat) (a0_Roads_A : Option Addr) (a0_Roads_n : Nat) (a0_Roads_c : Nat) (σ10 : Hp) (a1_A : Option Addr) (a1_n : Nat) (b30 : Nat) (o31 : Nat) (A5 : Option Addr) (l5 : Nat) (c5 : Nat) (n200 : Int) (J14 : Int → Int → Hp → Prop) : Prop :=
  ((cl Try.prog (.func (.func 20) #[] #[]) #[(.agg #[(.slice a0_Parking_A a0_Parking_n a0_Parking_c), (.slice a0_Roads_A a0_Roads_n a0_Roads_c)])] σ10 (fun v201 σ202 => 
    ∃ A203 : Option Addr, ∃ l203 : Nat, ∃ c203 : Nat, ∃ A204 : Option Addr, ∃ l204 : Nat, ∃ c204 : Nat, (v201 = (.agg #[(.slice A203 l203 c203), (.slice A204 l204 c204)]) ∧ 
    (Hp.Sub σ10 σ202 ∧ (Bi σ202 a1_A a1_n b30 o31 A5 l5 c5 A203 l203 c203 A204 l204 c204 n200 J14))))) ∧ 
    (ldI σ10 .i64 b30 o31 (fun n227 => cl Try.prog (.func (.func 20) #[] #[]) #[(.agg #[(.slice a0_Parking_A a0_Parking_n a0_Parking_c), (.slice a0_Roads_A a0_Roads_n a0_Roads_c)])] σ10 (fun v228 σ229 => 
    ∃ A230 : Option Addr, ∃ l230 : Nat, ∃ c230 : Nat, ∃ A231 : Option Addr, ∃ l231 : Nat, ∃ c231 : Nat, (Bg v228 A230 l230 c230 A231 l231 c231 σ10 σ229 a1_A a1_n A5 l5 c5 n227 n200 J14)))))
def AQ (a0_Parking_A : Option Addr) (a0_Parking_n : Nat) (a0_Parking_c : Nat) (a0_Roads_A : Option Addr) (a0_Roads_n : Nat) (a0_Roads_c : Nat) (σ10 : Hp) (a1_A : Option Addr) (a1_n : Nat) (A5 : Option Addr) (l5 : Nat) (c5 : Nat) (n242 : Int) (n310 : Int) (J14 : Int → Int → Hp → Prop) : Prop :=
  (cl Try.prog (.func (.func 20) #[] #[]) #[(.agg #[(.slice a0_Parking_A a0_Parking_n a0_Parking_c), (.slice a0_Roads_A a0_Roads_n a0_Roads_c)])] σ10 (fun v311 σ312 => 
    ∃ A313 : Option Addr, ∃ l313 : Nat, ∃ c313 : Nat, ∃ A314 : Option Addr, ∃ l314 : Nat, ∃ c314 : Nat, (Bg v311 A313 l313 c313 A314 l314 c314 σ10 σ312 a1_A a1_n A5 l5 c5 n242 n310 J14)))
def B5 (σ : Hp) (a0_Parking_A : Option Addr) (a0_Parking_n : Nat) (a0_Parking_c : Nat) (a0_Roads_A : Option Addr) (a0_Roads_n : Nat) (a0_Roads_c : Nat) (a1_A : Option Addr) (a1_n : Nat) (a1_c : Nat) (a2_Way_To : Int) (a2_Way_Gap : Int) (_ : Option Addr) (_ : Nat) (_ : Nat) (a2_Legs_A : Option Addr) (a2_Legs_n : Nat) (a2_Legs_c : Nat) (R : Value → Hp → Prop) : Prop :=
  cut (α := Option Addr → Option Addr → Nat → Nat → Hp → Prop) (fun p4 A5 l5 c5 σ2 => ∀ _ : Nat → Value, 
    cut (α := Hp → Prop) (fun  σ7 => ∀ _ : Nat → Value, cut (α := Hp → Prop) (fun  σ10 => ∀ _ : Nat → Value, 
    cut (α := Int → Int → Hp → Prop) (fun n15 n16 σ13 => ∀ _ : Nat → Value, dr p4 (fun b17 o18 => ldI σ13 .i64 b17 o18 (fun n19 => 
    dr p4 (fun b20 o21 => ldI σ13 .i64 b20 (o21 + 1) (fun n22 => cl Try.prog (.func (.func 38) #[] #[]) #[(.agg #[(.slice a0_Parking_A a0_Parking_n a0_Parking_c), (.slice a0_Roads_A a0_Roads_n a0_Roads_c)]), (.slice a1_A a1_n a1_c), (.int .i64 n19), (.int .i64 n22), (.slice A5 l5 c5)] σ13 (fun v23 σ24 => 
    ∃ n25 : Int, ∃ n26 : Int, (v23 = (.tuple #[(.int .i64 n25), (.int .i64 n26)]) ∧ bc (decide (n15 = n25)) (bc (decide (n16 = n26)) (cl Try.prog (.func (.func 18) #[] #[]) #[] σ24 (fun v27 σ28 => 
    ∃ t29 : Bool, (v27 = (.bool t29) ∧ rt σ28 R (.bool t29)))) (rt σ24 R (.bool false))) (rt σ24 R (.bool false))))))))) (fun J14 => 
    dr p4 (fun b30 o31 => dr p4 (fun b32 o33 => ((cl Try.prog (.func (.func 20) #[] #[]) #[(.agg #[(.slice a0_Parking_A a0_Parking_n a0_Parking_c), (.slice a0_Roads_A a0_Roads_n a0_Roads_c)])] σ10 (fun v34 σ35 => 
    ∃ A36 : Option Addr, ∃ l36 : Nat, ∃ c36 : Nat, ∃ A37 : Option Addr, ∃ l37 : Nat, ∃ c37 : Nat, (v34 = (.agg #[(.slice A36 l36 c36), (.slice A37 l37 c37)]) ∧ 
    (Hp.Sub σ10 σ35 ∧ ((∃ ys38 : List (Int × Int × Int × Int × Int × Int), RdS [.int .i64, .int .i64, .int .i64, .int .i64, .int .i64, .int .i64] σ35 a1_A a1_n ys38 ∧ 
    BS (List.length ([] : List (Int × Int × Int × Int × Int × Int)) + List.length ys38) (ldI σ35 .i64 b30 o31 (fun n39 => 
    ldI σ35 .i64 b32 (o33 + 1) (fun n40 => cl Try.prog (.func (.func 37) #[] #[]) #[(.slice A5 l5 c5)] σ35 (fun v41 σ42 => 
    ∃ A43 : Option Addr, ∃ l43 : Nat, ∃ c43 : Nat, (v41 = (.slice A43 l43 c43) ∧ (AC σ35 σ42 ys38 A36 l36 c36 A37 l37 c37 n39 n40 A43 l43 c43 J14))))))) ∧ 
    (ldI σ35 .i64 b30 o31 (fun n50 => ((∃ ys51 : List (Int × Int × Int × Int × Int × Int), RdS [.int .i64, .int .i64, .int .i64, .int .i64, .int .i64, .int .i64] σ35 a1_A a1_n ys51 ∧ 
    BS (List.length ([] : List (Int × Int × Int × Int × Int × Int)) + List.length ys51) (ldI σ35 .i64 b32 (o33 + 1) (fun n52 => 
    cl Try.prog (.func (.func 37) #[] #[]) #[(.slice A5 l5 c5)] σ35 (fun v53 σ54 => ∃ A55 : Option Addr, ∃ l55 : Nat, ∃ c55 : Nat, (v53 = (.slice A55 l55 c55) ∧ 
    (AC σ35 σ54 ys51 A36 l36 c36 A37 l37 c37 n50 n52 A55 l55 c55 J14)))))) ∧ 
    (ldI σ35 .i64 b32 (o33 + 1) (fun n62 => ∃ ys63 : List (Int × Int × Int × Int × Int × Int), RdS [.int .i64, .int .i64, .int .i64, .int .i64, .int .i64, .int .i64] σ35 a1_A a1_n ys63 ∧ 
    BS (List.length ([] : List (Int × Int × Int × Int × Int × Int)) + List.length ys63) (cl Try.prog (.func (.func 37) #[] #[]) #[(.slice A5 l5 c5)] σ35 (fun v64 σ65 => 
    ∃ A66 : Option Addr, ∃ l66 : Nat, ∃ c66 : Nat, (v64 = (.slice A66 l66 c66) ∧ (AC σ35 σ65 ys63 A36 l36 c36 A37 l37 c37 n50 n62 A66 l66 c66 J14))))))))) ∧ 
    (ldI σ35 .i64 b32 (o33 + 1) (fun n73 => ((∃ ys74 : List (Int × Int × Int × Int × Int × Int), RdS [.int .i64, .int .i64, .int .i64, .int .i64, .int .i64, .int .i64] σ35 a1_A a1_n ys74 ∧ 
    BS (List.length ([] : List (Int × Int × Int × Int × Int × Int)) + List.length ys74) (ldI σ35 .i64 b30 o31 (fun n75 => 
    cl Try.prog (.func (.func 37) #[] #[]) #[(.slice A5 l5 c5)] σ35 (fun v76 σ77 => ∃ A78 : Option Addr, ∃ l78 : Nat, ∃ c78 : Nat, (v76 = (.slice A78 l78 c78) ∧ 
    (AC σ35 σ77 ys74 A36 l36 c36 A37 l37 c37 n75 n73 A78 l78 c78 J14)))))) ∧ 
    (ldI σ35 .i64 b30 o31 (fun n85 => ∃ ys86 : List (Int × Int × Int × Int × Int × Int), RdS [.int .i64, .int .i64, .int .i64, .int .i64, .int .i64, .int .i64] σ35 a1_A a1_n ys86 ∧ 
    BS (List.length ([] : List (Int × Int × Int × Int × Int × Int)) + List.length ys86) (cl Try.prog (.func (.func 37) #[] #[]) #[(.slice A5 l5 c5)] σ35 (fun v87 σ88 => 
    ∃ A89 : Option Addr, ∃ l89 : Nat, ∃ c89 : Nat, (v87 = (.slice A89 l89 c89) ∧ (AC σ35 σ88 ys86 A36 l36 c36 A37 l37 c37 n85 n73 A89 l89 c89 J14)))))))))))))) ∧ 
    ((cl Try.prog (.func (.func 20) #[] #[]) #[(.agg #[(.slice a0_Parking_A a0_Parking_n a0_Parking_c), (.slice a0_Roads_A a0_Roads_n a0_Roads_c)])] σ10 (fun v96 σ97 => 
    ∃ A98 : Option Addr, ∃ l98 : Nat, ∃ c98 : Nat, ∃ A99 : Option Addr, ∃ l99 : Nat, ∃ c99 : Nat, (v96 = (.agg #[(.slice A98 l98 c98), (.slice A99 l99 c99)]) ∧ 
    (Hp.Sub σ10 σ97 ∧ ((∃ ys100 : List (Int × Int × Int × Int × Int × Int), RdS [.int .i64, .int .i64, .int .i64, .int .i64, .int .i64, .int .i64] σ97 a1_A a1_n ys100 ∧ 
    BS (List.length ([] : List (Int × Int × Int × Int × Int × Int)) + List.length ys100) (ldI σ97 .i64 b30 o31 (fun n101 => 
    ldI σ97 .i64 b32 (o33 + 1) (fun n102 => cl Try.prog (.func (.func 37) #[] #[]) #[(.slice A5 l5 c5)] σ97 (fun v103 σ104 => 
    ∃ A105 : Option Addr, ∃ l105 : Nat, ∃ c105 : Nat, (v103 = (.slice A105 l105 c105) ∧ (Hp.Sub σ97 σ104 ∧ 
    exl 27 [.int .i64, .int .i64, .int .i64, .int .i64, .int .i64, .int .i64] (([] : List (Int × Int × Int × Int × Int × Int)) ++ ys100) σ104 (fun A106 l106 c106 σ107 => 
    cl Try.prog (.func (.func 36) #[] #[]) #[(.agg #[(.slice A98 l98 c98), (.slice A99 l99 c99)]), (.slice A106 l106 c106), (.int .i64 n101), (.int .i64 n102), (.slice A105 l105 c105)] σ107 (fun v108 σ109 => 
    ∃ n110 : Int, ∃ n111 : Int, (v108 = (.tuple #[(.int .i64 n110), (.int .i64 n111)]) ∧ J14 n110 n111 σ109)))))))))) ∧ 
    (ldI σ97 .i64 b30 o31 (fun n112 => (Bf σ97 a1_A a1_n b32 o33 A5 l5 c5 A98 l98 c98 A99 l99 c99 n112 J14))) ∧ 
    (ldI σ97 .i64 b32 (o33 + 1) (fun n135 => (Bi σ97 a1_A a1_n b30 o31 A5 l5 c5 A98 l98 c98 A99 l99 c99 n135 J14)))))))) ∧ 
    (ldI σ10 .i64 b30 o31 (fun n158 => (BM a0_Parking_A a0_Parking_n a0_Parking_c a0_Roads_A a0_Roads_n a0_Roads_c σ10 a1_A a1_n b32 o33 A5 l5 c5 n158 J14))) ∧ 
    (ldI σ10 .i64 b32 (o33 + 1) (fun n200 => (BK a0_Parking_A a0_Parking_n a0_Parking_c a0_Roads_A a0_Roads_n a0_Roads_c σ10 a1_A a1_n b30 o31 A5 l5 c5 n200 J14)))) ∧ 
    (ldI σ10 .i64 b30 o31 (fun n242 => ((cl Try.prog (.func (.func 20) #[] #[]) #[(.agg #[(.slice a0_Parking_A a0_Parking_n a0_Parking_c), (.slice a0_Roads_A a0_Roads_n a0_Roads_c)])] σ10 (fun v243 σ244 => 
    ∃ A245 : Option Addr, ∃ l245 : Nat, ∃ c245 : Nat, ∃ A246 : Option Addr, ∃ l246 : Nat, ∃ c246 : Nat, (v243 = (.agg #[(.slice A245 l245 c245), (.slice A246 l246 c246)]) ∧ 
    (Hp.Sub σ10 σ244 ∧ (Bf σ244 a1_A a1_n b32 o33 A5 l5 c5 A245 l245 c245 A246 l246 c246 n242 J14))))) ∧ 
    (BM a0_Parking_A a0_Parking_n a0_Parking_c a0_Roads_A a0_Roads_n a0_Roads_c σ10 a1_A a1_n b32 o33 A5 l5 c5 n242 J14) ∧ 
    (ldI σ10 .i64 b32 (o33 + 1) (fun n310 => ((AQ a0_Parking_A a0_Parking_n a0_Parking_c a0_Roads_A a0_Roads_n a0_Roads_c σ10 a1_A a1_n A5 l5 c5 n242 n310 J14) ∧ 
    (AQ a0_Parking_A a0_Parking_n a0_Parking_c a0_Roads_A a0_Roads_n a0_Roads_c σ10 a1_A a1_n A5 l5 c5 n242 n310 J14))))))) ∧ 
    (ldI σ10 .i64 b32 (o33 + 1) (fun n339 => ((cl Try.prog (.func (.func 20) #[] #[]) #[(.agg #[(.slice a0_Parking_A a0_Parking_n a0_Parking_c), (.slice a0_Roads_A a0_Roads_n a0_Roads_c)])] σ10 (fun v340 σ341 => 
    ∃ A342 : Option Addr, ∃ l342 : Nat, ∃ c342 : Nat, ∃ A343 : Option Addr, ∃ l343 : Nat, ∃ c343 : Nat, (v340 = (.agg #[(.slice A342 l342 c342), (.slice A343 l343 c343)]) ∧ 
    (Hp.Sub σ10 σ341 ∧ (Bi σ341 a1_A a1_n b30 o31 A5 l5 c5 A342 l342 c342 A343 l343 c343 n339 J14))))) ∧ 
    (BK a0_Parking_A a0_Parking_n a0_Parking_c a0_Roads_A a0_Roads_n a0_Roads_c σ10 a1_A a1_n b30 o31 A5 l5 c5 n339 J14) ∧ 
    (ldI σ10 .i64 b30 o31 (fun n407 => ((AQ a0_Parking_A a0_Parking_n a0_Parking_c a0_Roads_A a0_Roads_n a0_Roads_c σ10 a1_A a1_n A5 l5 c5 n407 n339 J14) ∧ 
    (AQ a0_Parking_A a0_Parking_n a0_Parking_c a0_Roads_A a0_Roads_n a0_Roads_c σ10 a1_A a1_n A5 l5 c5 n407 n339 J14)))))))))))) (fun J11 => 
    ∃ I438 : Nat → Int → Hp → Prop, (∃ n4390, I438 n4390 0 σ7) ∧ ∀ n439 : Nat, ∀ n440 : Int, ∀ σ437 : Hp, I438 n439 n440 σ437 → ∀ _ : Nat → Value, bc (decide (n440 < ((l5 : Nat) : Int))) (ix A5 l5 n440 1 (fun b441 a442 => 
    ldS σ437 b441 a442 (fun _ l443 _ => bc (decide ((80 : Int) < ((l443 : Nat) : Int))) (cl Try.prog (.func (.func 18) #[] #[]) #[] σ437 (fun v444 σ445 => 
    ∃ t446 : Bool, (v444 = (.bool t446) ∧ rt σ445 R (.bool t446)))) (wk .i64 (n440 + 1) (fun n447 => bk σ437 n439 (fun m448 σ449 => 
    I438 m448 n447 σ449)))))) (J11 σ437))) (fun J8 => cut (α := Bool → Hp → Prop) (fun t453 σ451 => ∀ _ : Nat → Value, 
    bc t453 (cl Try.prog (.func (.func 18) #[] #[]) #[] σ451 (fun v454 σ455 => ∃ t456 : Bool, (v454 = (.bool t456) ∧ 
    rt σ455 R (.bool t456)))) (J8 σ451)) (fun J452 => cl Try.prog (.func (.func 25) #[] #[]) #[(.agg #[(.slice a0_Parking_A a0_Parking_n a0_Parking_c), (.slice a0_Roads_A a0_Roads_n a0_Roads_c)])] σ2 (fun v457 σ458 => 
    ∃ t459 : Bool, (v457 = (.bool t459) ∧ bc t459 (J452 true σ458) (bc (decide ((12 : Int) < ((a1_n : Nat) : Int))) (J452 true σ458) (J452 (decide ((12 : Int) < ((l5 : Nat) : Int))) σ458))))))) (fun J3 => 
    ((bx σ (.cells #[(.int .i64 a2_Way_To), (.int .i64 a2_Way_Gap)] 62) (fun b460 σ461 => J3 (some ⟨b460, 0, none⟩) a2_Legs_A a2_Legs_n a2_Legs_c σ461)) ∧ 
    (bx σ (.cells #[(.int .i64 a2_Way_To), (.int .i64 a2_Way_Gap)] 62) (fun b462 σ463 => J3 (some ⟨b462, 0, none⟩) a2_Legs_A a2_Legs_n a2_Legs_c σ463))))
def Aa : OA := ⟨[], false, []⟩
def Bd : MPlan := (.alt 10 true Aa (.alt 11 false Aa (.take 12 Aa (.take 13 Aa (.take 14 Aa (.take 15 Aa (.take 16 Aa .done))))) .done) .done)
def Bc : MPlan := (.alt 4 false Aa Bd .done)
def Be : MPlan := (.alt 4 false Aa (.take 8 Aa Bd) (.alt 8 true Aa Bc .done))
def Bb : MPlan := (.alt 4 false Aa (.take 6 Aa Bd) (.alt 6 true Aa Bc .done))
def CA : MPlan := (.alt 4 false Aa (.take 6 Aa (.take 8 Aa Bd)) (.alt 6 true Aa Be (.alt 8 true Aa Bb .done)))
def AS : MPlan := (.alt 1 true Aa Bc .done)
def Cw : MPlan := (.alt 1 true Aa (.alt 2 true Aa Bc .done) (.alt 2 true Aa AS .done))
def Ey : MAn := (.seq (.txt []) (.cut ⟨[true, true], 2, [.slot 3 (.hb 0 0), .slot 7 (.sc (.ptr)), .slot 8 (.sc (.slc))], [(1, true)]⟩ (.plan [5] (.take 0 Aa (.take 1 Aa (.take 2 Aa (.new 4 Aa (.alt 3 true Aa (.alt 5 false Aa (.take 6 Aa .done) .done) (.alt 5 false Aa (.take 3 Aa (.take 6 Aa .done)) .done))))))) (.cut ⟨[true, true], 2, [.slot 3 (.hb 0 0)], [(1, true), (7, true), (8, true)]⟩ (.cut ⟨[true, true], 2, [.slot 3 (.hb 0 0), .slot 29 (.sc (.bool))], [(1, true), (7, true), (8, true)]⟩ (.txt [Aa, Aa, ⟨[], true, []⟩, Aa, Aa, Aa, Aa, ⟨[], true, []⟩]) (.cond (.seq (.txt []) .leaf) .leaf)) (.cut ⟨[true, true], 2, [.slot 3 (.hb 0 0)], [(1, true), (7, true), (8, true)]⟩ (.seq (.txt []) (.block (.loop ⟨[true, true], 2, [.slot 3 (.hb 0 0), .slot 9 (.sc (.int .i64))], [(1, true), (7, true), (8, true)]⟩ (.seq (.seq (.txt []) (.cond .leaf .leaf)) (.seq (.block (.seq (.txt []) (.cond (.seq (.txt []) .leaf) .leaf))) (.txt [])))))) (.cut ⟨[true, true], 2, [.slot 3 (.hb 0 0), .slot 10 (.sc (.int .i64)), .slot 11 (.sc (.int .i64))], [(1, true), (7, true), (8, true)]⟩ (.plan [4, 11] (.take 0 Aa (.take 3 Aa (.take 5 Aa (.take 7 Aa (.take 9 Aa (.alt 1 true Aa (.new 2 Aa CA) (.alt 2 true Aa (.alt 1 true Aa CA (.alt 6 true Aa (.alt 1 true Aa Be (.alt 8 true Aa AS .done)) (.alt 8 true Aa (.alt 1 true Aa Bb (.alt 6 true Aa AS .done)) .done))) (.alt 6 true Aa (.alt 1 true Aa (.new 2 Aa Be) (.alt 2 true Aa (.alt 1 true Aa Be (.alt 8 true Aa AS .done)) (.alt 8 true Aa Cw .done))) (.alt 8 true Aa (.alt 1 true Aa (.new 2 Aa Bb) (.alt 2 true Aa (.alt 1 true Aa Bb (.alt 6 true Aa AS .done)) (.alt 6 true Aa Cw .done))) .done)))))))))) (.seq (.txt []) (.seq (.txt [Aa, Aa, Aa, ⟨[], true, []⟩, Aa, Aa, Aa, Aa, ⟨[], true, []⟩]) .leaf)))))))
set_option maxRecDepth 100000 in
theorem EJ (σ : Hp) (a0_Parking_A : Option Addr) (a0_Parking_n : Nat) (a0_Parking_c : Nat) (a0_Roads_A : Option Addr) (a0_Roads_n : Nat) (a0_Roads_c : Nat) (a1_A : Option Addr) (a1_n : Nat) (a1_c : Nat) (a2_Way_To : Int) (a2_Way_Gap : Int) (a2_Order_A : Option Addr) (a2_Order_n : Nat) (a2_Order_c : Nat) (a2_Legs_A : Option Addr) (a2_Legs_n : Nat) (a2_Legs_c : Nat) (R : Value → Hp → Prop) (h : B5 σ a0_Parking_A a0_Parking_n a0_Parking_c a0_Roads_A a0_Roads_n a0_Roads_c a1_A a1_n a1_c a2_Way_To a2_Way_Gap a2_Order_A a2_Order_n a2_Order_c a2_Legs_A a2_Legs_n a2_Legs_c R) : Ag Try.prog 10 #[(.agg #[(.slice a0_Parking_A a0_Parking_n a0_Parking_c), (.slice a0_Roads_A a0_Roads_n a0_Roads_c)]), (.slice a1_A a1_n a1_c), (.agg #[(.int .i64 a2_Way_To), (.int .i64 a2_Way_Gap), (.slice a2_Order_A a2_Order_n a2_Order_c), (.slice a2_Legs_A a2_Legs_n a2_Legs_c)])] σ R :=
  An Gd Ey Try.func10 rfl (by kernel_rfl) (by kernel_rfl) (M := B5 σ a0_Parking_A a0_Parking_n a0_Parking_c a0_Roads_A a0_Roads_n a0_Roads_c a1_A a1_n a1_c a2_Way_To a2_Way_Gap a2_Order_A a2_Order_n a2_Order_c a2_Legs_A a2_Legs_n a2_Legs_c R) (by kernel_rfl) h
end Go.Proofs.Ytkdjkkimngeloaa
