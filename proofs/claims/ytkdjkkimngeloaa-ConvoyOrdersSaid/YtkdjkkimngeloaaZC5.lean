/- Trimmed by wip/trim.py to what this claim rests on. -/
import Derived.Test.YtkdjkkimngeloaaZB11
namespace Go.Proofs.Ytkdjkkimngeloaa
open Go.RowKit
theorem Ct : Try.prog.follows .mixedOrders = true := by kernel_rfl
abbrev Kc : FuncId := 67
def Dk (σ : Hp) (a0_Parking_A : Option Addr) (a0_Parking_n : Nat) (a0_Parking_c : Nat) (a0_Roads_A : Option Addr) (a0_Roads_n : Nat) (a0_Roads_c : Nat) (a1_A : Option Addr) (a1_n : Nat) (a1_c : Nat) (a2 : Int) (a3 : Int) (R : Value → Hp → Prop) : Prop :=
  cl Try.prog (.func (.func 50) #[] #[]) #[(.agg #[(.slice a0_Parking_A a0_Parking_n a0_Parking_c), (.slice a0_Roads_A a0_Roads_n a0_Roads_c)]), (.int .i64 a2), (.slice a1_A a1_n a1_c)] σ (fun v1 σ2 => 
    ∃ n3 : Int, (v1 = (.int .i64 n3) ∧ bc (!decide (n3 = 0)) (rt σ2 R (.tuple #[(.pointer none), (.int .i64 n3)])) (cl Try.prog (.func (.func 58) #[] #[]) #[(.int .i64 a3), (.int .i64 0), (.int .i64 100)] σ2 (fun v4 σ5 => 
    ∃ t6 : Bool, (v4 = (.bool t6) ∧ bc (!t6) (rt σ5 R (.tuple #[(.pointer none), (.int .i64 1)])) (cut (α := List ((Option Addr × Nat × Nat)) → List Int → Hp → Prop) (fun xs10 xs11 σ8 => 
    ∀ _ : Nat → Value, exl 32 [.slc] xs10 σ8 (fun A12 l12 c12 σ13 => exl 3 [.int .i64] xs11 σ13 (fun A14 l14 c14 σ15 => 
    bx σ15 (.cells #[(.slice A12 l12 c12), (.slice A14 l14 c14)] 115) (fun b16 σ17 => rt σ17 R (.tuple #[(.pointer (some ⟨b16, 0, none⟩)), (.int .i64 0)]))))) (fun J9 => 
    ∃ I20 : Nat → Int → List ((Option Addr × Nat × Nat)) → List Int → Hp → Prop, (∃ n210, adp 32 [.slc] none 0 0 σ5 (fun (xs22 : List ((Option Addr × Nat × Nat))) σ23 => 
    adp 3 [.int .i64] none 0 0 σ23 (fun (xs24 : List Int) σ25 => I20 n210 0 xs22 xs24 σ25))) ∧ ∀ n21 : Nat, ∀ n26 : Int, ∀ xs27 : List ((Option Addr × Nat × Nat)), ∀ xs28 : List Int, ∀ σ19 : Hp, I20 n21 n26 xs27 xs28 σ19 → ∀ _ : Nat → Value, bc (decide (n26 < ((a1_n : Nat) : Int))) (cut (α := List ((Option Addr × Nat × Nat)) → List Int → Hp → Prop) (fun xs32 xs33 σ30 => 
    ∀ _ : Nat → Value, wk .i64 (n26 + 1) (fun n34 => bk σ30 n21 (fun m35 σ36 => I20 m35 n34 xs32 xs33 σ36))) (fun J31 => 
    ix a1_A a1_n n26 6 (fun b37 a38 => ldI σ19 .i64 b37 a38 (fun n39 => ldI σ19 .i64 b37 (a38 + 1) (fun n40 => 
    ldI σ19 .i64 b37 (a38 + 2) (fun n41 => ldI σ19 .i64 b37 (a38 + 3) (fun n42 => ldI σ19 .i64 b37 (a38 + 4) (fun n43 => 
    ldI σ19 .i64 b37 (a38 + 5) (fun n44 => cl Try.prog (.func (.func 51) #[] #[]) #[(.agg #[(.slice a0_Parking_A a0_Parking_n a0_Parking_c), (.slice a0_Roads_A a0_Roads_n a0_Roads_c), (.int .i64 n39), (.int .i64 n40), (.int .i64 n41), (.int .i64 n42), (.int .i64 n43), (.int .i64 n44)]), (.int .i64 a2)] σ19 (fun v45 σ46 => 
    ∃ A47 : Option Addr, ∃ l47 : Nat, ∃ c47 : Nat, ∃ t48 : Bool, (v45 = (.tuple #[(.slice A47 l47 c47), (.bool t48)]) ∧ 
    bc (!t48) (rt σ46 R (.tuple #[(.pointer none), (.int .i64 3)])) (cut (α := Int → Hp → Prop) (fun n52 σ50 => 
    ∀ _ : Nat → Value, ((AO (List.length xs27 + List.length ([(A47, l47, c47)] : List ((Option Addr × Nat × Nat)))) (AO (List.length xs28 + List.length ([n52] : List Int)) (J31 (xs27 ++ ([(A47, l47, c47)] : List ((Option Addr × Nat × Nat)))) (xs28 ++ ([n52] : List Int)) σ50))) ∧ 
    (AO (List.length xs27 + List.length ([(A47, l47, c47)] : List ((Option Addr × Nat × Nat)))) (AO (List.length xs28 + List.length ([n52] : List Int)) (J31 (xs27 ++ ([(A47, l47, c47)] : List ((Option Addr × Nat × Nat)))) (xs28 ++ ([n52] : List Int)) σ50))))) (fun J51 => 
    bc (decide ((0 : Int) < ((l47 : Nat) : Int))) (wk .i64 (((l47 : Nat) : Int) - 1) (fun n53 => ix A47 l47 n53 2 (fun b54 a55 => 
    ldI σ46 .i64 b54 (a55 + 1) (fun n56 => wk .i64 (((l47 : Nat) : Int) - 1) (fun n57 => ix A47 l47 n57 2 (fun b58 a59 => 
    ldI σ46 .i64 b58 a59 (fun n60 => ix a0_Roads_A a0_Roads_n n60 5 (fun b61 a62 => ldI σ46 .i64 b61 (a62 + 2) (fun n63 => 
    wk .i64 (n56 + n63) (fun n64 => J51 n64 σ46)))))))))) (J51 n42 σ46)))))))))))))) (J9 xs27 xs28 σ19))))))))
def Af : OA := ⟨[], false, []⟩
def DR : MPlan := (.alt 15 false Af (.take 16 Af (.take 17 Af (.alt 18 false Af (.take 19 Af (.take 20 Af (.alt 21 false Af .done .done))) .done))) .done)
def Hq : MAn := (.seq (.txt []) (.seq (.seq (.txt []) (.seq (.txt []) (.cond (.seq (.txt []) .leaf) .leaf))) (.seq (.seq (.txt []) (.cond (.seq (.txt []) .leaf) .leaf)) (.seq (.txt []) (.cut ⟨[true, false], 4, [.slot 11 (.hb 1 0), .modb 1 115 [.lst 2 32 [.slc], .lst 3 3 [.int .i64]]], []⟩ (.seq (.txt []) (.block (.loop ⟨[true, false], 4, [.slot 4 (.hb 0 0), .slot 11 (.hb 1 0), .slot 32 (.sc (.int .i64)), .modb 1 115 [.lst 2 32 [.slc], .lst 3 3 [.int .i64]]], [(2, true), (30, true), (31, true)]⟩ (.seq (.txt []) (.seq (.cond .leaf .leaf) (.cut ⟨[true, false, false, false], 4, [.slot 4 (.hb 0 0), .slot 11 (.hb 1 0), .modb 1 115 [.lst 2 32 [.slc], .lst 3 3 [.int .i64]]], [(2, true), (30, true), (31, true), (32, true)]⟩ (.block (.seq (.txt []) (.seq (.txt []) (.seq (.seq (.txt []) (.cond (.seq (.txt []) .leaf) .leaf)) (.seq (.txt []) (.cut ⟨[true, true, true, true, true], 5, [.slot 4 (.hb 0 0), .slot 11 (.hb 1 0), .slot 16 (.sc (.int .i64))], [(2, true), (14, true), (30, true), (31, true), (32, true)]⟩ (.seq (.txt []) (.seq (.txt []) (.cond (.plan [] (.take 0 Af (.take 1 Af (.take 2 Af (.take 3 Af (.take 4 Af (.take 5 Af (.take 6 Af (.take 7 Af (.take 8 Af (.take 9 Af (.take 10 Af (.take 11 Af (.take 12 Af (.take 13 Af (.take 14 Af (.take 15 Af (.take 16 Af (.take 17 Af (.take 18 Af .done)))))))))))))))))))) .leaf))) (.plan [8, 15, 18, 21] (.take 0 Af (.take 1 Af (.take 2 Af (.take 3 Af (.take 4 Af (.take 5 Af (.take 6 Af (.take 9 Af (.take 10 Af (.take 11 Af (.take 13 Af (.new 7 Af (.new 14 Af (.alt 8 false Af (.take 12 Af DR) (.alt 12 true Af (.alt 8 false Af DR .done) .done)))))))))))))))))))))) (.txt []))))))) (.seq (.txt []) .leaf))))))
set_option maxRecDepth 100000 in
theorem H2 (σ : Hp) (a0_Parking_A : Option Addr) (a0_Parking_n : Nat) (a0_Parking_c : Nat) (a0_Roads_A : Option Addr) (a0_Roads_n : Nat) (a0_Roads_c : Nat) (a1_A : Option Addr) (a1_n : Nat) (a1_c : Nat) (a2 : Int) (a3 : Int) (R : Value → Hp → Prop) (h : Dk σ a0_Parking_A a0_Parking_n a0_Parking_c a0_Roads_A a0_Roads_n a0_Roads_c a1_A a1_n a1_c a2 a3 R) : Ag Try.prog 67 #[(.agg #[(.slice a0_Parking_A a0_Parking_n a0_Parking_c), (.slice a0_Roads_A a0_Roads_n a0_Roads_c)]), (.slice a1_A a1_n a1_c), (.int .i64 a2), (.int .i64 a3)] σ R :=
  Ai Ct Hq Try.func67 rfl (by kernel_rfl) (by kernel_rfl) (M := Dk σ a0_Parking_A a0_Parking_n a0_Parking_c a0_Roads_A a0_Roads_n a0_Roads_c a1_A a1_n a1_c a2 a3 R) (by kernel_rfl) h
theorem C3 : Aw Try.prog 67 = true := by kernel_rfl
abbrev F5 : FuncId := 68
def B6 (σ : Hp) (f : Option Addr) (order_A : Option Addr) (order_n : Nat) (_ : Nat) (gap : Int) (R : Value → Hp → Prop) : Prop :=
  cut (α := List Int → Hp → Prop) (fun xs4 σ2 => ∀ _ : Nat → Value, exl 3 [.int .i64] xs4 σ2 (fun A5 l5 c5 σ6 => 
    rt σ6 R (.slice A5 l5 c5))) (fun J3 => ∃ I9 : Nat → List Int → Int → Hp → Prop, (∃ n100, adp 3 [.int .i64] none 0 0 σ (fun (xs11 : List Int) σ12 => 
    I9 n100 xs11 0 σ12)) ∧ ∀ n10 : Nat, ∀ xs13 : List Int, ∀ n14 : Int, ∀ σ8 : Hp, I9 n10 xs13 n14 σ8 → ∀ _ : Nat → Value, bc (decide (n14 < ((order_n : Nat) : Int))) (cut (α := List Int → Hp → Prop) (fun xs18 σ16 => 
    ∀ _ : Nat → Value, wk .i64 (n14 + 1) (fun n19 => bk σ16 n10 (fun m20 σ21 => I9 m20 xs18 n19 σ21))) (fun J17 => 
    ix order_A order_n n14 1 (fun b22 a23 => ldI σ8 .i64 b22 a23 (fun n24 => dr f (fun b25 o26 => ldS σ8 b25 (o26 + 1) (fun A27 l27 _ => 
    ix A27 l27 n24 1 (fun b28 a29 => ldI σ8 .i64 b28 a29 (fun n30 => cut (α := Int → Hp → Prop) (fun n34 σ32 => 
    ∀ _ : Nat → Value, AO (List.length xs13 + List.length ([n34] : List Int)) (J17 (xs13 ++ ([n34] : List Int)) σ32)) (fun J33 => 
    bc (decide ((0 : Int) < n14)) (wk .i64 (n14 - 1) (fun n35 => (0 ≤ n35 ∧ n35 < ((List.length xs13 : Nat) : Int) ∧ 
    lat xs13 ((n35 : Int).toNat) (fun r36 => wk .i64 (r36 + gap) (fun n37 => J33 (if n37 > n30 then n37 else n30) σ8))))) (J33 n30 σ8)))))))))) (J3 xs13 σ8))
def Ep : MAn := (.seq (.txt []) (.cut ⟨[], 1, [.slot 6 (.lst 0 3 [.int .i64])], []⟩ (.seq (.txt []) (.block (.loop ⟨[], 1, [.slot 6 (.lst 0 3 [.int .i64]), .slot 12 (.sc (.int .i64))], [(0, true), (2, true), (10, true), (11, true)]⟩ (.seq (.txt []) (.seq (.cond .leaf .leaf) (.cut ⟨[false], 1, [.slot 6 (.lst 0 3 [.int .i64])], [(0, true), (2, true), (10, true), (11, true), (12, true)]⟩ (.block (.seq (.txt []) (.seq (.txt []) (.cut ⟨[true], 1, [.slot 6 (.hl 0 0), .slot 9 (.sc (.int .i64))], [(0, true), (2, true), (10, true), (11, true), (12, true)]⟩ (.seq (.txt []) (.cond (.txt []) .leaf)) (.txt []))))) (.txt []))))))) (.seq (.txt []) .leaf)))
set_option maxRecDepth 100000 in
theorem EC (σ : Hp) (f : Option Addr) (order_A : Option Addr) (order_n : Nat) (order_c : Nat) (gap : Int) (R : Value → Hp → Prop) (h : B6 σ f order_A order_n order_c gap R) : Ag Try.prog 68 #[(.pointer f), (.slice order_A order_n order_c), (.int .i64 gap)] σ R :=
  Ai Ct Ep Try.func68 rfl (by kernel_rfl) (by kernel_rfl) (M := B6 σ f order_A order_n order_c gap R) (by kernel_rfl) h
theorem B9 : Aw Try.prog 68 = true := by kernel_rfl
abbrev MM : FuncId := 69
def EN (σ : Hp) (n : Int) (R : Value → Hp → Prop) : Prop :=
  cut (α := List Int → Hp → Prop) (fun xs4 σ2 => ∀ _ : Nat → Value, exl 3 [.int .i64] xs4 σ2 (fun A5 l5 c5 σ6 => 
    rt σ6 R (.slice A5 l5 c5))) (fun J3 => ∃ I9 : Nat → List Int → Int → Hp → Prop, (∃ n100, adp 3 [.int .i64] none 0 0 σ (fun (xs11 : List Int) σ12 => 
    I9 n100 xs11 0 σ12)) ∧ ∀ n10 : Nat, ∀ xs13 : List Int, ∀ n14 : Int, ∀ σ8 : Hp, I9 n10 xs13 n14 σ8 → ∀ _ : Nat → Value, bc (decide (n14 < n)) (AO (List.length xs13 + List.length ([n14] : List Int)) (wk .i64 (n14 + 1) (fun n15 => 
    bk σ8 n10 (fun m16 σ17 => I9 m16 (xs13 ++ ([n14] : List Int)) n15 σ17)))) (J3 xs13 σ8))
def JP : MAn := (.seq (.txt []) (.cut ⟨[], 1, [.slot 2 (.lst 0 3 [.int .i64])], []⟩ (.seq (.txt []) (.block (.loop ⟨[], 1, [.slot 2 (.lst 0 3 [.int .i64]), .slot 5 (.sc (.int .i64))], [(4, true)]⟩ (.seq (.txt []) (.seq (.cond .leaf .leaf) (.seq (.block (.seq (.txt []) (.txt []))) (.txt []))))))) (.seq (.txt []) .leaf)))
set_option maxRecDepth 100000 in
theorem Kd (σ : Hp) (n : Int) (R : Value → Hp → Prop) (h : EN σ n R) : Ag Try.prog 69 #[(.int .i64 n)] σ R :=
  Ai Ct JP Try.func69 rfl (by kernel_rfl) (by kernel_rfl) (M := EN σ n R) (by kernel_rfl) h
theorem H1 : Aw Try.prog 69 = true := by kernel_rfl
abbrev E7 : FuncId := 41
def Ds (σ : Hp) (m_Parking_A : Option Addr) (m_Parking_n : Nat) (m_Parking_c : Nat) (m_Roads_A : Option Addr) (m_Roads_n : Nat) (m_Roads_c : Nat) (l_A : Option Addr) (l_n : Nat) (l_c : Nat) (to : Int) (gap : Int) (R : Value → Hp → Prop) : Prop :=
  cl Try.prog (.func (.func 67) #[] #[]) #[(.agg #[(.slice m_Parking_A m_Parking_n m_Parking_c), (.slice m_Roads_A m_Roads_n m_Roads_c)]), (.slice l_A l_n l_c), (.int .i64 to), (.int .i64 gap)] σ (fun v1 σ2 => 
    ∃ p3 : Option Addr, ∃ n4 : Int, (v1 = (.tuple #[(.pointer p3), (.int .i64 n4)]) ∧ bc (!decide (n4 = 0)) (rt σ2 R (.tuple #[(.slice none 0 0), (.int .i64 n4)])) (cl Try.prog (.func (.func 69) #[] #[]) #[(.int .i64 ((l_n : Nat) : Int))] σ2 (fun v5 σ6 => 
    ∃ A7 : Option Addr, ∃ l7 : Nat, ∃ c7 : Nat, (v5 = (.slice A7 l7 c7) ∧ cl Try.prog (.func (.func 68) #[] #[]) #[(.pointer p3), (.slice A7 l7 c7), (.int .i64 gap)] σ6 (fun v8 σ9 => 
    ∃ A10 : Option Addr, ∃ l10 : Nat, ∃ c10 : Nat, (v8 = (.slice A10 l10 c10) ∧ rt σ9 R (.tuple #[(.slice A10 l10 c10), (.int .i64 0)]))))))))
def HQ : MAn := (.seq (.txt []) (.seq (.txt []) (.seq (.seq (.txt []) (.cond (.seq (.txt []) .leaf) .leaf)) (.seq (.txt []) .leaf))))
set_option maxRecDepth 100000 in
theorem Hw (σ : Hp) (m_Parking_A : Option Addr) (m_Parking_n : Nat) (m_Parking_c : Nat) (m_Roads_A : Option Addr) (m_Roads_n : Nat) (m_Roads_c : Nat) (l_A : Option Addr) (l_n : Nat) (l_c : Nat) (to : Int) (gap : Int) (R : Value → Hp → Prop) (h : Ds σ m_Parking_A m_Parking_n m_Parking_c m_Roads_A m_Roads_n m_Roads_c l_A l_n l_c to gap R) : Ag Try.prog 41 #[(.agg #[(.slice m_Parking_A m_Parking_n m_Parking_c), (.slice m_Roads_A m_Roads_n m_Roads_c)]), (.slice l_A l_n l_c), (.int .i64 to), (.int .i64 gap)] σ R :=
  Ai Ct HQ Try.func41 rfl (by kernel_rfl) (by kernel_rfl) (M := Ds σ m_Parking_A m_Parking_n m_Parking_c m_Roads_A m_Roads_n m_Roads_c l_A l_n l_c to gap R) (by kernel_rfl) h
theorem C5 : Aw Try.prog 41 = true := by kernel_rfl
abbrev EI : FuncId := 45
def Es (σ : Hp) (m_Parking_A : Option Addr) (m_Parking_n : Nat) (m_Parking_c : Nat) (m_Roads_A : Option Addr) (m_Roads_n : Nat) (m_Roads_c : Nat) (l_A : Option Addr) (l_n : Nat) (l_c : Nat) (to : Int) (gap : Int) (R : Value → Hp → Prop) : Prop :=
  cl Try.prog (.func (.func 67) #[] #[]) #[(.agg #[(.slice m_Parking_A m_Parking_n m_Parking_c), (.slice m_Roads_A m_Roads_n m_Roads_c)]), (.slice l_A l_n l_c), (.int .i64 to), (.int .i64 gap)] σ (fun v1 σ2 => 
    ∃ p3 : Option Addr, ∃ n4 : Int, (v1 = (.tuple #[(.pointer p3), (.int .i64 n4)]) ∧ bc (!decide (n4 = 0)) (rt σ2 R (.tuple #[(.slice none 0 0), (.int .i64 n4)])) (cut (α := Option Addr → Hp → Prop) (fun p8 σ6 => 
    ∀ _ : Nat → Value, dr p8 (fun b9 o10 => ldS σ6 b9 o10 (fun A11 l11 c11 => dr p8 (fun b12 o13 => st σ6 b12 o13 (.slice A11 l11 c11) (fun σ14 => 
    dr p8 (fun b15 o16 => ldS σ14 b15 o16 (fun A17 l17 c17 => rt σ14 R (.tuple #[(.slice A17 l17 c17), (.int .i64 0)])))))))) (fun J7 => 
    cl Try.prog (.func (.func 75) #[] #[]) #[(.int .i64 ((l_n : Nat) : Int))] σ2 (fun v18 σ19 => ∃ v20 : Value, (v18 = v20 ∧ 
    bx σ19 (.cells #[(.int .i64 gap)] 3) (fun b21 σ22 => bx σ22 (.cells #[(.slice none 0 0)] 45) (fun b23 σ24 => 
    bx σ24 (.cells #[(.pointer p3)] 109) (fun b25 σ26 => bx σ26 (.cells #[(.int .i64 (-1))] 3) (fun b27 σ28 => 
    RV Try.prog v20 σ28 (fun l29 Rec30 ag31 σ32 R33 => ∃ A37 : Option Addr, ∃ l37 : Nat, ∃ c37 : Nat, (ag31 = #[(.slice A37 l37 c37)] ∧ 
    ∀ _ : Nat → Value, rgb l29 Rec30 σ32 (fun σ38 => cut (α := Int → Hp → Prop) (fun n42 σ40 => ∀ _ : Nat → Value, 
    cut (α := Bool → Hp → Prop) (fun t46 σ44 => ∀ _ : Nat → Value, bc t46 (cl Try.prog (.func (.func 76) #[] #[]) #[(.slice A37 l37 c37)] σ44 (fun v47 σ48 => 
    ∃ A49 : Option Addr, ∃ l49 : Nat, ∃ c49 : Nat, (v47 = (.slice A49 l49 c49) ∧ st σ48 b23 0 (.slice A49 l49 c49) (fun σ50 => 
    st σ50 b27 0 (.int .i64 n42) (fun σ51 => rgo l29 Rec30 R33 σ51))))) (rgo l29 Rec30 R33 σ44)) (fun J45 => 
    ldI σ40 .i64 b27 0 (fun n52 => bc (decide (n52 < 0)) (J45 true σ40) (ldI σ40 .i64 b27 0 (fun n53 => J45 (decide (n42 < n53)) σ40))))) (fun J41 => 
    ldP σ38 b25 0 (fun p54 => ldI σ38 .i64 b21 0 (fun n55 => cl Try.prog (.func (.func 68) #[] #[]) #[(.pointer p54), (.slice A37 l37 c37), (.int .i64 n55)] σ38 (fun v56 σ57 => 
    ∃ A58 : Option Addr, ∃ l58 : Nat, ∃ c58 : Nat, (v56 = (.slice A58 l58 c58) ∧ ∃ I61 : Nat → Int → Int → Hp → Prop, (∃ n620, I61 n620 0 0 σ57) ∧ 
    ∀ n62 : Nat, ∀ n63 : Int, ∀ n64 : Int, ∀ σ60 : Hp, I61 n62 n63 n64 σ60 → ∀ _ : Nat → Value, bc (decide (n64 < ((l58 : Nat) : Int))) (ix A58 l58 n64 1 (fun b65 a66 => 
    ldI σ60 .i64 b65 a66 (fun n67 => wk .i64 (n64 + 1) (fun n68 => bk σ60 n62 (fun m69 σ70 => I61 m69 n67 n68 σ70))))) (J41 n63 σ60))))))))) (fun p34 σ35 => 
    aft p34 (J7 (some ⟨b23, 0, none⟩) σ35) (ldS σ35 b23 0 (fun A71 l71 c71 => rt σ35 R (.tuple #[(.slice A71 l71 c71), (.int .i64 n4)]))) (fun i => 
    exb i 0 (J7 (some ⟨b23, 0, none⟩) σ35) (False)))))))))))))
def J2 : MAn := (.seq (.txt []) (.seq (.txt []) (.seq (.seq (.txt []) (.cond (.seq (.txt []) .leaf) .leaf)) (.seq (.txt []) (.cut ⟨[true, false, false, false, false], 5, [.slot 8 (.sc (.ptr))], []⟩ (.seq (.txt []) (.block (.rng [.exp 7, .exp 8, .exp 10, .exp 11] [(7, true), (8, true), (10, true), (11, true)] [45] (.txt []) (.block (.seq (.txt []) (.cut ⟨[], 0, [.slot 13 (.sc (.int .i64))], [(8, true), (11, true), (12, true)]⟩ (.seq (.txt []) (.block (.loop ⟨[], 0, [.slot 13 (.sc (.int .i64)), .slot 36 (.sc (.int .i64))], [(8, true), (11, true), (12, true), (34, true), (35, true)]⟩ (.seq (.txt []) (.seq (.cond .leaf .leaf) (.seq (.block (.seq (.txt []) (.txt []))) (.txt []))))))) (.cut ⟨[], 0, [.slot 48 (.sc (.bool))], [(8, true), (11, true), (12, true), (13, true)]⟩ (.txt [⟨[], false, []⟩, ⟨[], false, []⟩, ⟨[], true, []⟩]) (.cond (.txt []) .leaf)))))))) (.seq (.txt []) .leaf))))))
set_option maxRecDepth 100000 in
theorem Kl (σ : Hp) (m_Parking_A : Option Addr) (m_Parking_n : Nat) (m_Parking_c : Nat) (m_Roads_A : Option Addr) (m_Roads_n : Nat) (m_Roads_c : Nat) (l_A : Option Addr) (l_n : Nat) (l_c : Nat) (to : Int) (gap : Int) (R : Value → Hp → Prop) (h : Es σ m_Parking_A m_Parking_n m_Parking_c m_Roads_A m_Roads_n m_Roads_c l_A l_n l_c to gap R) : Ag Try.prog 45 #[(.agg #[(.slice m_Parking_A m_Parking_n m_Parking_c), (.slice m_Roads_A m_Roads_n m_Roads_c)]), (.slice l_A l_n l_c), (.int .i64 to), (.int .i64 gap)] σ R :=
  Ai Ct J2 Try.func45 rfl (by kernel_rfl) (by kernel_rfl) (M := Es σ m_Parking_A m_Parking_n m_Parking_c m_Roads_A m_Roads_n m_Roads_c l_A l_n l_c to gap R) (by kernel_rfl) h
theorem HI : Aw Try.prog 45 = true := by kernel_rfl
abbrev Lw : FuncId := 75
def D3 (σ : Hp) (n : Int) (R : Value → Hp → Prop) : Prop :=
  bx σ (.cells #[(.int .i64 n)] 3) (fun b1 σ2 => rt σ2 R (.func (.func 93) #[] #[(.pointer (some ⟨b1, 0, none⟩))]))
def Jd : MAn := (.seq (.txt []) (.seq (.txt []) .leaf))
set_option maxRecDepth 100000 in
theorem Je (σ : Hp) (n : Int) (R : Value → Hp → Prop) (h : D3 σ n R) : Ag Try.prog 75 #[(.int .i64 n)] σ R :=
  Ai Ct Jd Try.func75 rfl (by kernel_rfl) (by kernel_rfl) (M := D3 σ n R) (by kernel_rfl) h
theorem Hb : Aw Try.prog 75 = true := by kernel_rfl
abbrev Fa : FuncId := 93
def Du (σ : Hp) (yield : Value) (cap0 : Option Addr) (R : Value → Hp → Prop) : Prop :=
  one yield (bx σ (.cells #[(.slice none 0 0)] 45) (fun b1 σ2 => bx σ2 (.cells #[yield] 150) (fun b3 σ4 => 
    bx σ4 (.cells #[.nilFunc] 31) (fun b5 σ6 => st σ6 b5 0 (.func (.func 94) #[] #[(.pointer (some ⟨b1, 0, none⟩)), (.pointer cap0), (.pointer (some ⟨b3, 0, none⟩)), (.pointer (some ⟨b5, 0, none⟩))]) (fun σ7 => 
    ldV σ7 b5 0 (fun v8 => cl Try.prog v8 #[] σ7 (fun v9 σ10 => ∃ t11 : Bool, (v9 = (.bool t11) ∧ rt σ10 R (.tuple #[])))))))))
def HL : MAn := (.seq (.txt []) (.seq (.txt []) (.seq (.txt []) (.seq (.txt []) (.txt [])))))
set_option maxRecDepth 100000 in
theorem HG (σ : Hp) (yield : Value) (cap0 : Option Addr) (R : Value → Hp → Prop) (h : Du σ yield cap0 R) : Ag Try.prog 93 #[yield, (.pointer cap0)] σ R :=
  Ai Ct HL Try.func93 rfl (by kernel_rfl) (by kernel_rfl) (M := Du σ yield cap0 R) (by kernel_rfl) h
theorem FS : Aw Try.prog 93 = true := by kernel_rfl
abbrev CJ : FuncId := 94
def BY (σ : Hp) (cap0 : Option Addr) (cap1 : Option Addr) (cap2 : Option Addr) (cap3 : Option Addr) (R : Value → Hp → Prop) : Prop :=
  dr cap0 (fun b1 o2 => ldS σ b1 o2 (fun _ l3 _ => dr cap1 (fun b4 o5 => ldI σ .i64 b4 o5 (fun n6 => 
    bc (decide (((l3 : Nat) : Int) = n6)) (dr cap2 (fun b7 o8 => ldV σ b7 o8 (fun v9 => dr cap0 (fun b10 o11 => 
    ldS σ b10 o11 (fun A12 l12 c12 => cl Try.prog v9 #[(.slice A12 l12 c12)] σ (fun v13 σ14 => ∃ t15 : Bool, (v13 = (.bool t15) ∧ 
    rt σ14 R (.bool t15)))))))) (cut (α := Hp → Prop) (fun  σ17 => ∀ _ : Nat → Value, rt σ17 R (.bool true)) (fun J18 => 
    dr cap1 (fun b19 o20 => ldI σ .i64 b19 o20 (fun n21 => ∃ I24 : Nat → Int → Hp → Prop, (∃ n250, I24 n250 0 σ) ∧ 
    ∀ n25 : Nat, ∀ n26 : Int, ∀ σ23 : Hp, I24 n25 n26 σ23 → ∀ _ : Nat → Value, bc (decide (n26 < n21)) (cut (α := Hp → Prop) (fun  σ28 => 
    ∀ _ : Nat → Value, wk .i64 (n26 + 1) (fun n30 => bk σ28 n25 (fun m31 σ32 => I24 m31 n30 σ32))) (fun J29 => 
    dr cap0 (fun b33 o34 => ldS σ23 b33 o34 (fun A35 l35 c35 => cl Try.prog (.func (.func 95) #[] #[]) #[(.slice A35 l35 c35), (.int .i64 n26)] σ23 (fun v36 σ37 => 
    ∃ t38 : Bool, (v36 = (.bool t38) ∧ bc t38 (J29 σ37) (dr cap0 (fun b39 o40 => ldS σ37 b39 o40 (fun A41 l41 c41 => 
    adp 3 [.int .i64] A41 l41 c41 σ37 (fun (xs42 : List Int) σ43 => AO (List.length xs42 + List.length ([n26] : List Int)) (exl 3 [.int .i64] (xs42 ++ ([n26] : List Int)) σ43 (fun A44 l44 c44 σ45 => 
    dr cap0 (fun b46 o47 => st σ45 b46 o47 (.slice A44 l44 c44) (fun σ48 => dr cap3 (fun b49 o50 => ldV σ48 b49 o50 (fun v51 => 
    cl Try.prog v51 #[] σ48 (fun v52 σ53 => ∃ t54 : Bool, (v52 = (.bool t54) ∧ bc (!t54) (rt σ53 R (.bool false)) (dr cap0 (fun b55 o56 => 
    ldS σ53 b55 o56 (fun A57 _ c57 => dr cap0 (fun b58 o59 => ldS σ53 b58 o59 (fun _ l60 _ => wk .i64 (((l60 : Nat) : Int) - 1) (fun n61 => 
    (0 ≤ n61 ∧ n61 ≤ ((c57 : Nat) : Int) ∧ dr cap0 (fun b62 o63 => st σ53 b62 o63 (.slice A57 ((n61 : Int).toNat) c57) (fun σ64 => 
    J29 σ64))))))))))))))))))))))))))) (J18 σ23)))))))))
def GJ : MAn := (.seq (.txt []) (.seq (.seq (.txt []) (.cond (.seq (.txt []) .leaf) .leaf)) (.cut ⟨[], 0, [], []⟩ (.seq (.txt []) (.block (.loop ⟨[], 0, [.slot 14 (.sc (.int .i64))], [(0, true), (3, true), (13, true)]⟩ (.seq (.txt []) (.seq (.cond .leaf .leaf) (.cut ⟨[], 0, [], [(0, true), (3, true), (13, true), (14, true)]⟩ (.block (.seq (.txt []) (.seq (.seq (.txt []) (.cond .leaf .leaf)) (.seq (.txt []) (.seq (.seq (.txt []) (.cond (.seq (.txt []) .leaf) .leaf)) (.txt [])))))) (.txt []))))))) (.seq (.txt []) .leaf))))
set_option maxRecDepth 100000 in
theorem Di (σ : Hp) (cap0 : Option Addr) (cap1 : Option Addr) (cap2 : Option Addr) (cap3 : Option Addr) (R : Value → Hp → Prop) (h : BY σ cap0 cap1 cap2 cap3 R) : Ag Try.prog 94 #[(.pointer cap0), (.pointer cap1), (.pointer cap2), (.pointer cap3)] σ R :=
  Ai Ct GJ Try.func94 rfl (by kernel_rfl) (by kernel_rfl) (M := BY σ cap0 cap1 cap2 cap3 R) (by kernel_rfl) h
theorem CD : Aw Try.prog 94 = true := by kernel_rfl
abbrev Jf : FuncId := 76
def CW (σ : Hp) (s_A : Option Addr) (s_n : Nat) (_ : Nat) (R : Value → Hp → Prop) : Prop :=
  bc ((s_A).isNone) (rt σ R (.slice none 0 0)) (∃ ys1 : List Int, RdS [.int .i64] σ s_A s_n ys1 ∧ AO (List.length ([] : List Int) + List.length ys1) (exl 3 [.int .i64] (([] : List Int) ++ ys1) σ (fun A2 l2 c2 σ3 => 
    rt σ3 R (.slice A2 l2 c2))))
def G5 : MAn := (.seq (.txt []) (.seq (.seq (.txt []) (.cond (.seq (.txt []) .leaf) .leaf)) (.seq (.txt []) .leaf)))
set_option maxRecDepth 100000 in
theorem Hj (σ : Hp) (s_A : Option Addr) (s_n : Nat) (s_c : Nat) (R : Value → Hp → Prop) (h : CW σ s_A s_n s_c R) : Ag Try.prog 76 #[(.slice s_A s_n s_c)] σ R :=
  Ai Ct G5 Try.func76 rfl (by kernel_rfl) (by kernel_rfl) (M := CW σ s_A s_n s_c R) (by kernel_rfl) h
theorem FD : Aw Try.prog 76 = true := by kernel_rfl
abbrev Hi : FuncId := 95
def Cg (σ : Hp) (s_A : Option Addr) (s_n : Nat) (s_c : Nat) (v : Int) (R : Value → Hp → Prop) : Prop :=
  cl Try.prog (.func (.func 114) #[] #[]) #[(.slice s_A s_n s_c), (.int .i64 v)] σ (fun v1 σ2 => ∃ n3 : Int, (v1 = (.int .i64 n3) ∧ 
    rt σ2 R (.bool (decide ((0 : Int) ≤ n3)))))
def Fp : MAn := (.seq (.txt []) (.seq (.txt []) .leaf))
set_option maxRecDepth 100000 in
theorem Ff (σ : Hp) (s_A : Option Addr) (s_n : Nat) (s_c : Nat) (v : Int) (R : Value → Hp → Prop) (h : Cg σ s_A s_n s_c v R) : Ag Try.prog 95 #[(.slice s_A s_n s_c), (.int .i64 v)] σ R :=
  Ai Ct Fp Try.func95 rfl (by kernel_rfl) (by kernel_rfl) (M := Cg σ s_A s_n s_c v R) (by kernel_rfl) h
theorem Ed : Aw Try.prog 95 = true := by kernel_rfl
abbrev IU : FuncId := 114
def CU (σ : Hp) (s_A : Option Addr) (s_n : Nat) (_ : Nat) (v : Int) (R : Value → Hp → Prop) : Prop :=
  cut (α := Hp → Prop) (fun  σ2 => ∀ _ : Nat → Value, rt σ2 R (.int .i64 (-1))) (fun J3 => ∃ I6 : Nat → Int → Hp → Prop, (∃ n70, I6 n70 0 σ) ∧ 
    ∀ n7 : Nat, ∀ n8 : Int, ∀ σ5 : Hp, I6 n7 n8 σ5 → ∀ _ : Nat → Value, bc (decide (n8 < ((s_n : Nat) : Int))) (ix s_A s_n n8 1 (fun b9 a10 => 
    ldI σ5 .i64 b9 a10 (fun n11 => bc (decide (v = n11)) (rt σ5 R (.int .i64 n8)) (wk .i64 (n8 + 1) (fun n12 => 
    bk σ5 n7 (fun m13 σ14 => I6 m13 n12 σ14)))))) (J3 σ5))
def G8 : MAn := (.seq (.txt []) (.cut ⟨[], 0, [], []⟩ (.seq (.txt []) (.block (.loop ⟨[], 0, [.slot 8 (.sc (.int .i64))], [(0, true), (1, true), (7, true)]⟩ (.seq (.txt []) (.seq (.cond .leaf .leaf) (.seq (.block (.seq (.txt []) (.seq (.txt []) (.cond (.seq (.txt []) .leaf) .leaf)))) (.txt []))))))) (.seq (.txt []) .leaf)))
set_option maxRecDepth 100000 in
theorem Hg (σ : Hp) (s_A : Option Addr) (s_n : Nat) (s_c : Nat) (v : Int) (R : Value → Hp → Prop) (h : CU σ s_A s_n s_c v R) : Ag Try.prog 114 #[(.slice s_A s_n s_c), (.int .i64 v)] σ R :=
  Ai Ct G8 Try.func114 rfl (by kernel_rfl) (by kernel_rfl) (M := CU σ s_A s_n s_c v R) (by kernel_rfl) h
theorem Fd : Aw Try.prog 114 = true := by kernel_rfl
end Go.Proofs.Ytkdjkkimngeloaa
