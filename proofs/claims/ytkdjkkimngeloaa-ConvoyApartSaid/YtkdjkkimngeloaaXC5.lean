/- Trimmed by wip/trim.py to what this claim rests on. -/
import Derived.Test.YtkdjkkimngeloaaXB11
namespace Go.Proofs.Ytkdjkkimngeloaa
open Go.RowKit
theorem GA : Try.prog.follows .mixedOrders = true := by kernel_rfl
abbrev Ie : FuncId := 67
def CZ (σ : Hp) (a0_Parking_A : Option Addr) (a0_Parking_n : Nat) (a0_Parking_c : Nat) (a0_Roads_A : Option Addr) (a0_Roads_n : Nat) (a0_Roads_c : Nat) (a1_A : Option Addr) (a1_n : Nat) (a1_c : Nat) (a2 : Int) (a3 : Int) (R : Value → Hp → Prop) : Prop :=
  cl Try.prog (.func (.func 50) #[] #[]) #[(.agg #[(.slice a0_Parking_A a0_Parking_n a0_Parking_c), (.slice a0_Roads_A a0_Roads_n a0_Roads_c)]), (.int .i64 a2), (.slice a1_A a1_n a1_c)] σ (fun v1 σ2 => 
    ∃ n3 : Int, (v1 = (.int .i64 n3) ∧ bc (!decide (n3 = 0)) (rt σ2 R (.tuple #[(.pointer none), (.int .i64 n3)])) (cl Try.prog (.func (.func 58) #[] #[]) #[(.int .i64 a3), (.int .i64 0), (.int .i64 100)] σ2 (fun v4 σ5 => 
    ∃ t6 : Bool, (v4 = (.bool t6) ∧ bc (!t6) (rt σ5 R (.tuple #[(.pointer none), (.int .i64 1)])) (cut (α := List ((Option Addr × Nat × Nat)) → List Int → Hp → Prop) (fun xs10 xs11 σ8 => 
    ∀ _ : Nat → Value, exl 32 [.slc] xs10 σ8 (fun A12 l12 c12 σ13 => exl 3 [.int .i64] xs11 σ13 (fun A14 l14 c14 σ15 => 
    bx σ15 (.cells #[(.slice A12 l12 c12), (.slice A14 l14 c14)] 115) (fun b16 σ17 => rt σ17 R (.tuple #[(.pointer (some ⟨b16, 0, none⟩)), (.int .i64 0)]))))) (fun J9 => 
    ∃ I20 : Nat → Int → List ((Option Addr × Nat × Nat)) → List Int → Hp → Prop, (∃ n210, adp 32 [.slc] none 0 0 σ5 (fun (xs22 : List ((Option Addr × Nat × Nat))) σ23 => 
    adp 3 [.int .i64] none 0 0 σ23 (fun (xs24 : List Int) σ25 => I20 n210 0 xs22 xs24 σ25))) ∧ ∀ n21 : Nat, ∀ n26 : Int, ∀ xs27 : List ((Option Addr × Nat × Nat)), ∀ xs28 : List Int, ∀ σ19 : Hp, I20 n21 n26 xs27 xs28 σ19 → ∀ _ : Nat → Value, bc (decide (n26 < ((a1_n : Nat) : Int))) (cut (α := List ((Option Addr × Nat × Nat)) → List Int → Hp → Prop) (fun xs32 xs33 σ30 => 
    ∀ _ : Nat → Value, wk .i64 (n26 + 1) (fun n34 => bk σ30 n21 (fun m35 σ36 => I20 m35 n34 xs32 xs33 σ36))) (fun J31 => 
    ix a1_A a1_n n26 6 (fun b37 a38 => ldI σ19 .i64 b37 a38 (fun n39 => ldI σ19 .i64 b37 (a38 + 1) (fun n40 => 
    ldI σ19 .i64 b37 (a38 + 2) (fun n41 => ldI σ19 .i64 b37 (a38 + 3) (fun n42 => ldI σ19 .i64 b37 (a38 + 4) (fun n43 => 
    ldI σ19 .i64 b37 (a38 + 5) (fun n44 => cl Try.prog (.func (.func 51) #[] #[]) #[(.agg #[(.slice a0_Parking_A a0_Parking_n a0_Parking_c), (.slice a0_Roads_A a0_Roads_n a0_Roads_c), (.int .i64 n39), (.int .i64 n40), (.int .i64 n41), (.int .i64 n42), (.int .i64 n43), (.int .i64 n44)]), (.int .i64 a2)] σ19 (fun v45 σ46 => 
    ∃ A47 : Option Addr, ∃ l47 : Nat, ∃ c47 : Nat, ∃ t48 : Bool, (v45 = (.tuple #[(.slice A47 l47 c47), (.bool t48)]) ∧ 
    bc (!t48) (rt σ46 R (.tuple #[(.pointer none), (.int .i64 3)])) (cut (α := Int → Hp → Prop) (fun n52 σ50 => 
    ∀ _ : Nat → Value, ((BG (List.length xs27 + List.length ([(A47, l47, c47)] : List ((Option Addr × Nat × Nat)))) (BG (List.length xs28 + List.length ([n52] : List Int)) (J31 (xs27 ++ ([(A47, l47, c47)] : List ((Option Addr × Nat × Nat)))) (xs28 ++ ([n52] : List Int)) σ50))) ∧ 
    (BG (List.length xs27 + List.length ([(A47, l47, c47)] : List ((Option Addr × Nat × Nat)))) (BG (List.length xs28 + List.length ([n52] : List Int)) (J31 (xs27 ++ ([(A47, l47, c47)] : List ((Option Addr × Nat × Nat)))) (xs28 ++ ([n52] : List Int)) σ50))))) (fun J51 => 
    bc (decide ((0 : Int) < ((l47 : Nat) : Int))) (wk .i64 (((l47 : Nat) : Int) - 1) (fun n53 => ix A47 l47 n53 2 (fun b54 a55 => 
    ldI σ46 .i64 b54 (a55 + 1) (fun n56 => wk .i64 (((l47 : Nat) : Int) - 1) (fun n57 => ix A47 l47 n57 2 (fun b58 a59 => 
    ldI σ46 .i64 b58 a59 (fun n60 => ix a0_Roads_A a0_Roads_n n60 5 (fun b61 a62 => ldI σ46 .i64 b61 (a62 + 2) (fun n63 => 
    wk .i64 (n56 + n63) (fun n64 => J51 n64 σ46)))))))))) (J51 n42 σ46)))))))))))))) (J9 xs27 xs28 σ19))))))))
def Ac : OA := ⟨[], false, []⟩
def Dv : MPlan := (.alt 15 false Ac (.take 16 Ac (.take 17 Ac (.alt 18 false Ac (.take 19 Ac (.take 20 Ac (.alt 21 false Ac .done .done))) .done))) .done)
def Gy : MAn := (.seq (.txt []) (.seq (.seq (.txt []) (.seq (.txt []) (.cond (.seq (.txt []) .leaf) .leaf))) (.seq (.seq (.txt []) (.cond (.seq (.txt []) .leaf) .leaf)) (.seq (.txt []) (.cut ⟨[true, false], 4, [.slot 11 (.hb 1 0), .modb 1 115 [.lst 2 32 [.slc], .lst 3 3 [.int .i64]]], []⟩ (.seq (.txt []) (.block (.loop ⟨[true, false], 4, [.slot 4 (.hb 0 0), .slot 11 (.hb 1 0), .slot 32 (.sc (.int .i64)), .modb 1 115 [.lst 2 32 [.slc], .lst 3 3 [.int .i64]]], [(2, true), (30, true), (31, true)]⟩ (.seq (.txt []) (.seq (.cond .leaf .leaf) (.cut ⟨[true, false, false, false], 4, [.slot 4 (.hb 0 0), .slot 11 (.hb 1 0), .modb 1 115 [.lst 2 32 [.slc], .lst 3 3 [.int .i64]]], [(2, true), (30, true), (31, true), (32, true)]⟩ (.block (.seq (.txt []) (.seq (.txt []) (.seq (.seq (.txt []) (.cond (.seq (.txt []) .leaf) .leaf)) (.seq (.txt []) (.cut ⟨[true, true, true, true, true], 5, [.slot 4 (.hb 0 0), .slot 11 (.hb 1 0), .slot 16 (.sc (.int .i64))], [(2, true), (14, true), (30, true), (31, true), (32, true)]⟩ (.seq (.txt []) (.seq (.txt []) (.cond (.plan [] (.take 0 Ac (.take 1 Ac (.take 2 Ac (.take 3 Ac (.take 4 Ac (.take 5 Ac (.take 6 Ac (.take 7 Ac (.take 8 Ac (.take 9 Ac (.take 10 Ac (.take 11 Ac (.take 12 Ac (.take 13 Ac (.take 14 Ac (.take 15 Ac (.take 16 Ac (.take 17 Ac (.take 18 Ac .done)))))))))))))))))))) .leaf))) (.plan [8, 15, 18, 21] (.take 0 Ac (.take 1 Ac (.take 2 Ac (.take 3 Ac (.take 4 Ac (.take 5 Ac (.take 6 Ac (.take 9 Ac (.take 10 Ac (.take 11 Ac (.take 13 Ac (.new 7 Ac (.new 14 Ac (.alt 8 false Ac (.take 12 Ac Dv) (.alt 12 true Ac (.alt 8 false Ac Dv .done) .done)))))))))))))))))))))) (.txt []))))))) (.seq (.txt []) .leaf))))))
set_option maxRecDepth 100000 in
theorem Gi (σ : Hp) (a0_Parking_A : Option Addr) (a0_Parking_n : Nat) (a0_Parking_c : Nat) (a0_Roads_A : Option Addr) (a0_Roads_n : Nat) (a0_Roads_c : Nat) (a1_A : Option Addr) (a1_n : Nat) (a1_c : Nat) (a2 : Int) (a3 : Int) (R : Value → Hp → Prop) (h : CZ σ a0_Parking_A a0_Parking_n a0_Parking_c a0_Roads_A a0_Roads_n a0_Roads_c a1_A a1_n a1_c a2 a3 R) : Af Try.prog 67 #[(.agg #[(.slice a0_Parking_A a0_Parking_n a0_Parking_c), (.slice a0_Roads_A a0_Roads_n a0_Roads_c)]), (.slice a1_A a1_n a1_c), (.int .i64 a2), (.int .i64 a3)] σ R :=
  Am GA Gy Try.func67 rfl (by kernel_rfl) (by kernel_rfl) (M := CZ σ a0_Parking_A a0_Parking_n a0_Parking_c a0_Roads_A a0_Roads_n a0_Roads_c a1_A a1_n a1_c a2 a3 R) (by kernel_rfl) h
theorem CC : AA Try.prog 67 = true := by kernel_rfl
abbrev EX : FuncId := 68
def BM (σ : Hp) (f : Option Addr) (order_A : Option Addr) (order_n : Nat) (_ : Nat) (gap : Int) (R : Value → Hp → Prop) : Prop :=
  cut (α := List Int → Hp → Prop) (fun xs4 σ2 => ∀ _ : Nat → Value, exl 3 [.int .i64] xs4 σ2 (fun A5 l5 c5 σ6 => 
    rt σ6 R (.slice A5 l5 c5))) (fun J3 => ∃ I9 : Nat → List Int → Int → Hp → Prop, (∃ n100, adp 3 [.int .i64] none 0 0 σ (fun (xs11 : List Int) σ12 => 
    I9 n100 xs11 0 σ12)) ∧ ∀ n10 : Nat, ∀ xs13 : List Int, ∀ n14 : Int, ∀ σ8 : Hp, I9 n10 xs13 n14 σ8 → ∀ _ : Nat → Value, bc (decide (n14 < ((order_n : Nat) : Int))) (cut (α := List Int → Hp → Prop) (fun xs18 σ16 => 
    ∀ _ : Nat → Value, wk .i64 (n14 + 1) (fun n19 => bk σ16 n10 (fun m20 σ21 => I9 m20 xs18 n19 σ21))) (fun J17 => 
    ix order_A order_n n14 1 (fun b22 a23 => ldI σ8 .i64 b22 a23 (fun n24 => dr f (fun b25 o26 => ldS σ8 b25 (o26 + 1) (fun A27 l27 _ => 
    ix A27 l27 n24 1 (fun b28 a29 => ldI σ8 .i64 b28 a29 (fun n30 => cut (α := Int → Hp → Prop) (fun n34 σ32 => 
    ∀ _ : Nat → Value, BG (List.length xs13 + List.length ([n34] : List Int)) (J17 (xs13 ++ ([n34] : List Int)) σ32)) (fun J33 => 
    bc (decide ((0 : Int) < n14)) (wk .i64 (n14 - 1) (fun n35 => (0 ≤ n35 ∧ n35 < ((List.length xs13 : Nat) : Int) ∧ 
    lat xs13 ((n35 : Int).toNat) (fun r36 => wk .i64 (r36 + gap) (fun n37 => J33 (if n37 > n30 then n37 else n30) σ8))))) (J33 n30 σ8)))))))))) (J3 xs13 σ8))
def DV : MAn := (.seq (.txt []) (.cut ⟨[], 1, [.slot 6 (.lst 0 3 [.int .i64])], []⟩ (.seq (.txt []) (.block (.loop ⟨[], 1, [.slot 6 (.lst 0 3 [.int .i64]), .slot 12 (.sc (.int .i64))], [(0, true), (2, true), (10, true), (11, true)]⟩ (.seq (.txt []) (.seq (.cond .leaf .leaf) (.cut ⟨[false], 1, [.slot 6 (.lst 0 3 [.int .i64])], [(0, true), (2, true), (10, true), (11, true), (12, true)]⟩ (.block (.seq (.txt []) (.seq (.txt []) (.cut ⟨[true], 1, [.slot 6 (.hl 0 0), .slot 9 (.sc (.int .i64))], [(0, true), (2, true), (10, true), (11, true), (12, true)]⟩ (.seq (.txt []) (.cond (.txt []) .leaf)) (.txt []))))) (.txt []))))))) (.seq (.txt []) .leaf)))
set_option maxRecDepth 100000 in
theorem D1 (σ : Hp) (f : Option Addr) (order_A : Option Addr) (order_n : Nat) (order_c : Nat) (gap : Int) (R : Value → Hp → Prop) (h : BM σ f order_A order_n order_c gap R) : Af Try.prog 68 #[(.pointer f), (.slice order_A order_n order_c), (.int .i64 gap)] σ R :=
  Am GA DV Try.func68 rfl (by kernel_rfl) (by kernel_rfl) (M := BM σ f order_A order_n order_c gap R) (by kernel_rfl) h
theorem BO : AA Try.prog 68 = true := by kernel_rfl
abbrev J4 : FuncId := 69
def Eb (σ : Hp) (n : Int) (R : Value → Hp → Prop) : Prop :=
  cut (α := List Int → Hp → Prop) (fun xs4 σ2 => ∀ _ : Nat → Value, exl 3 [.int .i64] xs4 σ2 (fun A5 l5 c5 σ6 => 
    rt σ6 R (.slice A5 l5 c5))) (fun J3 => ∃ I9 : Nat → List Int → Int → Hp → Prop, (∃ n100, adp 3 [.int .i64] none 0 0 σ (fun (xs11 : List Int) σ12 => 
    I9 n100 xs11 0 σ12)) ∧ ∀ n10 : Nat, ∀ xs13 : List Int, ∀ n14 : Int, ∀ σ8 : Hp, I9 n10 xs13 n14 σ8 → ∀ _ : Nat → Value, bc (decide (n14 < n)) (BG (List.length xs13 + List.length ([n14] : List Int)) (wk .i64 (n14 + 1) (fun n15 => 
    bk σ8 n10 (fun m16 σ17 => I9 m16 (xs13 ++ ([n14] : List Int)) n15 σ17)))) (J3 xs13 σ8))
def HU : MAn := (.seq (.txt []) (.cut ⟨[], 1, [.slot 2 (.lst 0 3 [.int .i64])], []⟩ (.seq (.txt []) (.block (.loop ⟨[], 1, [.slot 2 (.lst 0 3 [.int .i64]), .slot 5 (.sc (.int .i64))], [(4, true)]⟩ (.seq (.txt []) (.seq (.cond .leaf .leaf) (.seq (.block (.seq (.txt []) (.txt []))) (.txt []))))))) (.seq (.txt []) .leaf)))
set_option maxRecDepth 100000 in
theorem HM (σ : Hp) (n : Int) (R : Value → Hp → Prop) (h : Eb σ n R) : Af Try.prog 69 #[(.int .i64 n)] σ R :=
  Am GA HU Try.func69 rfl (by kernel_rfl) (by kernel_rfl) (M := Eb σ n R) (by kernel_rfl) h
theorem Dt : AA Try.prog 69 = true := by kernel_rfl
abbrev CJ : FuncId := 39
def CS (σ : Hp) (a0_Parking_A : Option Addr) (a0_Parking_n : Nat) (a0_Parking_c : Nat) (a0_Roads_A : Option Addr) (a0_Roads_n : Nat) (a0_Roads_c : Nat) (a1_A : Option Addr) (a1_n : Nat) (a1_c : Nat) (a2 : Int) (a3 : Int) (R : Value → Hp → Prop) : Prop :=
  cl Try.prog (.func (.func 67) #[] #[]) #[(.agg #[(.slice a0_Parking_A a0_Parking_n a0_Parking_c), (.slice a0_Roads_A a0_Roads_n a0_Roads_c)]), (.slice a1_A a1_n a1_c), (.int .i64 a2), (.int .i64 a3)] σ (fun v1 σ2 => 
    ∃ p3 : Option Addr, ∃ n4 : Int, (v1 = (.tuple #[(.pointer p3), (.int .i64 n4)]) ∧ bc (!decide (n4 = 0)) (rt σ2 R (.tuple #[(.slice none 0 0), (.int .i64 n4)])) (cut (α := Hp → Prop) (fun  σ6 => 
    ∀ _ : Nat → Value, dr p3 (fun b8 o9 => ldS σ6 b8 o9 (fun A10 l10 c10 => rt σ6 R (.tuple #[(.slice A10 l10 c10), (.int .i64 0)])))) (fun J7 => 
    cl Try.prog (.func (.func 69) #[] #[]) #[(.int .i64 ((a1_n : Nat) : Int))] σ2 (fun v11 σ12 => ∃ A13 : Option Addr, ∃ l13 : Nat, ∃ c13 : Nat, (v11 = (.slice A13 l13 c13) ∧ 
    cl Try.prog (.func (.func 68) #[] #[]) #[(.pointer p3), (.slice A13 l13 c13), (.int .i64 a3)] σ12 (fun v14 σ15 => 
    ∃ A16 : Option Addr, ∃ l16 : Nat, ∃ c16 : Nat, (v14 = (.slice A16 l16 c16) ∧ ∃ I19 : Nat → Int → Hp → Prop, (∃ n200, I19 n200 0 σ15) ∧ 
    ∀ n20 : Nat, ∀ n21 : Int, ∀ σ18 : Hp, I19 n20 n21 σ18 → ∀ _ : Nat → Value, bc (decide (n21 < ((l16 : Nat) : Int))) (cut (α := Hp → Prop) (fun  σ23 => 
    ∀ _ : Nat → Value, wk .i64 (n21 + 1) (fun n25 => bk σ23 n20 (fun m26 σ27 => I19 m26 n25 σ27))) (fun J24 => 
    ix A16 l16 n21 1 (fun b28 a29 => ldI σ18 .i64 b28 a29 (fun n30 => dr p3 (fun b31 o32 => ldS σ18 b31 o32 (fun A33 l33 _ => 
    ix A33 l33 n21 1 (fun b34 a35 => ldS σ18 b34 a35 (fun _ l36 _ => ∃ I39 : Nat → Int → Hp → Prop, (∃ n400, I39 n400 0 σ18) ∧ 
    ∀ n40 : Nat, ∀ n41 : Int, ∀ σ38 : Hp, I39 n40 n41 σ38 → ∀ _ : Nat → Value, bc (decide (n41 < ((l36 : Nat) : Int))) (dr p3 (fun b42 o43 => 
    ldS σ38 b42 o43 (fun A44 l44 _ => ix A44 l44 n21 1 (fun b45 a46 => ldS σ38 b45 a46 (fun A47 l47 _ => 
    ix A47 l47 n41 2 (fun b48 a49 => ldI σ38 .i64 b48 (a49 + 1) (fun n50 => dr p3 (fun b51 o52 => ldS σ38 b51 (o52 + 1) (fun A53 l53 _ => 
    ix A53 l53 n21 1 (fun b54 a55 => ldI σ38 .i64 b54 a55 (fun n56 => wk .i64 (n30 - n56) (fun n57 => wk .i64 (n50 + n57) (fun n58 => 
    ix A47 l47 n41 2 (fun b59 a60 => st σ38 b59 (a60 + 1) (.int .i64 n58) (fun σ61 => wk .i64 (n41 + 1) (fun n62 => 
    bk σ61 n40 (fun m63 σ64 => I39 m63 n62 σ64))))))))))))))))) (J24 σ38))))))))) (J7 σ18)))))))))
def Al : OA := ⟨[], false, []⟩
def Ge : MAn := (.seq (.txt []) (.seq (.txt []) (.seq (.seq (.txt []) (.cond (.seq (.txt []) .leaf) .leaf)) (.cut ⟨[true], 1, [], [(10, true)]⟩ (.seq (.txt []) (.block (.loop ⟨[true], 1, [.slot 33 (.sc (.int .i64))], [(10, true), (31, true), (32, true)]⟩ (.seq (.txt []) (.seq (.cond .leaf .leaf) (.cut ⟨[true], 1, [], [(10, true), (31, true), (32, true), (33, true)]⟩ (.block (.seq (.txt []) (.seq (.txt []) (.block (.loop ⟨[true], 1, [.slot 46 (.sc (.int .i64))], [(10, true), (12, true), (13, true), (31, true), (32, true), (33, true), (45, true)]⟩ (.seq (.txt []) (.seq (.cond .leaf .leaf) (.seq (.block (.seq (.txt []) (.plan [23] (.take 0 Al (.take 1 Al (.take 2 Al (.take 3 Al (.take 4 Al (.take 5 Al (.take 6 Al (.take 7 Al (.take 8 Al (.take 9 Al (.take 10 Al (.take 11 Al (.take 12 Al (.take 13 Al (.take 14 Al (.take 15 Al (.take 16 Al (.take 17 Al (.take 18 Al (.take 19 Al (.take 20 Al (.take 21 Al (.take 22 Al (.alt 23 false Al .done .done))))))))))))))))))))))))))) (.txt []))))))))) (.txt []))))))) (.seq (.txt []) .leaf)))))
set_option maxRecDepth 100000 in
theorem Gz (σ : Hp) (a0_Parking_A : Option Addr) (a0_Parking_n : Nat) (a0_Parking_c : Nat) (a0_Roads_A : Option Addr) (a0_Roads_n : Nat) (a0_Roads_c : Nat) (a1_A : Option Addr) (a1_n : Nat) (a1_c : Nat) (a2 : Int) (a3 : Int) (R : Value → Hp → Prop) (h : CS σ a0_Parking_A a0_Parking_n a0_Parking_c a0_Roads_A a0_Roads_n a0_Roads_c a1_A a1_n a1_c a2 a3 R) : Af Try.prog 39 #[(.agg #[(.slice a0_Parking_A a0_Parking_n a0_Parking_c), (.slice a0_Roads_A a0_Roads_n a0_Roads_c)]), (.slice a1_A a1_n a1_c), (.int .i64 a2), (.int .i64 a3)] σ R :=
  Am GA Ge Try.func39 rfl (by kernel_rfl) (by kernel_rfl) (M := CS σ a0_Parking_A a0_Parking_n a0_Parking_c a0_Roads_A a0_Roads_n a0_Roads_c a1_A a1_n a1_c a2 a3 R) (by kernel_rfl) h
theorem E1 : AA Try.prog 39 = true := by kernel_rfl
abbrev CY : FuncId := 41
def CU (σ : Hp) (m_Parking_A : Option Addr) (m_Parking_n : Nat) (m_Parking_c : Nat) (m_Roads_A : Option Addr) (m_Roads_n : Nat) (m_Roads_c : Nat) (l_A : Option Addr) (l_n : Nat) (l_c : Nat) (to : Int) (gap : Int) (R : Value → Hp → Prop) : Prop :=
  cl Try.prog (.func (.func 67) #[] #[]) #[(.agg #[(.slice m_Parking_A m_Parking_n m_Parking_c), (.slice m_Roads_A m_Roads_n m_Roads_c)]), (.slice l_A l_n l_c), (.int .i64 to), (.int .i64 gap)] σ (fun v1 σ2 => 
    ∃ p3 : Option Addr, ∃ n4 : Int, (v1 = (.tuple #[(.pointer p3), (.int .i64 n4)]) ∧ bc (!decide (n4 = 0)) (rt σ2 R (.tuple #[(.slice none 0 0), (.int .i64 n4)])) (cl Try.prog (.func (.func 69) #[] #[]) #[(.int .i64 ((l_n : Nat) : Int))] σ2 (fun v5 σ6 => 
    ∃ A7 : Option Addr, ∃ l7 : Nat, ∃ c7 : Nat, (v5 = (.slice A7 l7 c7) ∧ cl Try.prog (.func (.func 68) #[] #[]) #[(.pointer p3), (.slice A7 l7 c7), (.int .i64 gap)] σ6 (fun v8 σ9 => 
    ∃ A10 : Option Addr, ∃ l10 : Nat, ∃ c10 : Nat, (v8 = (.slice A10 l10 c10) ∧ rt σ9 R (.tuple #[(.slice A10 l10 c10), (.int .i64 0)]))))))))
def Gj : MAn := (.seq (.txt []) (.seq (.txt []) (.seq (.seq (.txt []) (.cond (.seq (.txt []) .leaf) .leaf)) (.seq (.txt []) .leaf))))
set_option maxRecDepth 100000 in
theorem Gl (σ : Hp) (m_Parking_A : Option Addr) (m_Parking_n : Nat) (m_Parking_c : Nat) (m_Roads_A : Option Addr) (m_Roads_n : Nat) (m_Roads_c : Nat) (l_A : Option Addr) (l_n : Nat) (l_c : Nat) (to : Int) (gap : Int) (R : Value → Hp → Prop) (h : CU σ m_Parking_A m_Parking_n m_Parking_c m_Roads_A m_Roads_n m_Roads_c l_A l_n l_c to gap R) : Af Try.prog 41 #[(.agg #[(.slice m_Parking_A m_Parking_n m_Parking_c), (.slice m_Roads_A m_Roads_n m_Roads_c)]), (.slice l_A l_n l_c), (.int .i64 to), (.int .i64 gap)] σ R :=
  Am GA Gj Try.func41 rfl (by kernel_rfl) (by kernel_rfl) (M := CU σ m_Parking_A m_Parking_n m_Parking_c m_Roads_A m_Roads_n m_Roads_c l_A l_n l_c to gap R) (by kernel_rfl) h
theorem EV : AA Try.prog 41 = true := by kernel_rfl
end Go.Proofs.Ytkdjkkimngeloaa
