/- Trimmed by wip/trim.py to what this claim rests on. -/
import Derived.Test.YtkdjkkimngeloaaXB11
namespace Go.Proofs.Ytkdjkkimngeloaa
open Go.RowKit
theorem Mx : Try.prog.follows .mixedOrders = true := by kernel_rfl
abbrev Lu : FuncId := 20
def FK (σ : Hp) (m_Parking_A : Option Addr) (m_Parking_n : Nat) (_ : Nat) (m_Roads_A : Option Addr) (m_Roads_n : Nat) (_ : Nat) (R : Value → Hp → Prop) : Prop :=
  ((∃ ys1 : List Bool, RdS [.bool] σ m_Parking_A m_Parking_n ys1 ∧ BG (List.length ([] : List Bool) + List.length ys1) (∃ ys2 : List (Int × Int × Int × Int × Int), RdS [.int .i64, .int .i64, .int .i64, .int .i64, .int .i64] σ m_Roads_A m_Roads_n ys2 ∧ 
    BG (List.length ([] : List (Int × Int × Int × Int × Int)) + List.length ys2) (exl 4 [.bool] (([] : List Bool) ++ ys1) σ (fun A3 l3 c3 σ4 => 
    exl 51 [.int .i64, .int .i64, .int .i64, .int .i64, .int .i64] (([] : List (Int × Int × Int × Int × Int)) ++ ys2) σ4 (fun A5 l5 c5 σ6 => 
    rt σ6 R (.agg #[(.slice A3 l3 c3), (.slice A5 l5 c5)])))))) ∧ (∃ ys7 : List Bool, RdS [.bool] σ m_Parking_A m_Parking_n ys7 ∧ 
    BG (List.length ([] : List Bool) + List.length ys7) (∃ ys8 : List (Int × Int × Int × Int × Int), RdS [.int .i64, .int .i64, .int .i64, .int .i64, .int .i64] σ m_Roads_A m_Roads_n ys8 ∧ 
    BG (List.length ([] : List (Int × Int × Int × Int × Int)) + List.length ys8) (exl 4 [.bool] (([] : List Bool) ++ ys7) σ (fun A9 l9 c9 σ10 => 
    exl 51 [.int .i64, .int .i64, .int .i64, .int .i64, .int .i64] (([] : List (Int × Int × Int × Int × Int)) ++ ys8) σ10 (fun A11 l11 c11 σ12 => 
    rt σ12 R (.agg #[(.slice A9 l9 c9), (.slice A11 l11 c11)])))))))
def AE : OA := ⟨[], false, []⟩
def Jq : MAn := (.seq (.txt []) (.seq (.plan [3, 7, 9] (.take 1 AE (.take 2 AE (.take 5 AE (.new 0 AE (.new 4 AE (.alt 3 false AE (.take 6 AE (.alt 7 false AE (.take 8 AE (.alt 9 false AE .done .done)) .done)) (.alt 6 true AE (.alt 3 false AE (.alt 7 false AE (.take 8 AE (.alt 9 false AE .done .done)) .done) .done) .done)))))))) .leaf))
set_option maxRecDepth 100000 in
theorem Jp (σ : Hp) (m_Parking_A : Option Addr) (m_Parking_n : Nat) (m_Parking_c : Nat) (m_Roads_A : Option Addr) (m_Roads_n : Nat) (m_Roads_c : Nat) (R : Value → Hp → Prop) (h : FK σ m_Parking_A m_Parking_n m_Parking_c m_Roads_A m_Roads_n m_Roads_c R) : Af Try.prog 20 #[(.agg #[(.slice m_Parking_A m_Parking_n m_Parking_c), (.slice m_Roads_A m_Roads_n m_Roads_c)])] σ R :=
  Am Mx Jq Try.func20 rfl (by kernel_rfl) (by kernel_rfl) (M := FK σ m_Parking_A m_Parking_n m_Parking_c m_Roads_A m_Roads_n m_Roads_c R) (by kernel_rfl) h
theorem Hw : AA Try.prog 20 = true := by kernel_rfl
abbrev ER : FuncId := 37
def C9 (σ : Hp) (j_A : Option Addr) (j_n : Nat) (_ : Nat) (R : Value → Hp → Prop) : Prop :=
  cut (α := List ((Option Addr × Nat × Nat)) → Hp → Prop) (fun xs4 σ2 => ∀ _ : Nat → Value, exl 32 [.slc] xs4 σ2 (fun A5 l5 c5 σ6 => 
    rt σ6 R (.slice A5 l5 c5))) (fun J3 => ∃ I9 : Nat → List ((Option Addr × Nat × Nat)) → Int → Hp → Prop, (∃ n100, adp 32 [.slc] none 0 0 σ (fun (xs11 : List ((Option Addr × Nat × Nat))) σ12 => 
    I9 n100 xs11 0 σ12)) ∧ ∀ n10 : Nat, ∀ xs13 : List ((Option Addr × Nat × Nat)), ∀ n14 : Int, ∀ σ8 : Hp, I9 n10 xs13 n14 σ8 → ∀ _ : Nat → Value, bc (decide (n14 < ((j_n : Nat) : Int))) (ix j_A j_n n14 1 (fun b15 a16 => 
    ldS σ8 b15 a16 (fun A17 l17 _ => ∃ ys18 : List (Int × Int), RdS [.int .i64, .int .i64] σ8 A17 l17 ys18 ∧ 
    BG (List.length ([] : List (Int × Int)) + List.length ys18) (exl 60 [.int .i64, .int .i64] (([] : List (Int × Int)) ++ ys18) σ8 (fun A19 l19 c19 σ20 => 
    bx σ20 (.cells #[(.slice A19 l19 c19)] 32) (fun b21 σ22 => ∃ ys23 : List ((Option Addr × Nat × Nat)), RdS [.slc] σ22 (some ⟨b21, 0, none⟩) 1 ys23 ∧ 
    BG (List.length xs13 + List.length ys23) (wk .i64 (n14 + 1) (fun n24 => bk σ22 n10 (fun m25 σ26 => 
    I9 m25 (xs13 ++ ys23) n24 σ26))))))))) (J3 xs13 σ8))
def GY : MAn := (.seq (.txt []) (.seq (.txt []) (.cut ⟨[], 1, [.slot 3 (.lst 0 32 [.slc])], []⟩ (.seq (.txt []) (.block (.loop ⟨[], 1, [.slot 3 (.lst 0 32 [.slc]), .slot 4 (.sc (.int .i64))], [(0, true)]⟩ (.seq (.seq (.txt []) (.cond .leaf .leaf)) (.seq (.block (.txt [])) (.txt [])))))) (.seq (.txt []) .leaf))))
set_option maxRecDepth 100000 in
theorem GX (σ : Hp) (j_A : Option Addr) (j_n : Nat) (j_c : Nat) (R : Value → Hp → Prop) (h : C9 σ j_A j_n j_c R) : Af Try.prog 37 #[(.slice j_A j_n j_c)] σ R :=
  Am Mx GY Try.func37 rfl (by kernel_rfl) (by kernel_rfl) (M := C9 σ j_A j_n j_c R) (by kernel_rfl) h
theorem Fk : AA Try.prog 37 = true := by kernel_rfl
end Go.Proofs.Ytkdjkkimngeloaa
