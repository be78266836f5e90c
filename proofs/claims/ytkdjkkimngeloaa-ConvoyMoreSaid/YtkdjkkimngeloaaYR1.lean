/- Trimmed by wip/trim.py to what this claim rests on. -/
import Derived.Test.YtkdjkkimngeloaaYB11
namespace Go.Proofs.Ytkdjkkimngeloaa
open Go.RowKit
theorem Od : Try.prog.follows .mixedOrders = true := by kernel_rfl
abbrev GB : FuncId := 20
def EN (σ : Hp) (m_Parking_A : Option Addr) (m_Parking_n : Nat) (_ : Nat) (m_Roads_A : Option Addr) (m_Roads_n : Nat) (_ : Nat) (R : Value → Hp → Prop) : Prop :=
  ((∃ ys1 : List Bool, RdS [.bool] σ m_Parking_A m_Parking_n ys1 ∧ CJ (List.length ([] : List Bool) + List.length ys1) (∃ ys2 : List (Int × Int × Int × Int × Int), RdS [.int .i64, .int .i64, .int .i64, .int .i64, .int .i64] σ m_Roads_A m_Roads_n ys2 ∧ 
    CJ (List.length ([] : List (Int × Int × Int × Int × Int)) + List.length ys2) (exl 4 [.bool] (([] : List Bool) ++ ys1) σ (fun A3 l3 c3 σ4 => 
    exl 51 [.int .i64, .int .i64, .int .i64, .int .i64, .int .i64] (([] : List (Int × Int × Int × Int × Int)) ++ ys2) σ4 (fun A5 l5 c5 σ6 => 
    rt σ6 R (.agg #[(.slice A3 l3 c3), (.slice A5 l5 c5)])))))) ∧ (∃ ys7 : List Bool, RdS [.bool] σ m_Parking_A m_Parking_n ys7 ∧ 
    CJ (List.length ([] : List Bool) + List.length ys7) (∃ ys8 : List (Int × Int × Int × Int × Int), RdS [.int .i64, .int .i64, .int .i64, .int .i64, .int .i64] σ m_Roads_A m_Roads_n ys8 ∧ 
    CJ (List.length ([] : List (Int × Int × Int × Int × Int)) + List.length ys8) (exl 4 [.bool] (([] : List Bool) ++ ys7) σ (fun A9 l9 c9 σ10 => 
    exl 51 [.int .i64, .int .i64, .int .i64, .int .i64, .int .i64] (([] : List (Int × Int × Int × Int × Int)) ++ ys8) σ10 (fun A11 l11 c11 σ12 => 
    rt σ12 R (.agg #[(.slice A9 l9 c9), (.slice A11 l11 c11)])))))))
def Au : OA := ⟨[], false, []⟩
def H2 : MAn := (.seq (.txt []) (.seq (.plan [3, 7, 9] (.take 1 Au (.take 2 Au (.take 5 Au (.new 0 Au (.new 4 Au (.alt 3 false Au (.take 6 Au (.alt 7 false Au (.take 8 Au (.alt 9 false Au .done .done)) .done)) (.alt 6 true Au (.alt 3 false Au (.alt 7 false Au (.take 8 Au (.alt 9 false Au .done .done)) .done) .done) .done)))))))) .leaf))
set_option maxRecDepth 100000 in
theorem H8 (σ : Hp) (m_Parking_A : Option Addr) (m_Parking_n : Nat) (m_Parking_c : Nat) (m_Roads_A : Option Addr) (m_Roads_n : Nat) (m_Roads_c : Nat) (R : Value → Hp → Prop) (h : EN σ m_Parking_A m_Parking_n m_Parking_c m_Roads_A m_Roads_n m_Roads_c R) : Ad Try.prog 20 #[(.agg #[(.slice m_Parking_A m_Parking_n m_Parking_c), (.slice m_Roads_A m_Roads_n m_Roads_c)])] σ R :=
  Ak Od H2 Try.func20 rfl (by kernel_rfl) (by kernel_rfl) (M := EN σ m_Parking_A m_Parking_n m_Parking_c m_Roads_A m_Roads_n m_Roads_c R) (by kernel_rfl) h
theorem Dm : As Try.prog 20 = true := by kernel_rfl
end Go.Proofs.Ytkdjkkimngeloaa
