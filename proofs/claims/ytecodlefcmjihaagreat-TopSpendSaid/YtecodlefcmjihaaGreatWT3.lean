/- Trimmed by wip/trim.py to what this claim rests on. -/
import Derived.Test.YtecodlefcmjihaaGreatWB11
namespace Go.Proofs.YtecodlefcmjihaaGreat
open Go.RowKit
theorem QC : Tryz.prog.follows .mixedOrders = true := by kernel_rfl
abbrev M6 : FuncId := 122
def EM (σ : Hp) (x : Int) (y : Int) (R : Value → Hp → Prop) : Prop :=
  cl Tryz.prog (.func (.func 147) #[] #[]) #[(.int .u64 x), (.int .u64 y)] σ (fun v1 σ2 => ∃ n3 : Int, ∃ n4 : Int, (v1 = (.tuple #[(.int .u64 n3), (.int .u64 n4)]) ∧ 
    rt σ2 R (.tuple #[(.int .u64 n3), (.int .u64 n4)])))
def Ke : MAn := (.seq (.txt []) (.seq (.cond (.seq (.txt []) (.seq (.txt []) .leaf)) .leaf) (.seq (.txt []) (.seq (.txt []) .leaf))))
set_option maxRecDepth 100000 in
theorem Ka (σ : Hp) (x : Int) (y : Int) (R : Value → Hp → Prop) (h : EM σ x y R) : Al Tryz.prog 122 #[(.int .u64 x), (.int .u64 y)] σ R :=
  Am QC Ke Tryz.func122 rfl (by kernel_rfl) (by kernel_rfl) (M := EM σ x y R) (by kernel_rfl) h
theorem Io : AA Tryz.prog 122 = true := by kernel_rfl
abbrev Lp : FuncId := 147
def DM (σ : Hp) (x : Int) (y : Int) (R : Value → Hp → Prop) : Prop :=
  wk .u64 (((BitVec.ofInt (IntKind.bits .u64) x &&& BitVec.ofInt (IntKind.bits .u64) 4294967295).toNat : Int)) (fun n1 => 
    (0 ≤ (32 : Int) ∧ wk .u64 (((BitVec.ofInt (IntKind.bits .u64) y &&& BitVec.ofInt (IntKind.bits .u64) 4294967295).toNat : Int)) (fun n2 => 
    (0 ≤ (32 : Int) ∧ wk .u64 (n1 * n2) (fun n3 => wk .u64 ((Int.fdiv x (2 ^ (min (32 : Int).toNat (IntKind.bits .u64)))) * n2) (fun n4 => 
    (0 ≤ (32 : Int) ∧ wk .u64 (n4 + (Int.fdiv n3 (2 ^ (min (32 : Int).toNat (IntKind.bits .u64))))) (fun n5 => 
    wk .u64 (((BitVec.ofInt (IntKind.bits .u64) n5 &&& BitVec.ofInt (IntKind.bits .u64) 4294967295).toNat : Int)) (fun n6 => 
    (0 ≤ (32 : Int) ∧ wk .u64 (n1 * (Int.fdiv y (2 ^ (min (32 : Int).toNat (IntKind.bits .u64))))) (fun n7 => 
    wk .u64 (n6 + n7) (fun n8 => wk .u64 ((Int.fdiv x (2 ^ (min (32 : Int).toNat (IntKind.bits .u64)))) * (Int.fdiv y (2 ^ (min (32 : Int).toNat (IntKind.bits .u64))))) (fun n9 => 
    wk .u64 (n9 + (Int.fdiv n5 (2 ^ (min (32 : Int).toNat (IntKind.bits .u64))))) (fun n10 => (0 ≤ (32 : Int) ∧ 
    wk .u64 (n10 + (Int.fdiv n8 (2 ^ (min (32 : Int).toNat (IntKind.bits .u64))))) (fun n11 => wk .u64 (x * y) (fun n12 => 
    rt σ R (.tuple #[(.int .u64 n11), (.int .u64 n12)]))))))))))))))))))
def IJ : MAn := (.seq (.txt []) (.seq (.txt []) (.seq (.txt []) (.seq (.txt []) (.seq (.txt []) (.seq (.txt []) (.seq (.txt []) (.seq (.txt []) (.seq (.txt []) (.seq (.txt []) (.seq (.txt []) (.seq (.txt []) .leaf))))))))))))
set_option maxRecDepth 100000 in
theorem I0 (σ : Hp) (x : Int) (y : Int) (R : Value → Hp → Prop) (h : DM σ x y R) : Al Tryz.prog 147 #[(.int .u64 x), (.int .u64 y)] σ R :=
  Am QC IJ Tryz.func147 rfl (by kernel_rfl) (by kernel_rfl) (M := DM σ x y R) (by kernel_rfl) h
theorem Hc : AA Tryz.prog 147 = true := by kernel_rfl
end Go.Proofs.YtecodlefcmjihaaGreat
