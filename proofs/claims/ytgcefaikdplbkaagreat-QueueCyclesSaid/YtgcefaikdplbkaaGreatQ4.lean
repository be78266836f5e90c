/- M-forms, printed by wip/gen/genm.py out of the translation: each function as a proposition over its local objects, with the lemma that it is what the function does. -/
import Derived.Test.YtgcefaikdplbkaaGreatB11
namespace Go.Proofs.YtgcefaikdplbkaaGreat
open Go.RowKit

theorem mixed_Q4 : Tryz.prog.follows .mixedOrders = true := by kernel_rfl

abbrev N_slices_SortFunc_api_Visit : FuncId := 55
/-- slices.SortFunc[[]waltzer/api.Visit,waltzer/api.Visit] -/
def M_slices_SortFunc_api_Visit (σ : Hp) (x_A : Option Addr) (x_n : Nat) (x_c : Nat) (cmp : Value) (R : Value → Hp → Prop) : Prop :=
  wk .u64 (((x_n : Nat) : Int)) (fun n1 => cl Tryz.prog (.func (.func 60) #[] #[]) #[(.int .u64 n1)] σ (fun v2 σ3 => 
    ∃ n4 : Int, (v2 = (.int .i64 n4) ∧ cl Tryz.prog (.func (.func 76) #[] #[]) #[(.slice x_A x_n x_c), (.int .i64 0), (.int .i64 ((x_n : Nat) : Int)), (.int .i64 n4), cmp] σ3 (fun _ σ6 => 
    rt σ6 R (.tuple #[])))))
def M_slices_SortFunc_api_Visit_an : MAn := (.seq (.txt []) (.txt []))
set_option maxRecDepth 100000 in
theorem M_slices_SortFunc_api_Visit_ok (σ : Hp) (x_A : Option Addr) (x_n : Nat) (x_c : Nat) (cmp : Value) (R : Value → Hp → Prop) (h : M_slices_SortFunc_api_Visit σ x_A x_n x_c cmp R) : FCalls Tryz.prog 55 #[(.slice x_A x_n x_c), cmp] σ R :=
  fcalls_of_M mixed_Q4 M_slices_SortFunc_api_Visit_an Tryz.func55 rfl (by kernel_rfl) (by kernel_rfl) (M := M_slices_SortFunc_api_Visit σ x_A x_n x_c cmp R) (by kernel_rfl) h
theorem M_slices_SortFunc_api_Visit_enter : enterB Tryz.prog 55 = true := by kernel_rfl

abbrev N_slices_Sort_int : FuncId := 36
/-- slices.Sort[[]int,int] -/
def M_slices_Sort_int (σ : Hp) (x_A : Option Addr) (x_n : Nat) (x_c : Nat) (R : Value → Hp → Prop) : Prop :=
  wk .u64 (((x_n : Nat) : Int)) (fun n1 => cl Tryz.prog (.func (.func 60) #[] #[]) #[(.int .u64 n1)] σ (fun v2 σ3 => 
    ∃ n4 : Int, (v2 = (.int .i64 n4) ∧ cl Tryz.prog (.func (.func 59) #[] #[]) #[(.slice x_A x_n x_c), (.int .i64 0), (.int .i64 ((x_n : Nat) : Int)), (.int .i64 n4)] σ3 (fun _ σ6 => 
    rt σ6 R (.tuple #[])))))
def M_slices_Sort_int_an : MAn := (.seq (.txt []) (.txt []))
set_option maxRecDepth 100000 in
theorem M_slices_Sort_int_ok (σ : Hp) (x_A : Option Addr) (x_n : Nat) (x_c : Nat) (R : Value → Hp → Prop) (h : M_slices_Sort_int σ x_A x_n x_c R) : FCalls Tryz.prog 36 #[(.slice x_A x_n x_c)] σ R :=
  fcalls_of_M mixed_Q4 M_slices_Sort_int_an Tryz.func36 rfl (by kernel_rfl) (by kernel_rfl) (M := M_slices_Sort_int σ x_A x_n x_c R) (by kernel_rfl) h
theorem M_slices_Sort_int_enter : enterB Tryz.prog 36 = true := by kernel_rfl

abbrev N_slices_SortFunc_queue_stand : FuncId := 73
/-- slices.SortFunc[[]waltzer/queue.stand,waltzer/queue.stand] -/
def M_slices_SortFunc_queue_stand (σ : Hp) (x_A : Option Addr) (x_n : Nat) (x_c : Nat) (cmp : Value) (R : Value → Hp → Prop) : Prop :=
  wk .u64 (((x_n : Nat) : Int)) (fun n1 => cl Tryz.prog (.func (.func 60) #[] #[]) #[(.int .u64 n1)] σ (fun v2 σ3 => 
    ∃ n4 : Int, (v2 = (.int .i64 n4) ∧ cl Tryz.prog (.func (.func 90) #[] #[]) #[(.slice x_A x_n x_c), (.int .i64 0), (.int .i64 ((x_n : Nat) : Int)), (.int .i64 n4), cmp] σ3 (fun _ σ6 => 
    rt σ6 R (.tuple #[])))))
def M_slices_SortFunc_queue_stand_an : MAn := (.seq (.txt []) (.txt []))
set_option maxRecDepth 100000 in
theorem M_slices_SortFunc_queue_stand_ok (σ : Hp) (x_A : Option Addr) (x_n : Nat) (x_c : Nat) (cmp : Value) (R : Value → Hp → Prop) (h : M_slices_SortFunc_queue_stand σ x_A x_n x_c cmp R) : FCalls Tryz.prog 73 #[(.slice x_A x_n x_c), cmp] σ R :=
  fcalls_of_M mixed_Q4 M_slices_SortFunc_queue_stand_an Tryz.func73 rfl (by kernel_rfl) (by kernel_rfl) (M := M_slices_SortFunc_queue_stand σ x_A x_n x_c cmp R) (by kernel_rfl) h
theorem M_slices_SortFunc_queue_stand_enter : enterB Tryz.prog 73 = true := by kernel_rfl

end Go.Proofs.YtgcefaikdplbkaaGreat
