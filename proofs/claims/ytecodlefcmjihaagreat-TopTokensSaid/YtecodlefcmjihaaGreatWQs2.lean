/- Trimmed by wip/trim.py to what this claim rests on. -/
import Derived.Test.YtecodlefcmjihaaGreatWQs1
namespace Go.Proofs.YtecodlefcmjihaaGreat
open Go.RowKit Go.Shelf Go.Sort Go.Lib
def qcmp (a b : Int × Int) : Int := a.1 - b.1
theorem qcmp_lt (a b : Int × Int) : qcmp a b < 0 ↔ a.1 < b.1 := by unfold qcmp; omega
theorem sortQ_holds : SortQ := by
  intro σ0 σ A n c xs ho hl hb hnd
  have key : ∀ x ∈ xs, ∀ y ∈ xs, x.1 = y.1 → x = y := by
    intro x hx y hy e
    obtain ⟨i, hi, rfl⟩ := List.getElem_of_mem hx
    obtain ⟨j, hj, rfl⟩ := List.getElem_of_mem hy
    have hpw := List.pairwise_iff_getElem.1 hnd
    rcases Nat.lt_trichotomy i j with h | h | h
    · have := hpw i j (by simpa using hi) (by simpa using hj) h
      rw [List.getElem_map, List.getElem_map] at this
      exact absurd e this
    · subst h; rfl
    · have := hpw j i (by simpa using hj) (by simpa using hi) h
      rw [List.getElem_map, List.getElem_map] at this
      exact absurd e.symm this
  have h1 : ∀ x : TyR sQ, ∀ v ∈ encR sQ x, v.oneCell' = true := by
    intro x v hv
    have hv : v ∈ [Value.int .i64 x.1, .int .i64 x.2] := hv
    simp only [List.mem_cons, List.not_mem_nil, or_false] at hv
    rcases hv with rfl | rfl <;> rfl
  have hc : ∀ x ∈ xs, ∀ y ∈ xs, FCalls Tryz.prog N_queue_night_leave_2 #[.agg (encR sQ x).toArray, .agg (encR sQ y).toArray] (fun _ => none) fun v _ => v = .int .i64 (qcmp x y) := by
    intro x hx y hy
    have b1 := hb x hx
    have b2 := hb y hy
    refine M_queue_night_leave_2_ok _ _ _ _ _ _ ?_
    unfold M_queue_night_leave_2
    exact wk_i (by omega) (rt_of rfl)
  have k1 : ∀ x ∈ xs, ¬ qcmp x x < 0 := fun x _ => by rw [qcmp_lt]; omega
  have k2 : ∀ x ∈ xs, ∀ y ∈ xs, ∀ z ∈ xs, qcmp x y < 0 → qcmp y z < 0 → qcmp x z < 0 := fun x _ y _ z _ h2 h3 => by rw [qcmp_lt] at *; omega
  have k3 : ∀ x ∈ xs, ∀ y ∈ xs, ∀ z ∈ xs, ¬ qcmp x y < 0 → ¬ qcmp y z < 0 → ¬ qcmp x z < 0 := fun x _ y _ z _ h2 h3 => by rw [qcmp_lt] at *; omega
  have k4 : ∀ x ∈ xs, ∀ y ∈ xs, ¬ qcmp x y < 0 → ¬ qcmp y x < 0 → x = y := fun x hx y hy h2 h3 => by rw [qcmp_lt] at *; exact key x hx y hy (by omega)
  have := sortF_bridge (ss := sQ) (g := N_queue_night_leave_2) YtecodlefcmjihaaGreat.sortQ Tryz.isAgg128 Tryz.sizeOf128 h1 qcmp (enters_of Tryz.func88 (by kernel_rfl) rfl) ho hl hc k1 k2 k3 k4
  have e : (fun x y : Int × Int => !decide (qcmp y x < 0)) = fun x y => decide (x.1 ≤ y.1) := by
    funext x y
    unfold qcmp
    by_cases h : x.1 ≤ y.1
    · rw [decide_eq_true h, decide_eq_false (by omega)]; rfl
    · rw [decide_eq_false h, decide_eq_true (by omega)]; rfl
  refine this.mono ?_
  rintro v σ' ⟨rfl, h⟩
  refine ⟨rfl, ?_⟩
  have h' : OwnSl 128 sQ σ0 A n c (List.mergeSort (α := Int × Int) xs fun x y => !decide (qcmp y x < 0)) σ' := h
  rw [e, mergeSort_sortB (α := Int × Int) (le := fun x y => decide (x.1 ≤ y.1)) (fun a b c h1 h2 => decide_eq_true (Int.le_trans (of_decide_eq_true h1) (of_decide_eq_true h2))) (fun a b => by simp only [decide_eq_true_eq]; omega) (fun a ha b hb h1 h2 => key a ha b hb (Int.le_antisymm (of_decide_eq_true h1) (of_decide_eq_true h2)))] at h'
  exact h'
def orI : List Int → Int
  | [] => 0
  | x :: xs => if x = 0 then orI xs else x
theorem c_cmp_Or {σ : Hp} {A : Option Addr} {n c : Nat} {xs : List Int} (hx : RdS [.int .i64] σ A n xs) (hl : xs.length ≤ 4294967296) : FCalls Tryz.prog N_cmp_Or_int #[.slice A n c] σ fun v σ' => v = .int .i64 (orI xs) ∧ σ' = σ := by
  refine M_cmp_Or_int_ok _ _ _ _ _ ?_
  unfold M_cmp_Or_int
  have hn := hx.lenI
  refine cut_intro fun J3 h3 => ?_
  refine ⟨fun w i τ => ∃ k : Nat, w = xs.length - k ∧ i = k ∧ k ≤ xs.length ∧ τ = σ ∧ orI (xs.drop k) = orI xs, ⟨_, 0, rfl, rfl, by omega, rfl, rfl⟩, ?_⟩
  rintro w i τ ⟨k, rfl, rfl, hk, rfl, he⟩ _
  refine bc_d (fun hlt => ?_) (fun hlt => ?_)
  · have hkl : k < xs.length := by omega
    refine gixg hx (by omega) (by omega) ?_
    rw [List.drop_eq_getElem_cons hkl, orI] at he
    rw [gt_nat hkl]
    refine bc_nd (fun hne => rt_of ⟨?_, rfl⟩) (fun h0 => wk_i (by omega) (bk_of _ (by omega) ⟨k + 1, rfl, by omega, by omega, rfl, ?_⟩))
    · rw [← he, if_neg hne]
    · rw [← he, if_pos h0]
  · have : k = xs.length := by omega
    subst this
    rw [h3]
    intro _
    refine rt_of ⟨?_, rfl⟩
    rw [← he, List.drop_length]
    rfl
def Vis.left (v : Vis) : Int := v.2.2.2.2.2
def vcmp (a b : Vis) : Int := orI [a.left - b.left, a.1 - b.1, a.2.1 - b.2.1]
def vle (x y : Vis) : Bool := !decide (vcmp y x < 0)
def vsort (xs : List Vis) : List Vis := sortB vle xs
theorem vcmp_lt (a b : Vis) : vcmp a b < 0 ↔ a.left < b.left ∨ a.left = b.left ∧ (a.1 < b.1 ∨ a.1 = b.1 ∧ a.2.1 < b.2.1) := by
  simp only [vcmp, orI]
  split
  · split
    · split <;> omega
    · omega
  · omega
theorem vle_iff (a b : Vis) : vle a b = true ↔ ¬ (b.left < a.left ∨ b.left = a.left ∧ (b.1 < a.1 ∨ b.1 = a.1 ∧ b.2.1 < a.2.1)) := by
  unfold vle
  rw [Bool.not_eq_true', decide_eq_false_iff_not, vcmp_lt]
theorem vle_trans (a b c : Vis) (h1 : vle a b = true) (h2 : vle b c = true) : vle a c = true := by rw [vle_iff] at *; omega
theorem vle_total (a b : Vis) : vle a b = true ∨ vle b a = true := by rw [vle_iff, vle_iff]; omega
theorem c_play_1 {σ : Hp} {a b : Vis} (ha : ∀ v ∈ [a, b], (0 ≤ v.left ∧ v.left ≤ 1000000) ∧ (0 ≤ v.1 ∧ v.1 ≤ 1000000) ∧ (0 ≤ v.2.1 ∧ v.2.1 ≤ 1000000)) : FCalls Tryz.prog N_queue_play_1 #[.agg (encR sV a).toArray, .agg (encR sV b).toArray] σ fun v _ => v = .int .i64 (vcmp a b) := by
  have h1 := ha a (by simp)
  have h2 := ha b (by simp)
  refine M_queue_play_1_ok _ _ _ _ _ _ _ _ _ _ _ _ _ _ ?_
  unfold M_queue_play_1
  have e1 : a.left = a.2.2.2.2.2 := rfl
  have e2 : b.left = b.2.2.2.2.2 := rfl
  rw [e1] at h1
  rw [e2] at h2
  refine wk_i (by omega) (wk_i (by omega) (wk_i (by omega) ?_))
  intro A n c σ' ho
  refine clI M_cmp_Or_int_enter (c_cmp_Or ho.RdI (by simp)) (rt_of rfl)
def SortV : Prop := ∀ (σ0 σ : Hp) (A : Option Addr) (n c : Nat) (xs : List Vis), OwnSl 47 sV σ0 A n c xs σ → xs.length ≤ 4294967296 →
  (∀ v ∈ xs, (0 ≤ v.left ∧ v.left ≤ 1000000) ∧ (0 ≤ v.1 ∧ v.1 ≤ 1000000) ∧ (0 ≤ v.2.1 ∧ v.2.1 ≤ 1000000)) → (∀ x ∈ xs, ∀ y ∈ xs, x.1 = y.1 → x.2.1 = y.2.1 → x = y) →
  FCalls Tryz.prog N_slices_SortFunc_api_Visit #[.slice A n c, .func (.func N_queue_play_1) #[] #[]] σ fun v σ' => v = .tuple #[] ∧ OwnSl 47 sV σ0 A n c (vsort xs) σ'
theorem sortV_holds : SortV := by
  intro σ0 σ A n c xs ho hl hb hT
  have h1 : ∀ x : TyR sV, ∀ v ∈ encR sV x, v.oneCell' = true := by
    intro x v hv
    have : v ∈ [Value.int .i64 x.1, .int .i64 x.2.1, .int .i64 x.2.2.1, .bool x.2.2.2.1, .int .i64 x.2.2.2.2.1, .int .i64 x.2.2.2.2.2] := hv
    simp only [List.mem_cons, List.not_mem_nil, or_false] at this
    rcases this with rfl | rfl | rfl | rfl | rfl | rfl <;> rfl
  have hc : ∀ x ∈ xs, ∀ y ∈ xs, FCalls Tryz.prog N_queue_play_1 #[.agg (encR sV x).toArray, .agg (encR sV y).toArray] (fun _ => none) fun v _ => v = .int .i64 (vcmp x y) := by
    intro x hx y hy
    refine c_play_1 fun v hv => ?_
    simp only [List.mem_cons, List.not_mem_nil, or_false] at hv
    rcases hv with rfl | rfl
    · exact hb _ hx
    · exact hb _ hy
  have k1 : ∀ x ∈ xs, ¬ vcmp x x < 0 := fun x _ => by rw [vcmp_lt]; omega
  have k2 : ∀ x ∈ xs, ∀ y ∈ xs, ∀ z ∈ xs, vcmp x y < 0 → vcmp y z < 0 → vcmp x z < 0 := fun x _ y _ z _ h2 h3 => by rw [vcmp_lt] at *; omega
  have k3 : ∀ x ∈ xs, ∀ y ∈ xs, ∀ z ∈ xs, ¬ vcmp x y < 0 → ¬ vcmp y z < 0 → ¬ vcmp x z < 0 := fun x _ y _ z _ h2 h3 => by rw [vcmp_lt] at *; omega
  have k4 : ∀ x ∈ xs, ∀ y ∈ xs, ¬ vcmp x y < 0 → ¬ vcmp y x < 0 → x = y := fun x hx y hy h2 h3 => by rw [vcmp_lt] at *; exact hT x hx y hy (by omega) (by omega)
  have em : (xs : List Vis).mergeSort (fun x y => !decide (vcmp y x < 0)) = vsort xs := mergeSort_sortB (le := vle) vle_trans vle_total (fun a ha b hb h1 h2 => by rw [vle_iff] at h1 h2; exact hT a ha b hb (by omega) (by omega))
  rw [← em]
  exact sortF_bridge (ss := sV) (g := N_queue_play_1) YtecodlefcmjihaaGreat.sortV Tryz.isAgg47 Tryz.sizeOf47 h1 vcmp (enters_of Tryz.func53 (by kernel_rfl) rfl) ho hl hc k1 k2 k3 k4
end Go.Proofs.YtecodlefcmjihaaGreat
