/- Numbers of lists; boxes; pointers. No program in sight. -/
import Derived.Test.YtgcefaikdplbkaaHs2
namespace Go.Proofs.Ytgcefaikdplbkaa
open Go.RowKit

/-- a number of a list -/
def gt (xs : List Int) (i : Int) : Int := xs.getD i.toNat 0
theorem gt_eq {xs : List Int} {i : Int} (h : i.toNat < xs.length) : gt xs i = xs[i.toNat] := by simp [gt, List.getD, h]
theorem gt_nat {xs : List Int} {k : Nat} (h : k < xs.length) : gt xs k = xs[k] := by rw [gt_eq (by simpa using h)]; simp
theorem gixg {σ : Hp} {A : Option Addr} {n : Nat} {xs : List Int} {i : Int} {K : Int → Prop} (h : RdS [.int .i64] σ A n xs) (hi : 0 ≤ i) (hn : i < xs.length) (hk : K (gt xs i)) : ix A n i 1 fun b a => ldI σ .i64 b a K :=
  ix_ldI h hi (by omega) (by rw [← gt_eq (by omega)]; exact hk)
theorem gt_in {xs : List Int} {a b : Int} (h : ∀ x ∈ xs, a ≤ x ∧ x ≤ b) (h0 : a ≤ 0 ∧ 0 ≤ b) (i : Int) : a ≤ gt xs i ∧ gt xs i ≤ b := by
  by_cases hi : i.toNat < xs.length
  · rw [gt_eq hi]; exact h _ (List.getElem_mem hi)
  · have : gt xs i = 0 := by simp [gt, List.getD, hi]
    rw [this]; exact h0
theorem gt_mem {cs : List Int} {k : Nat} (h : k < cs.length) : gt cs k ∈ cs := by rw [gt_nat h]; exact List.getElem_mem h
theorem lat_I {xs : List Int} {i : Int} {K : Int → Prop} (h0 : 0 ≤ i) (h1 : i < xs.length) (hk : K (gt xs i)) : lat xs i.toNat K := ⟨by omega, by rw [← gt_eq (by omega)]; exact hk⟩
theorem gt_set {xs : List Int} {i c v : Int} (h0 : 0 ≤ i) (h1 : 0 ≤ c) (h2 : c < xs.length) : gt (xs.set i.toNat v) c = if c = i then v else gt xs c := by
  have hc : c.toNat < xs.length := by omega
  rw [gt_eq (by simpa using hc), gt_eq hc, List.getElem_set]
  by_cases h : c = i
  · subst h; simp
  · rw [if_neg h, if_neg (by omega)]
theorem take_fold {α β : Type} {f : β → α → β} {b : β} {xs : List α} {k : Nat} (h : k < xs.length) : (xs.take (k + 1)).foldl f b = f ((xs.take k).foldl f b) xs[k] := by
  rw [List.take_succ_eq_append_getElem h, List.foldl_append]
  rfl
theorem gt_app_l {A B : List Int} {k : Nat} (h : k < A.length) : gt (A ++ B) k = gt A k := by
  rw [gt_nat h, gt_nat (by simp; omega), List.getElem_append_left h]
theorem gt_app_0 {A B : List Int} {x : Int} : gt (A ++ x :: B) A.length = x := by
  rw [gt_nat (by simp)]
  simp
def sumI : List Int → Int
  | [] => 0
  | x :: xs => x + sumI xs
theorem sumI_app : ∀ (xs ys : List Int), sumI (xs ++ ys) = sumI xs + sumI ys
  | [], ys => by simp [sumI]
  | x :: xs, ys => by
    have := sumI_app xs ys
    simp only [List.cons_append, sumI, this]
    omega
theorem sumI_take {xs : List Int} {k : Nat} (h : k < xs.length) : sumI (xs.take (k + 1)) = sumI (xs.take k) + gt xs k := by
  rw [List.take_succ_eq_append_getElem h, sumI_app, gt_nat h]
  simp [sumI]
theorem sumI_set : ∀ {xs : List Int} {i : Nat} {v : Int} (h : i < xs.length), sumI (xs.set i v) = sumI xs - xs[i] + v
  | x :: xs, 0, v, _ => by simp [sumI]; omega
  | x :: xs, i + 1, v, h => by
    have := sumI_set (xs := xs) (i := i) (v := v) (by simpa using h)
    simp only [List.set_cons_succ, sumI, this, List.getElem_cons_succ]
    omega
theorem sumI_setI {xs : List Int} {c v : Int} (h0 : 0 ≤ c) (h1 : c < xs.length) : sumI (xs.set c.toNat v) = sumI xs - gt xs c + v := by
  rw [sumI_set (by omega), gt_eq (by omega)]
theorem cell_sub {σ σ' : Hp} {a : Addr} {v : Value} (hs : Hp.Sub σ σ') (h : σ.cell? a = some v) : σ'.cell? a = some v := by
  unfold Hp.cell? at h ⊢
  split at h
  · rename_i e
    rw [hs _ _ e]
    exact h
  · cases h
/-- a box that holds one cell -/
def Bx1 (σ : Hp) (p : Option Addr) (v : Value) : Prop := ∃ b, p = some ⟨b, 0, none⟩ ∧ σ.cell? ⟨b, 0, none⟩ = some v
theorem Bx1.sub {σ σ' : Hp} {p : Option Addr} {v : Value} (h : Bx1 σ p v) (hs : Hp.Sub σ σ') : Bx1 σ' p v := let ⟨b, h1, h2⟩ := h; ⟨b, h1, cell_sub hs h2⟩
theorem Bx1.ins {σ : Hp} {b : Nat} {v : Value} {t : TypeId} : Bx1 (σ.ins b (.cells #[v] t (0, 0))) (some ⟨b, 0, none⟩) v := ⟨b, rfl, by unfold Hp.cell?; simp only [Hp.ins_same]; rfl⟩
theorem Bx1.ldI {σ : Hp} {p : Option Addr} {n : Int} {K : Int → Prop} (h : Bx1 σ p (.int .i64 n)) (hk : K n) : dr p fun b o => ldI σ .i64 b o K := by
  obtain ⟨b, rfl, hc⟩ := h
  exact dr_i (ldI_of hc hk)
theorem Bx1.ldP {σ : Hp} {p q : Option Addr} {K : Option Addr → Prop} (h : Bx1 σ p (.pointer q)) (hk : K q) : dr p fun b o => ldP σ b o K := by
  obtain ⟨b, rfl, hc⟩ := h
  exact dr_i (ldP_of hc hk)
theorem Bx1.ldS {σ : Hp} {p A : Option Addr} {n c : Nat} {K : Option Addr → Nat → Nat → Prop} (h : Bx1 σ p (.slice A n c)) (hk : K A n c) : dr p fun b o => ldS σ b o K := by
  obtain ⟨b, rfl, hc⟩ := h
  exact dr_i (ldS_of hc hk)

/-- a list of pointers, read -/
theorem pixp {σ : Hp} {A : Option Addr} {n : Nat} {xs : List (Option Addr)} {i : Int} {K : Option Addr → Prop} (h : RdS [.ptr] σ A n xs) (hi : 0 ≤ i) (hn : i.toNat < xs.length) (hk : K (xs.getD i.toNat none)) : ix A n i 1 fun b a => ldP σ b a K := by
  have hl : n = xs.length := h.1
  obtain ⟨b, off, rfl, hc⟩ := h.at1 hn
  have e : xs.getD i.toNat none = xs[i.toNat] := by simp [List.getD, hn]
  rw [e] at hk
  refine ⟨hi, ?_, xs[i.toNat], ?_, hk⟩
  · rw [hl]; clear hc hk; omega
  · exact hc
end Go.Proofs.Ytgcefaikdplbkaa
