/- Texts Gd4 Ga30 Ga31 Gd5: what the claims of this seat rest on; each text says what it proves. -/
import Derived.Test.YtmpkiaghkhhlhaaB18

/- Plain law: exchanges, rotations and merges of numbers, by places. No program in sight. -/
namespace Go.Proofs.Ytmpkiaghkhhlhaa
open Go.RowKit

/-! ### By places -/
/-- what lies at p when two ranges have been exchanged -/
def swv (X : List Int) (a b k p : Int) : Int := if a ≤ p ∧ p < a + k then gt X (p - a + b) else if b ≤ p ∧ p < b + k then gt X (p - b + a) else gt X p
/-- what lies at p when [s, m) and [m, e) have changed places -/
def rtv (X : List Int) (s m e p : Int) : Int := if s ≤ p ∧ p < s + (e - m) then gt X (p + (m - s)) else if s + (e - m) ≤ p ∧ p < e then gt X (p - (e - m)) else gt X p
/-- what lies at p when what lay at a has gone up to k; when what lay at m has gone down to k -/
def inv1 (X : List Int) (a k p : Int) : Int := if p = k then gt X a else if a ≤ p ∧ p < k then gt X (p + 1) else gt X p
def inv2 (X : List Int) (k m p : Int) : Int := if p = k then gt X m else if k < p ∧ p ≤ m then gt X (p - 1) else gt X p
theorem gt_set2 {X : List Int} {i j u v p : Int} (hi : 0 ≤ i ∧ i < X.length) (hj : 0 ≤ j ∧ j < X.length) (hp : 0 ≤ p) : gt ((X.set i.toNat u).set j.toNat v) p = if p = j then v else if p = i then u else gt X p := by
  rw [gt_set' hj.1 (by simp; omega), gt_set' hi.1 hi.2]
  by_cases h1 : p = j
  · rw [if_pos h1, if_pos (by omega)]
  · rw [if_neg h1, if_neg (by omega)]
    by_cases h2 : p = i
    · rw [if_pos h2, if_pos (by omega)]
    · rw [if_neg h2, if_neg (by omega)]
theorem swv_step {X Z : List Int} {a b k : Int} (h0 : 0 ≤ a) (hk : 0 ≤ k) (hab : a + k < b) (hb : b + k < Z.length) (hz : ∀ p, 0 ≤ p → gt Z p = swv X a b k p) : ∀ p, 0 ≤ p → gt ((Z.set (a + k).toNat (gt Z (b + k))).set (b + k).toNat (gt Z (a + k))) p = swv X a b (k + 1) p := by
  intro p hp
  rw [gt_set2 (by omega) (by omega) hp, hz (b + k) (by omega), hz (a + k) (by omega), hz p hp]
  unfold swv
  by_cases h1 : p = b + k
  · rw [if_pos h1, if_neg (by omega), if_neg (by omega), if_neg (by omega), if_pos (by omega)]
    exact congrArg _ (by omega)
  · rw [if_neg h1]
    by_cases h2 : p = a + k
    · rw [if_pos h2, if_neg (by omega), if_neg (by omega), if_pos (by omega)]
      exact congrArg _ (by omega)
    · rw [if_neg h2]
      by_cases h3 : a ≤ p ∧ p < a + k
      · rw [if_pos h3, if_pos (by omega)]
      · rw [if_neg h3, if_neg (show ¬ (a ≤ p ∧ p < a + (k + 1)) by omega)]
        by_cases h4 : b ≤ p ∧ p < b + k
        · rw [if_pos h4, if_pos (by omega)]
        · rw [if_neg h4, if_neg (by omega)]
theorem rtv_left {Z Z' : List Int} {m i j : Int} (h0 : 0 ≤ m - i) (hj : 0 < j) (hij : j < i) (hz : ∀ p, 0 ≤ p → gt Z' p = swv Z (m - i) m j p) : ∀ p, 0 ≤ p → rtv Z' (m - (i - j)) m (m + j) p = rtv Z (m - i) m (m + j) p := by
  intro p hp
  unfold rtv
  by_cases h1 : m - (i - j) ≤ p ∧ p < m - (i - j) + (m + j - m)
  · rw [if_pos h1, hz _ (by omega)]
    unfold swv
    by_cases h2 : m ≤ p + (m - (m - (i - j))) ∧ p + (m - (m - (i - j))) < m + j
    · rw [if_neg (by omega), if_pos h2, if_neg (by omega), if_pos (by omega)]
      exact congrArg _ (by omega)
    · omega
  · rw [if_neg h1]
    by_cases h2 : m - (i - j) + (m + j - m) ≤ p ∧ p < m + j
    · rw [if_pos h2, hz _ (by omega)]
      unfold swv
      rw [if_neg (by omega), if_neg (by omega), if_neg (by omega), if_pos (by omega)]
    · rw [if_neg h2, hz p hp]
      unfold swv
      by_cases h3 : m - i ≤ p ∧ p < m - i + j
      · rw [if_pos h3, if_pos (by omega)]
        exact congrArg _ (by omega)
      · rw [if_neg h3, if_neg (by omega), if_neg (by omega), if_neg (by omega)]
theorem rtv_right {Z Z' : List Int} {m i j : Int} (h0 : 0 ≤ m - i) (hi : 0 < i) (hij : i < j) (hz : ∀ p, 0 ≤ p → gt Z' p = swv Z (m - i) (m + j - i) i p) : ∀ p, 0 ≤ p → rtv Z' (m - i) m (m + (j - i)) p = rtv Z (m - i) m (m + j) p := by
  intro p hp
  unfold rtv
  by_cases h1 : m - i ≤ p ∧ p < m - i + (m + (j - i) - m)
  · rw [if_pos h1, hz _ (by omega)]
    unfold swv
    rw [if_neg (by omega), if_neg (by omega), if_pos (by omega)]
  · rw [if_neg h1]
    by_cases h2 : m - i + (m + (j - i) - m) ≤ p ∧ p < m + (j - i)
    · rw [if_pos h2, hz _ (by omega)]
      unfold swv
      rw [if_pos (by omega), if_pos (by omega)]
      exact congrArg _ (by omega)
    · rw [if_neg h2, hz p hp]
      unfold swv
      by_cases h3 : m + j - i ≤ p ∧ p < m + j - i + i
      · rw [if_neg (by omega), if_pos h3, if_neg (by omega), if_pos (by omega)]
        exact congrArg _ (by omega)
      · rw [if_neg (by omega), if_neg h3, if_neg (by omega), if_neg (by omega)]
theorem rtv_last {Z Z' : List Int} {m i : Int} (hz : ∀ p, 0 ≤ p → gt Z' p = swv Z (m - i) m i p) : ∀ p, 0 ≤ p → gt Z' p = rtv Z (m - i) m (m + i) p := by
  intro p hp
  rw [hz p hp]
  unfold swv rtv
  by_cases h1 : m - i ≤ p ∧ p < m - i + i
  · rw [if_pos h1, if_pos (by omega)]
    exact congrArg _ (by omega)
  · rw [if_neg h1]
    by_cases h2 : m ≤ p ∧ p < m + i
    · rw [if_pos h2, if_neg (by omega), if_pos (by omega)]
      exact congrArg _ (by omega)
    · rw [if_neg h2, if_neg (by omega), if_neg (by omega)]
theorem inv1_step {X Z : List Int} {a k : Int} (h0 : 0 ≤ a) (hk : a ≤ k) (hl : k + 1 < Z.length) (hz : ∀ p, 0 ≤ p → gt Z p = inv1 X a k p) : ∀ p, 0 ≤ p → gt ((Z.set k.toNat (gt Z (k + 1))).set (k + 1).toNat (gt Z k)) p = inv1 X a (k + 1) p := by
  intro p hp
  rw [gt_set2 (by omega) (by omega) hp, hz (k + 1) (by omega), hz k (by omega), hz p hp]
  unfold inv1
  by_cases h1 : p = k + 1
  · rw [if_pos h1, if_pos rfl, if_pos h1]
  · rw [if_neg h1, if_neg h1]
    by_cases h2 : p = k
    · rw [if_pos h2, if_neg (by omega), if_neg (by omega), if_pos (by omega), h2]
    · rw [if_neg h2, if_neg h2]
      by_cases h3 : a ≤ p ∧ p < k
      · rw [if_pos h3, if_pos (by omega)]
      · rw [if_neg h3, if_neg (by omega)]
theorem inv2_step {X Z : List Int} {k m : Int} (h0 : 0 < k) (hk : k ≤ m) (hl : k < Z.length) (hz : ∀ p, 0 ≤ p → gt Z p = inv2 X k m p) : ∀ p, 0 ≤ p → gt ((Z.set k.toNat (gt Z (k - 1))).set (k - 1).toNat (gt Z k)) p = inv2 X (k - 1) m p := by
  intro p hp
  rw [gt_set2 (by omega) (by omega) hp, hz (k - 1) (by omega), hz k (by omega), hz p hp]
  unfold inv2
  by_cases h1 : p = k - 1
  · rw [if_pos h1, if_pos rfl, if_pos h1]
  · rw [if_neg h1, if_neg h1]
    by_cases h2 : p = k
    · rw [if_pos h2, if_neg (by omega), if_neg (by omega), if_pos (by omega), h2]
    · rw [if_neg h2, if_neg h2]
      by_cases h3 : k < p ∧ p ≤ m
      · rw [if_pos h3, if_pos (by omega)]
      · rw [if_neg h3, if_neg (by omega)]

/-! ### Sorted places -/
def Srt (kf : Int → Int) (X : List Int) (a b : Int) : Prop := ∀ p q : Int, a ≤ p → p < q → q < b → slt kf (gt X p) (gt X q)
/-- Y is X, but for the order of [a, b) -/
def Sam (X Y : List Int) (a b : Int) : Prop := (∀ p : Int, 0 ≤ p → (p < a ∨ b ≤ p) → gt Y p = gt X p) ∧ ∀ v : Int, (∃ p : Int, a ≤ p ∧ p < b ∧ gt Y p = v) ↔ ∃ p : Int, a ≤ p ∧ p < b ∧ gt X p = v
theorem Sam.refl (X : List Int) (a b : Int) : Sam X X a b := ⟨fun _ _ _ => rfl, fun _ => Iff.rfl⟩
theorem Sam.trans {X Y Z : List Int} {a b : Int} (h : Sam X Y a b) (k : Sam Y Z a b) : Sam X Z a b := ⟨fun p h0 h1 => (k.1 p h0 h1).trans (h.1 p h0 h1), fun v => (k.2 v).trans (h.2 v)⟩
theorem Sam.wide {X Y : List Int} {a b a' b' : Int} (h : Sam X Y a b) (h0 : 0 ≤ a') (ha : a' ≤ a) (hb : b ≤ b') : Sam X Y a' b' := by
  refine ⟨fun p p0 p1 => h.1 p p0 (by omega), fun v => ?_⟩
  constructor
  · rintro ⟨p, p0, p1, e⟩
    by_cases hp : a ≤ p ∧ p < b
    · obtain ⟨q, q0, q1, e'⟩ := (h.2 v).1 ⟨p, hp.1, hp.2, e⟩
      exact ⟨q, by omega, by omega, e'⟩
    · exact ⟨p, p0, p1, by rw [← h.1 p (by omega) (by omega)]; exact e⟩
  · rintro ⟨p, p0, p1, e⟩
    by_cases hp : a ≤ p ∧ p < b
    · obtain ⟨q, q0, q1, e'⟩ := (h.2 v).2 ⟨p, hp.1, hp.2, e⟩
      exact ⟨q, by omega, by omega, e'⟩
    · exact ⟨p, p0, p1, by rw [h.1 p (by omega) (by omega)]; exact e⟩
theorem Sam.all {P : Int → Prop} {X Y : List Int} {a b : Int} (h : Sam X Y a b) (hl : Y.length = X.length) (hb : b ≤ X.length) (h0 : 0 ≤ a) (hP : AllI P X) : AllI P Y := by
  intro i hi
  by_cases hp : a ≤ i ∧ (i : Int) < b
  · obtain ⟨q, q0, q1, e⟩ := (h.2 (gt Y i)).1 ⟨i, hp.1, hp.2, rfl⟩
    rw [← e, show q = ((q.toNat : Nat) : Int) by omega]
    exact hP _ (by omega)
  · rw [h.1 i (by omega) (by omega)]
    exact hP i (by omega)
/-- all of [a, m) come before all of [m, b) -/
def Crs (kf : Int → Int) (X : List Int) (a m b : Int) : Prop := ∀ p q : Int, a ≤ p → p < m → m ≤ q → q < b → slt kf (gt X p) (gt X q)
theorem Crs.left {kf : Int → Int} {X Y : List Int} {a m b : Int} (h : Crs kf X a m b) (h0 : 0 ≤ a) (hs : Sam X Y a m) : Crs kf Y a m b := by
  intro p q p0 p1 q0 q1
  obtain ⟨p', a0, a1, e⟩ := (hs.2 (gt Y p)).1 ⟨p, p0, p1, rfl⟩
  rw [← e, hs.1 q (by omega) (by omega)]
  exact h p' q a0 a1 q0 q1
theorem Crs.right {kf : Int → Int} {X Y : List Int} {a m b : Int} (h : Crs kf X a m b) (h0 : 0 ≤ a) (hs : Sam X Y m b) : Crs kf Y a m b := by
  intro p q p0 p1 q0 q1
  obtain ⟨q', a0, a1, e⟩ := (hs.2 (gt Y q)).1 ⟨q, q0, q1, rfl⟩
  rw [← e, hs.1 p (by omega) (by omega)]
  exact h p q' p0 p1 a0 a1
theorem Srt.join {kf : Int → Int} {X : List Int} {a m b : Int} (h1 : Srt kf X a m) (h2 : Srt kf X m b) (h : Crs kf X a m b) : Srt kf X a b := by
  intro p q p0 pq q1
  by_cases hq : q < m
  · exact h1 p q p0 pq hq
  · by_cases hp : p < m
    · exact h p q p0 hp (by omega) q1
    · exact h2 p q (by omega) pq q1
theorem Srt.eq {kf : Int → Int} {X Y : List Int} {a b : Int} (h : Srt kf X a b) (_ : 0 ≤ a) (he : ∀ p : Int, a ≤ p → p < b → gt Y p = gt X p) : Srt kf Y a b := by
  intro p q p0 pq q1
  rw [he p p0 (by omega), he q (by omega) q1]
  exact h p q p0 pq q1
theorem slt_trans {kf : Int → Int} {a b c : Int} (h : slt kf a b) (k : slt kf b c) : slt kf a c := by
  unfold slt at *
  omega
/-- the first of a block has gone to its place in the other -/
theorem merge1 {kf : Int → Int} {X Y : List Int} {a b i : Int} (h0 : 0 ≤ a) (hi : a + 1 ≤ i ∧ i ≤ b) (hs : Srt kf X (a + 1) b) (h1 : ∀ p : Int, a + 1 ≤ p → p < i → slt kf (gt X p) (gt X a)) (h2 : ∀ p : Int, i ≤ p → p < b → slt kf (gt X a) (gt X p)) (hy : ∀ p, 0 ≤ p → gt Y p = inv1 X a (i - 1) p) : Srt kf Y a b ∧ Sam X Y a b := by
  refine ⟨fun p q p0 pq q1 => ?_, fun p p0 p1 => ?_, fun v => ⟨?_, ?_⟩⟩
  · rw [hy p (by omega), hy q (by omega)]
    unfold inv1
    by_cases e1 : p = i - 1
    · rw [if_pos e1, if_neg (by omega), if_neg (by omega)]
      exact h2 q (by omega) q1
    · rw [if_neg e1]
      by_cases e2 : q = i - 1
      · rw [if_pos e2, if_pos (by omega)]
        exact h1 (p + 1) (by omega) (by omega)
      · rw [if_neg e2]
        by_cases e3 : a ≤ p ∧ p < i - 1
        · rw [if_pos e3]
          by_cases e4 : a ≤ q ∧ q < i - 1
          · rw [if_pos e4]
            exact hs (p + 1) (q + 1) (by omega) (by omega) (by omega)
          · rw [if_neg e4]
            exact hs (p + 1) q (by omega) (by omega) q1
        · rw [if_neg e3, if_neg (by omega)]
          exact hs p q (by omega) pq q1
  · rw [hy p p0]
    unfold inv1
    rw [if_neg (by omega), if_neg (by omega)]
  · rintro ⟨p, p0, p1, rfl⟩
    rw [hy p (by omega)]
    unfold inv1
    by_cases e1 : p = i - 1
    · exact ⟨a, by omega, by omega, by rw [if_pos e1]⟩
    · rw [if_neg e1]
      by_cases e3 : a ≤ p ∧ p < i - 1
      · exact ⟨p + 1, by omega, by omega, by rw [if_pos e3]⟩
      · exact ⟨p, by omega, by omega, by rw [if_neg e3]⟩
  · rintro ⟨p, p0, p1, rfl⟩
    by_cases e1 : p = a
    · refine ⟨i - 1, by omega, by omega, ?_⟩
      rw [hy _ (by omega)]
      unfold inv1
      rw [if_pos rfl, e1]
    · by_cases e2 : p < i
      · refine ⟨p - 1, by omega, by omega, ?_⟩
        rw [hy _ (by omega)]
        unfold inv1
        rw [if_neg (by omega), if_pos (by omega)]
        exact congrArg _ (by omega)
      · refine ⟨p, by omega, by omega, ?_⟩
        rw [hy _ (by omega)]
        unfold inv1
        rw [if_neg (by omega), if_neg (by omega)]
/-- the only one of the other block has gone to its place in the first -/
theorem merge2 {kf : Int → Int} {X Y : List Int} {a m i : Int} (h0 : 0 ≤ a) (hi : a ≤ i ∧ i ≤ m) (hs : Srt kf X a m) (h1 : ∀ p : Int, a ≤ p → p < i → slt kf (gt X p) (gt X m)) (h2 : ∀ p : Int, i ≤ p → p < m → slt kf (gt X m) (gt X p)) (hy : ∀ p, 0 ≤ p → gt Y p = inv2 X i m p) : Srt kf Y a (m + 1) ∧ Sam X Y a (m + 1) := by
  refine ⟨fun p q p0 pq q1 => ?_, fun p p0 p1 => ?_, fun v => ⟨?_, ?_⟩⟩
  · rw [hy p (by omega), hy q (by omega)]
    unfold inv2
    by_cases e1 : p = i
    · rw [if_pos e1, if_neg (by omega), if_pos (by omega)]
      exact h2 (q - 1) (by omega) (by omega)
    · rw [if_neg e1]
      by_cases e2 : q = i
      · rw [if_pos e2, if_neg (by omega)]
        exact h1 p (by omega) (by omega)
      · rw [if_neg e2]
        by_cases e3 : i < p ∧ p ≤ m
        · rw [if_pos e3, if_pos (by omega)]
          exact hs (p - 1) (q - 1) (by omega) (by omega) (by omega)
        · rw [if_neg e3]
          by_cases e4 : i < q ∧ q ≤ m
          · rw [if_pos e4]
            exact hs p (q - 1) (by omega) (by omega) (by omega)
          · rw [if_neg e4]
            exact hs p q (by omega) pq (by omega)
  · rw [hy p p0]
    unfold inv2
    rw [if_neg (by omega), if_neg (by omega)]
  · rintro ⟨p, p0, p1, rfl⟩
    rw [hy p (by omega)]
    unfold inv2
    by_cases e1 : p = i
    · exact ⟨m, by omega, by omega, by rw [if_pos e1]⟩
    · rw [if_neg e1]
      by_cases e3 : i < p ∧ p ≤ m
      · exact ⟨p - 1, by omega, by omega, by rw [if_pos e3]⟩
      · exact ⟨p, by omega, by omega, by rw [if_neg e3]⟩
  · rintro ⟨p, p0, p1, rfl⟩
    by_cases e1 : p = m
    · refine ⟨i, by omega, by omega, ?_⟩
      rw [hy _ (by omega)]
      unfold inv2
      rw [if_pos rfl, e1]
    · by_cases e2 : i ≤ p
      · refine ⟨p + 1, by omega, by omega, ?_⟩
        rw [hy _ (by omega)]
        unfold inv2
        rw [if_neg (by omega), if_pos (by omega)]
        exact congrArg _ (by omega)
      · refine ⟨p, by omega, by omega, ?_⟩
        rw [hy _ (by omega)]
        unfold inv2
        rw [if_neg (by omega), if_neg (by omega)]
theorem rtv_sam {X Y : List Int} {s m e : Int} (h0 : 0 ≤ s) (hs : s ≤ m ∧ m ≤ e) (hy : ∀ p, 0 ≤ p → gt Y p = rtv X s m e p) : Sam X Y s e := by
  refine ⟨fun p p0 p1 => ?_, fun v => ⟨?_, ?_⟩⟩
  · rw [hy p p0]
    unfold rtv
    rw [if_neg (by omega), if_neg (by omega)]
  · rintro ⟨p, p0, p1, rfl⟩
    rw [hy p (by omega)]
    unfold rtv
    by_cases e1 : s ≤ p ∧ p < s + (e - m)
    · exact ⟨p + (m - s), by omega, by omega, by rw [if_pos e1]⟩
    · exact ⟨p - (e - m), by omega, by omega, by rw [if_neg e1, if_pos (by omega)]⟩
  · rintro ⟨p, p0, p1, rfl⟩
    by_cases e1 : p < m
    · refine ⟨p + (e - m), by omega, by omega, ?_⟩
      rw [hy _ (by omega)]
      unfold rtv
      rw [if_neg (by omega), if_pos (by omega)]
      exact congrArg _ (by omega)
    · refine ⟨p - (m - s), by omega, by omega, ?_⟩
      rw [hy _ (by omega)]
      unfold rtv
      rw [if_pos (by omega)]
      exact congrArg _ (by omega)
theorem rtv_id {X : List Int} {s m e : Int} (h : s = m ∨ m = e) : ∀ p, gt X p = rtv X s m e p := by
  intro p
  unfold rtv
  by_cases h1 : s ≤ p ∧ p < s + (e - m)
  · rw [if_pos h1]; exact congrArg _ (by omega)
  · rw [if_neg h1]
    by_cases h2 : s + (e - m) ≤ p ∧ p < e
    · rw [if_pos h2]; exact congrArg _ (by omega)
    · rw [if_neg h2]
/-- two sorted lists of the same numbers are one -/
theorem sorted_uniq {kf : Int → Int} : ∀ {X Y : List Int}, X.Pairwise (slt kf) → Y.Pairwise (slt kf) → (∀ v, v ∈ X ↔ v ∈ Y) → X = Y
  | [], [], _, _, _ => rfl
  | [], y :: Y, _, _, h => by have := (h y).2 (List.mem_cons_self ..); cases this
  | x :: X, [], _, _, h => by have := (h x).1 (List.mem_cons_self ..); cases this
  | x :: X, y :: Y, hX, hY, h => by
    obtain ⟨x1, x2⟩ := List.pairwise_cons.1 hX
    obtain ⟨y1, y2⟩ := List.pairwise_cons.1 hY
    have e : x = y := by
      rcases List.mem_cons.1 ((h x).1 (List.mem_cons_self ..)) with e | hx
      · exact e
      · rcases List.mem_cons.1 ((h y).2 (List.mem_cons_self ..)) with e | hy
        · exact e.symm
        · have a := x1 y hy
          have b := y1 x hx
          unfold slt at a b
          omega
    subst e
    have hne : ∀ v, v ∈ X → v ≠ x := fun v hv e => by
      have := x1 v hv
      rw [e] at this
      unfold slt at this
      omega
    have hne' : ∀ v, v ∈ Y → v ≠ x := fun v hv e => by
      have := y1 v hv
      rw [e] at this
      unfold slt at this
      omega
    rw [sorted_uniq x2 y2 fun v => ⟨fun hv => by
      rcases List.mem_cons.1 ((h v).1 (List.mem_cons_of_mem _ hv)) with e | hv'
      · exact absurd e (hne v hv)
      · exact hv', fun hv => by
      rcases List.mem_cons.1 ((h v).2 (List.mem_cons_of_mem _ hv)) with e | hv'
      · exact absurd e (hne' v hv)
      · exact hv'⟩]
theorem srt_pairwise {kf : Int → Int} {X : List Int} (h : Srt kf X 0 X.length) : X.Pairwise (slt kf) := by
  rw [List.pairwise_iff_getElem]
  intro i j hi hj hij
  have := h i j (by omega) (by omega) (by omega)
  rwa [gt_nat hi, gt_nat hj] at this
theorem pairwise_srt {kf : Int → Int} {X : List Int} (h : X.Pairwise (slt kf)) : Srt kf X 0 X.length := by
  intro p q p0 pq q1
  rw [show p = ((p.toNat : Nat) : Int) by omega, show q = ((q.toNat : Nat) : Int) by omega, gt_nat (by omega), gt_nat (by omega)]
  exact List.pairwise_iff_getElem.1 h _ _ _ _ (by omega)
theorem sam_mem {X Y : List Int} (h : Sam X Y 0 X.length) (hl : Y.length = X.length) (v : Int) : v ∈ Y ↔ v ∈ X := by
  have key : ∀ Z : List Int, v ∈ Z ↔ ∃ p : Int, 0 ≤ p ∧ p < Z.length ∧ gt Z p = v := by
    intro Z
    constructor
    · intro hv
      obtain ⟨i, hi, e⟩ := List.getElem_of_mem hv
      exact ⟨i, by omega, by omega, by rw [gt_nat hi]; exact e⟩
    · rintro ⟨p, p0, p1, rfl⟩
      rw [show p = ((p.toNat : Nat) : Int) by omega]
      exact gt_mem (by omega)
  rw [key Y, key X, hl]
  exact h.2 v
end Go.Proofs.Ytmpkiaghkhhlhaa

/- Contracts: the stable sort of numbers by symMerge. No conditions but those that each theorem names. -/
namespace Go.Proofs.Ytmpkiaghkhhlhaa
open Go.RowKit

/-- what is left of a list that has been worked on in place -/
def InPl (σ0 : Hp) (A : Option Addr) (n c : Nat) (N : Nat) (Q : List Int → Prop) : Value → Hp → Prop := fun _ σ' => ∃ Y : List Int, Y.length = N ∧ Q Y ∧ OwnSl 3 [.int .i64] σ0 A n c Y σ'
theorem mid_i {e : Int} {K : Int → Prop} (h : 0 ≤ e ∧ e ≤ 4611686018427387904) (hk : K (e / 2)) : wk .i64 e fun n => wk .u64 n fun n8 => (0 ≤ (1 : Int) ∧ wk .i64 (Int.fdiv n8 (2 ^ (min (1 : Int).toNat (IntKind.bits .u64)))) K) := by
  refine wk_i (by omega) (wk_u (by omega) ⟨by decide, ?_⟩)
  have e2 : (2 : Int) ^ (min (1 : Int).toNat (IntKind.bits .u64)) = 2 := by decide
  rw [e2, Int.fdiv_eq_ediv_of_nonneg _ (by decide)]
  exact wk_i (by omega) hk
section
variable {σ0 : Hp} {A : Option Addr} {n c : Nat}
theorem c_swapRange {σ : Hp} {X : List Int} {f : Value} {a b k : Int} (ho : OwnSl 3 [.int .i64] σ0 A n c X σ) (hl : X.length ≤ 65536) (h0 : 0 ≤ a) (hk : 0 ≤ k) (hab : a + k ≤ b) (hb : b + k ≤ X.length) :
    FCalls Try.prog N_slices_swapRangeCmpFunc_int #[.slice A n c, .int .i64 a, .int .i64 b, .int .i64 k, f] σ (InPl σ0 A n c X.length fun Y => ∀ p, 0 ≤ p → gt Y p = swv X a b k p) := by
  refine M_slices_swapRangeCmpFunc_int_ok _ _ _ _ _ _ _ _ _ ?_
  unfold M_slices_swapRangeCmpFunc_int
  refine ⟨fun m i σ' => ∃ (q : Nat) (Z : List Int), m = k.toNat - q ∧ i = q ∧ q ≤ k ∧ Z.length = X.length ∧ (∀ p, 0 ≤ p → gt Z p = swv X a b q p) ∧ ∃ σ1, OwnSl 3 [.int .i64] σ0 A n c Z σ1 ∧ Hp.Sub σ1 σ', ⟨_, 0, X, rfl, rfl, by omega, rfl, fun p _ => ?_, σ, ho, Hp.Sub.refl _⟩, ?_⟩
  · unfold swv
    rw [if_neg (by omega), if_neg (by omega)]
  rintro m i σ' ⟨q, Z, rfl, rfl, hq, hzl, hz, σ1, ho1, hs1⟩ _
  have hrd : RdS [.int .i64] σ' A n Z := ho1.rd.sub hs1
  refine bc_d (fun hlt => ?_) (fun hlt => ?_)
  · refine wk_i (by omega) (wk_i (by omega) (wk_i (by omega) (gixg hrd (by omega) (by omega) (wk_i (by omega) (gixg hrd (by omega) (by omega) ?_)))))
    refine ho1.ix_stI hs1 (by omega) (by omega) fun σ3 τ3 ho3 hs3 => ?_
    refine ho3.ix_stI hs3 (by omega) (by simp; omega) fun σ4 τ4 ho4 hs4 => ?_
    refine wk_i (by omega) (bk_of _ ?_ ⟨q + 1, _, rfl, rfl, by omega, ?_, swv_step h0 (by omega) (by omega) (by omega) hz, σ4, ho4, hs4⟩)
    · omega
    · simp only [List.length_set]; exact hzl
  · have : (q : Int) = k := by omega
    rw [this] at hz
    exact rt_sub hs1 ⟨Z, hzl, hz, ho1⟩
theorem c_rotate {σ : Hp} {X : List Int} {f : Value} {a m b : Int} (ho : OwnSl 3 [.int .i64] σ0 A n c X σ) (hl : X.length ≤ 65536) (h0 : 0 ≤ a) (ham : a < m) (hmb : m < b) (hb : b ≤ X.length) :
    FCalls Try.prog N_slices_rotateCmpFunc_int #[.slice A n c, .int .i64 a, .int .i64 m, .int .i64 b, f] σ (InPl σ0 A n c X.length fun Y => ∀ p, 0 ≤ p → gt Y p = rtv X a m b p) := by
  refine M_slices_rotateCmpFunc_int_ok _ _ _ _ _ _ _ _ _ ?_
  unfold M_slices_rotateCmpFunc_int
  refine wk_i (by omega) (wk_i (by omega) ?_)
  refine cut_intro fun J5 h5 => ?_
  refine ⟨fun w i j σ' => ∃ Z : List Int, w = (i + j).toNat ∧ (0 < i ∧ 0 < j ∧ a ≤ m - i ∧ m + j ≤ b) ∧ Z.length = X.length ∧ (∀ p, 0 ≤ p → rtv Z (m - i) m (m + j) p = rtv X a m b p) ∧ ∃ σ1, OwnSl 3 [.int .i64] σ0 A n c Z σ1 ∧ Hp.Sub σ1 σ', ⟨_, X, rfl, by omega, rfl, fun p _ => ?_, σ, ho, Hp.Sub.refl _⟩, ?_⟩
  · rw [show m - (m - a) = a by omega, show m + (b - m) = b by omega]
  rintro w i j σ' ⟨Z, rfl, hij, hzl, hz, σ1, ho1, hs1⟩ _
  obtain ⟨hi, hj, hai, hjb⟩ := hij
  have hZl : Z.length ≤ 65536 := by omega
  -- a call on what is known
  have call : ∀ {a' b' k : Int} {K : Value → Hp → Prop}, 0 ≤ a' → 0 ≤ k → a' + k ≤ b' → b' + k ≤ Z.length → (∀ v σ2, InPl σ0 A n c Z.length (fun Y => ∀ p, 0 ≤ p → gt Y p = swv Z a' b' k p) v σ2 → K v σ2) → cl Try.prog (.func (.func N_slices_swapRangeCmpFunc_int) #[] #[]) #[.slice A n c, .int .i64 a', .int .i64 b', .int .i64 k, f] σ' K := by
    intro a' b' k K q1 q2 q3 q4 hk
    refine FFun.func M_slices_swapRangeCmpFunc_int_enter ?_
    rw [app3_nil]
    intro σc hsc
    exact ((c_swapRange (f := f) ho1 hZl q1 q2 q3 q4).mono hk) σc (hs1.trans hsc) |>.mono fun v σ2 ⟨σ3, hK, hf⟩ => ⟨σ3, hK, ⟨hf.1, fun x y hx hy => hf.2 x y (by
      cases e : σ1 x with
      | none => rfl
      | some z => have := hs1 _ _ e; rw [hx] at this; cases this) hy⟩⟩
  refine bc_nd (fun hne => bc_d (fun hlt => ?_) (fun hlt => ?_)) (fun he => ?_)
  · refine wk_i (by omega) (call (by omega) (by omega) (by omega) (by omega) ?_)
    rintro v σ2 ⟨Y, hyl, hy, ho2⟩
    refine wk_i (by omega) (bk_of _ (by omega) ⟨Y, rfl, by omega, by omega, fun p hp => ?_, σ2, ho2, Hp.Sub.refl _⟩)
    rw [rtv_left (by omega) (by omega) (by omega) hy p hp]
    exact hz p hp
  · refine wk_i (by omega) (wk_i (by omega) (wk_i (by omega) (call (by omega) (by omega) (by omega) (by omega) ?_)))
    rintro v σ2 ⟨Y, hyl, hy, ho2⟩
    refine wk_i (by omega) (bk_of _ (by omega) ⟨Y, rfl, by omega, by omega, fun p hp => ?_, σ2, ho2, Hp.Sub.refl _⟩)
    rw [rtv_right (by omega) (by omega) (by omega) hy p hp]
    exact hz p hp
  · rw [h5]
    intro _
    subst he
    refine wk_i (by omega) (call (by omega) (by omega) (by omega) (by omega) ?_)
    rintro v σ2 ⟨Y, hyl, hy, ho2⟩
    exact rt_of ⟨Y, by omega, fun p hp => by rw [rtv_last hy p hp]; exact hz p hp, ho2⟩
/-- what a merge of [a, m) and [m, b) leaves -/
def MrgQ (kf : Int → Int) (P : Int → Prop) (X : List Int) (a b : Int) (Y : List Int) : Prop := AllI P Y ∧ Srt kf Y a b ∧ Sam X Y a b
theorem AllI.at {P : Int → Prop} {X : List Int} (h : AllI P X) {p : Int} (h0 : 0 ≤ p) (h1 : p < X.length) : P (gt X p) := by
  rw [show p = ((p.toNat : Nat) : Int) by omega]
  exact h _ (by omega)
/-- a call on less than what is known -/
theorem cl_less {P : Program} {g : FuncId} {args : Array Value} {σ σ' : Hp} {R K : Value → Hp → Prop} (he : enterB P g = true) (hs : Hp.Sub σ σ') (h : FCalls P g args σ R) (hk : ∀ v σ2, R v σ2 → K v σ2) : cl P (.func (.func g) #[] #[]) args σ' K := by
  refine FFun.func he ?_
  rw [app3_nil]
  intro σc hsc
  exact ((h.mono hk) σc (hs.trans hsc)).mono fun v σ2 ⟨σ3, hK, hf⟩ => ⟨σ3, hK, ⟨hf.1, fun x y hx hy => hf.2 x y (by
    cases e : σ x with
    | none => rfl
    | some z => have := hs _ _ e; rw [hx] at this; cases this) hy⟩⟩
set_option maxRecDepth 4000 in
theorem c_symMerge {f : Value} {cf : Int → Int → Int} {kf : Int → Int} {P : Int → Prop} (hf : CmpI f cf P σ0) (hcf : ∀ a b, P a → P b → (cf a b < 0 ↔ kf a < kf b)) : ∀ (N : Nat) (X : List Int) (a m b : Int) (σ : Hp), b - a ≤ N → OwnSl 3 [.int .i64] σ0 A n c X σ → X.length ≤ 65536 → 0 ≤ a → a < m → m < b → b ≤ X.length →
    Srt kf X a m → Srt kf X m b → (∀ p q, a ≤ p → p < m → m ≤ q → q < b → gt X p < gt X q) → AllI P X →
    FCalls Try.prog N_slices_symMergeCmpFunc_int #[.slice A n c, .int .i64 a, .int .i64 m, .int .i64 b, f] σ (InPl σ0 A n c X.length (MrgQ kf P X a b)) := by
  intro N
  induction N with
  | zero => intros; omega
  | succ N ih =>
    intro X a m b σ hN ho hl h0 ham hmb hb hsL hsR hLR hP
    refine M_slices_symMergeCmpFunc_int_ok _ _ _ _ _ _ _ _ _ ?_
    unfold M_slices_symMergeCmpFunc_int
    have hrd : RdS [.int .i64] σ A n X := ho.rd
    -- one of the right against one of the left
    have hcmp : ∀ p q : Int, a ≤ p → p < m → m ≤ q → q < b → (cf (gt X q) (gt X p) < 0 → slt kf (gt X q) (gt X p)) ∧ (¬ cf (gt X q) (gt X p) < 0 → slt kf (gt X p) (gt X q)) := by
      intro p q p0 p1 q0 q1
      have h1 := hcf (gt X q) (gt X p) (hP.at (by omega) (by omega)) (hP.at (by omega) (by omega))
      have h2 := hLR p q p0 p1 q0 q1
      unfold slt
      omega
    have hPat : ∀ p : Int, a ≤ p → p < b → P (gt X p) := fun p p0 p1 => hP.at (by omega) (by omega)
    refine cut_intro fun J3 h3 => ?_
    have k3 : J3 σ := by
      rw [h3]
      intro _
      refine cut_intro fun J6 h6 => ?_
      have k6 : J6 σ := by
        rw [h6]
        intro _
        refine mid_i (by omega) (wk_i (by omega) ?_)
        have hmid : a < b ∧ 0 ≤ a := by omega
        have hm1 : (a + b) / 2 ≤ b := by omega
        have hm2 : a ≤ (a + b) / 2 := by omega
        have hm3 : (a + b) / 2 * 2 ≤ a + b ∧ a + b < (a + b) / 2 * 2 + 2 := by omega
        generalize (a + b) / 2 = d at *
        refine cut_intro fun J13 h13 => ?_
        have k13 : ∀ s0 r0 : Int, ((d < m ∧ s0 = d + m - b ∧ r0 = d) ∨ (m ≤ d ∧ s0 = a ∧ r0 = m)) → J13 s0 r0 σ := by
          intro s0 r0 hsr
          rw [h13]
          intro _
          refine wk_i (by omega) (cut_intro fun J19 h19 => ?_)
          have k19 : ∀ s : Int, s0 ≤ s → s ≤ r0 → (∀ x : Int, s0 ≤ x → x < s → slt kf (gt X x) (gt X (d + m - 1 - x))) → (∀ x : Int, s ≤ x → x < r0 → slt kf (gt X (d + m - 1 - x)) (gt X x)) → J19 s σ := by
            intro s hs0 hs1 hlo hhi
            rw [h19]
            intro _
            have hsm : a ≤ s ∧ s ≤ m ∧ s ≤ d ∧ d + m - b ≤ s := by omega
            refine wk_i (by omega) ?_
            refine cut_intro fun J24 h24 => ?_
            -- the two halves have changed places
            have k24 : ∀ (R : List Int) (τ : Hp), R.length = X.length → (∀ p, 0 ≤ p → gt R p = rtv X s m (d + m - s) p) → OwnSl 3 [.int .i64] σ0 A n c R τ → J24 τ := by
              intro R τ hRl hR hoR
              rw [h24]
              intro _
              have hsam := rtv_sam (X := X) (Y := R) (s := s) (m := m) (e := d + m - s) (by omega) (by omega) hR
              have hsamW := hsam.wide (a' := a) (b' := b) h0 (by omega) (by omega)
              have r1 : ∀ p : Int, a ≤ p → p < s → gt R p = gt X p := fun p p0 p1 => by
                rw [hR p (by omega)]; unfold rtv; rw [if_neg (by omega), if_neg (by omega)]
              have r2 : ∀ p : Int, s ≤ p → p < d → gt R p = gt X (p + (m - s)) := fun p p0 p1 => by
                rw [hR p (by omega)]; unfold rtv; rw [if_pos (by omega)]
              have r3 : ∀ p : Int, d ≤ p → p < d + m - s → gt R p = gt X (p - (d - s)) := fun p p0 p1 => by
                rw [hR p (by omega)]; unfold rtv; rw [if_neg (by omega), if_pos (by omega)]; exact congrArg _ (by omega)
              have r4 : ∀ p : Int, d + m - s ≤ p → p < b → gt R p = gt X p := fun p p0 p1 => by
                rw [hR p (by omega)]; unfold rtv; rw [if_neg (by omega), if_neg (by omega)]
              have hcrs : Crs kf R a d b := by
                intro p q p0 p1 q0 q1
                by_cases e1 : p < s
                · rw [r1 p p0 e1]
                  by_cases e2 : q < d + m - s
                  · rw [r3 q q0 e2]
                    exact hsL p _ p0 (by omega) (by omega)
                  · rw [r4 q (by omega) q1]
                    have hx := hlo (s - 1) (by omega) (by omega)
                    rw [show d + m - 1 - (s - 1) = d + m - s by omega] at hx
                    have hx1 : p = s - 1 ∨ slt kf (gt X p) (gt X (s - 1)) := by
                      by_cases e3 : p = s - 1
                      · exact .inl e3
                      · exact .inr (hsL p (s - 1) p0 (by omega) (by omega))
                    have hx2 : q = d + m - s ∨ slt kf (gt X (d + m - s)) (gt X q) := by
                      by_cases e3 : q = d + m - s
                      · exact .inl e3
                      · exact .inr (hsR (d + m - s) q (by omega) (by omega) q1)
                    have hx3 : slt kf (gt X p) (gt X (d + m - s)) := by
                      rcases hx1 with rfl | h
                      · exact hx
                      · exact slt_trans h hx
                    rcases hx2 with rfl | h
                    · exact hx3
                    · exact slt_trans hx3 h
                · rw [r2 p (by omega) p1]
                  by_cases e2 : q < d + m - s
                  · rw [r3 q q0 e2]
                    have hx := hhi s (by omega) (by omega)
                    have hx1 : p + (m - s) = d + m - 1 - s ∨ slt kf (gt X (p + (m - s))) (gt X (d + m - 1 - s)) := by
                      by_cases e3 : p + (m - s) = d + m - 1 - s
                      · exact .inl e3
                      · exact .inr (hsR _ _ (by omega) (by omega) (by omega))
                    have hx2 : q - (d - s) = s ∨ slt kf (gt X s) (gt X (q - (d - s))) := by
                      by_cases e3 : q - (d - s) = s
                      · exact .inl e3
                      · exact .inr (hsL _ _ (by omega) (by omega) (by omega))
                    have hx3 : slt kf (gt X (p + (m - s))) (gt X s) := by
                      rcases hx1 with h | h
                      · rw [h]; exact hx
                      · exact slt_trans h hx
                    rcases hx2 with h | h
                    · rw [h]; exact hx3
                    · exact slt_trans hx3 h
                  · rw [r4 q (by omega) q1]
                    exact hsR _ q (by omega) (by omega) q1
              have s1 : Srt kf R a s := (fun p q p0 pq q1 => by rw [r1 p p0 (by omega), r1 q (by omega) q1]; exact hsL p q p0 pq (by omega))
              have s2 : Srt kf R s d := by
                intro p q p0 pq q1
                rw [r2 p p0 (by omega), r2 q (by omega) q1]
                exact hsR _ _ (by omega) (by omega) (by omega)
              have s3 : Srt kf R d (d + m - s) := by
                intro p q p0 pq q1
                rw [r3 p p0 (by omega), r3 q (by omega) q1]
                exact hsL _ _ (by omega) (by omega) (by omega)
              have s4 : Srt kf R (d + m - s) b := by
                intro p q p0 pq q1
                rw [r4 p p0 (by omega), r4 q (by omega) q1]
                exact hsR _ _ (by omega) pq q1
              have o1 : ∀ p q, a ≤ p → p < s → s ≤ q → q < d → gt R p < gt R q := by
                intro p q p0 p1 q0 q1
                rw [r1 p p0 p1, r2 q q0 q1]
                exact hLR _ _ p0 (by omega) (by omega) (by omega)
              have o2 : ∀ p q, d ≤ p → p < d + m - s → d + m - s ≤ q → q < b → gt R p < gt R q := by
                intro p q p0 p1 q0 q1
                rw [r3 p p0 p1, r4 q q0 q1]
                exact hLR _ _ (by omega) (by omega) (by omega) q1
              have hPR : AllI P R := hsamW.all hRl hb h0 hP
              refine cut_intro fun J27 h27 => cut_intro fun J36 h36 => ?_
              have k27 : ∀ (Y : List Int) (τ' : Hp), Y.length = X.length → AllI P Y → Srt kf Y a d → Sam R Y a d → OwnSl 3 [.int .i64] σ0 A n c Y τ' → J27 τ' := by
                intro Y τ' hYl hPY hsY hsamY hoY
                rw [h27]
                intro _
                have hcY : Crs kf Y a d b := hcrs.left h0 hsamY
                have y3 : Srt kf Y d (d + m - s) := s3.eq (by omega) fun p p0 p1 => hsamY.1 p (by omega) (by omega)
                have y4 : Srt kf Y (d + m - s) b := s4.eq (by omega) fun p p0 p1 => hsamY.1 p (by omega) (by omega)
                have hall := hsamW.trans (hsamY.wide (a' := a) (b' := b) h0 (by omega) (by omega))
                refine cut_intro fun J30 h30 => ?_
                have fin : ∀ t : Bool, (t = true ↔ d < d + m - s ∧ d + m - s < b) → J30 t τ' := by
                  intro t ht
                  rw [h30]
                  intro _
                  refine bc_b (fun htt => ?_) (fun htf => ?_)
                  · obtain ⟨t1, t2⟩ := ht.1 htt
                    have hc := ih Y d (d + m - s) b τ' (by omega) hoY (by omega) (by omega) t1 t2 (by omega) y3 y4 (fun p q p0 p1 q0 q1 => by
                      rw [hsamY.1 p (by omega) (by omega), hsamY.1 q (by omega) (by omega)]; exact o2 p q p0 p1 q0 q1) hPY
                    refine cl_of M_slices_symMergeCmpFunc_int_enter hc ?_
                    rintro v σ5 ⟨Z, hZl, ⟨z1, z2, z3⟩, hoZ⟩
                    refine rt_of ⟨Z, by omega, ⟨z1, ?_, ?_⟩, hoZ⟩
                    · exact (hsY.eq (by omega) fun p p0 p1 => z3.1 p (by omega) (by omega)).join z2 (hcY.right h0 z3)
                    · exact hall.trans (z3.wide (a' := a) (b' := b) h0 (by omega) (by omega))
                  · have hn : ¬ (d < d + m - s ∧ d + m - s < b) := fun h => by rw [ht.2 h] at htf; cases htf
                    refine rt_of ⟨Y, hYl, ⟨hPY, ?_, hall⟩, hoY⟩
                    refine hsY.join ?_ hcY
                    by_cases e1 : d < d + m - s
                    · have : d + m - s = b := by omega
                      rw [← this]; exact y3
                    · have : d + m - s = d := by omega
                      rw [← this]; exact y4
                exact bc_d (fun h1 => fin _ ⟨fun h => ⟨h1, of_decide_eq_true h⟩, fun h => decide_eq_true h.2⟩) (fun h1 => fin _ ⟨fun h => (by cases h), fun h => absurd h.1 h1⟩)
              have k36 : ∀ t : Bool, (t = true ↔ a < s ∧ s < d) → J36 t τ := by
                intro t ht
                rw [h36]
                intro _
                refine bc_b (fun htt => ?_) (fun htf => ?_)
                · obtain ⟨t1, t2⟩ := ht.1 htt
                  have hc := ih R a s d τ (by omega) hoR (by omega) h0 t1 t2 (by omega) s1 s2 o1 hPR
                  refine cl_of M_slices_symMergeCmpFunc_int_enter hc ?_
                  rintro v σ5 ⟨Z, hZl, ⟨z1, z2, z3⟩, hoZ⟩
                  exact k27 Z σ5 (by omega) z1 z2 z3 hoZ
                · have hn : ¬ (a < s ∧ s < d) := fun h => by rw [ht.2 h] at htf; cases htf
                  refine k27 R τ hRl hPR ?_ (Sam.refl _ _ _) hoR
                  by_cases e1 : a < s
                  · have : s = d := by omega
                    rw [← this]; exact s1
                  · have : s = a := by omega
                    rw [this] at s2; exact s2
              exact bc_d (fun h1 => k36 _ ⟨fun h => ⟨h1, of_decide_eq_true h⟩, fun h => decide_eq_true h.2⟩) (fun h1 => k36 _ ⟨fun h => (by cases h), fun h => absurd h.1 h1⟩)
            refine cut_intro fun J42 h42 => ?_
            have k42 : ∀ t : Bool, (t = true ↔ s < m ∧ m < d + m - s) → J42 t σ := by
              intro t ht
              rw [h42]
              intro _
              refine bc_b (fun htt => ?_) (fun htf => ?_)
              · obtain ⟨t1, t2⟩ := ht.1 htt
                refine cl_of M_slices_rotateCmpFunc_int_enter (c_rotate (f := f) (a := s) (m := m) (b := d + m - s) ho hl (by omega) t1 t2 (by omega)) ?_
                rintro v σ5 ⟨Z, hZl, hz, hoZ⟩
                exact k24 Z σ5 hZl hz hoZ
              · have hn : ¬ (s < m ∧ m < d + m - s) := fun h => by rw [ht.2 h] at htf; cases htf
                exact k24 X σ rfl (fun p _ => rtv_id (by omega) p) ho
            exact bc_d (fun h1 => k42 _ ⟨fun h => ⟨h1, of_decide_eq_true h⟩, fun h => decide_eq_true h.2⟩) (fun h1 => k42 _ ⟨fun h => (by cases h), fun h => absurd h.1 h1⟩)
          refine ⟨fun w i j σ' => w = (j - i).toNat ∧ (s0 ≤ i ∧ i ≤ j ∧ j ≤ r0) ∧ σ' = σ ∧ (∀ x : Int, s0 ≤ x → x < i → slt kf (gt X x) (gt X (d + m - 1 - x))) ∧ ∀ x : Int, j ≤ x → x < r0 → slt kf (gt X (d + m - 1 - x)) (gt X x), ⟨_, rfl, by omega, rfl, fun x h1 h2 => by omega, fun x h1 h2 => by omega⟩, ?_⟩
          rintro w i j σ' ⟨rfl, hij, rfl, hlo, hhi⟩ _
          refine bc_d (fun hlt => ?_) (fun hlt => ?_)
          · refine mid_i (by omega) ?_
            have hh : i ≤ (i + j) / 2 ∧ (i + j) / 2 < j := by omega
            generalize (i + j) / 2 = h at *
            refine wk_i (by omega) (gixg hrd (by omega) (by omega) (gixg hrd (by omega) (by omega) (hf _ ho.sub _ _ (hPat _ (by omega) (by omega)) (hPat _ (by omega) (by omega)) _ ?_)))
            obtain ⟨c1, c2⟩ := hcmp h (d + m - 1 - h) (by omega) (by omega) (by omega) (by omega)
            refine bc_nd (fun hn => wk_i (by omega) (bk_of _ ?_ ⟨rfl, by omega, rfl, fun x x0 x1 => ?_, hhi⟩)) (fun hn => bk_of _ ?_ ⟨rfl, by omega, rfl, hlo, fun x x0 x1 => ?_⟩)
            · omega
            · by_cases e : x = h
              · rw [e]; exact c2 hn
              · have a1 : slt kf (gt X x) (gt X h) := hsL x h (by omega) (by omega) (by omega)
                have a2 : slt kf (gt X (d + m - 1 - h)) (gt X (d + m - 1 - x)) := hsR _ _ (by omega) (by omega) (by omega)
                exact slt_trans a1 (slt_trans (c2 hn) a2)
            · omega
            · by_cases e : x = h
              · rw [e]; exact c1 hn
              · have a1 : slt kf (gt X h) (gt X x) := hsL h x (by omega) (by omega) (by omega)
                have a2 : slt kf (gt X (d + m - 1 - x)) (gt X (d + m - 1 - h)) := hsR _ _ (by omega) (by omega) (by omega)
                exact slt_trans a2 (slt_trans (c1 hn) a1)
          · have : i = j := by omega
            subst this
            exact k19 i (by omega) (by omega) hlo hhi
        exact bc_d (fun h1 => wk_i (by omega) (k13 _ _ (.inl ⟨h1, rfl, rfl⟩))) (fun h1 => k13 _ _ (.inr ⟨by omega, rfl, rfl⟩))
      refine wk_i (by omega) (bc_d (fun he => ?_) (fun _ => k6))
      have hb1 : b = m + 1 := by omega
      subst hb1
      refine cut_intro fun J74 h74 => ?_
      have k74 : ∀ i : Int, a ≤ i → i ≤ m → (∀ p : Int, a ≤ p → p < i → slt kf (gt X p) (gt X m)) → (∀ p : Int, i ≤ p → p < m → slt kf (gt X m) (gt X p)) → J74 i σ := by
        intro i i0 i1 hlo hhi
        rw [h74]
        intro _
        refine ⟨fun w k σ' => ∃ Z : List Int, w = (k - i).toNat ∧ (i ≤ k ∧ k ≤ m) ∧ Z.length = X.length ∧ (∀ p, 0 ≤ p → gt Z p = inv2 X k m p) ∧ OwnSl 3 [.int .i64] σ0 A n c Z σ', ⟨_, X, rfl, by omega, rfl, fun p _ => ?_, ho⟩, ?_⟩
        · unfold inv2
          by_cases e : p = m
          · rw [if_pos e, e]
          · rw [if_neg e, if_neg (by omega)]
        rintro w k σ' ⟨Z, rfl, hk, hzl, hz, hoZ⟩ _
        have hrZ : RdS [.int .i64] σ' A n Z := hoZ.rd
        refine bc_d (fun hlt => ?_) (fun hlt => ?_)
        · refine wk_i (by omega) (wk_i (by omega) (gixg hrZ (by omega) (by omega) (gixg hrZ (by omega) (by omega) ?_)))
          refine hoZ.ix_stI (Hp.Sub.refl _) (by omega) (by omega) fun σ3 τ3 ho3 hs3 => ?_
          refine ho3.ix_stI hs3 (by omega) (by simp; omega) fun σ4 τ4 ho4 hs4 => ?_
          refine wk_i (by omega) (bk_sub _ ?_ hs4 ⟨_, rfl, by omega, ?_, inv2_step (by omega) (by omega) (by omega) hz, ho4⟩)
          · omega
          · simp only [List.length_set]; exact hzl
        · have : k = i := by omega
          subst this
          obtain ⟨m1, m2⟩ := merge2 h0 ⟨i0, i1⟩ hsL hlo hhi hz
          exact rt_of ⟨Z, hzl, ⟨m2.all hzl hb h0 hP, m1, m2⟩, hoZ⟩
      refine ⟨fun w i j σ' => w = (j - i).toNat ∧ (a ≤ i ∧ i ≤ j ∧ j ≤ m) ∧ σ' = σ ∧ (∀ p : Int, a ≤ p → p < i → slt kf (gt X p) (gt X m)) ∧ ∀ p : Int, j ≤ p → p < m → slt kf (gt X m) (gt X p), ⟨_, rfl, by omega, rfl, fun x h1 h2 => by omega, fun x h1 h2 => by omega⟩, ?_⟩
      rintro w i j σ' ⟨rfl, hij, rfl, hlo, hhi⟩ _
      refine bc_d (fun hlt => ?_) (fun hlt => ?_)
      · refine mid_i (by omega) ?_
        have hh : i ≤ (i + j) / 2 ∧ (i + j) / 2 < j := by omega
        generalize (i + j) / 2 = h at *
        refine gixg hrd (by omega) (by omega) (gixg hrd (by omega) (by omega) (hf _ ho.sub _ _ (hPat _ (by omega) (by omega)) (hPat _ (by omega) (by omega)) _ ?_))
        obtain ⟨c1, c2⟩ := hcmp h m (by omega) (by omega) (by omega) (by omega)
        refine bc_nd (fun hn => wk_i (by omega) (bk_of _ ?_ ⟨rfl, by omega, rfl, fun x x0 x1 => ?_, hhi⟩)) (fun hn => bk_of _ ?_ ⟨rfl, by omega, rfl, hlo, fun x x0 x1 => ?_⟩)
        · omega
        · by_cases e : x = h
          · rw [e]; exact c2 hn
          · exact slt_trans (hsL x h (by omega) (by omega) (by omega)) (c2 hn)
        · omega
        · by_cases e : x = h
          · rw [e]; exact c1 hn
          · exact slt_trans (c1 hn) (hsL h x (by omega) (by omega) (by omega))
      · have : i = j := by omega
        subst this
        exact k74 i (by omega) (by omega) hlo hhi
    refine wk_i (by omega) (bc_d (fun he => ?_) (fun _ => k3))
    have hm1 : m = a + 1 := by omega
    subst hm1
    refine cut_intro fun J124 h124 => ?_
    have k124 : ∀ i : Int, a + 1 ≤ i → i ≤ b → (∀ p : Int, a + 1 ≤ p → p < i → slt kf (gt X p) (gt X a)) → (∀ p : Int, i ≤ p → p < b → slt kf (gt X a) (gt X p)) → J124 i σ := by
      intro i i0 i1 hlo hhi
      rw [h124]
      intro _
      refine ⟨fun w k σ' => ∃ Z : List Int, w = (i - k).toNat ∧ (a ≤ k ∧ k ≤ i - 1) ∧ Z.length = X.length ∧ (∀ p, 0 ≤ p → gt Z p = inv1 X a k p) ∧ OwnSl 3 [.int .i64] σ0 A n c Z σ', ⟨_, X, rfl, by omega, rfl, fun p _ => ?_, ho⟩, ?_⟩
      · unfold inv1
        by_cases e : p = a
        · rw [if_pos e, e]
        · rw [if_neg e, if_neg (by omega)]
      rintro w k σ' ⟨Z, rfl, hk, hzl, hz, hoZ⟩ _
      have hrZ : RdS [.int .i64] σ' A n Z := hoZ.rd
      refine wk_i (by omega) (bc_d (fun hlt => ?_) (fun hlt => ?_))
      · refine wk_i (by omega) (wk_i (by omega) (gixg hrZ (by omega) (by omega) (gixg hrZ (by omega) (by omega) ?_)))
        refine hoZ.ix_stI (Hp.Sub.refl _) (by omega) (by omega) fun σ3 τ3 ho3 hs3 => ?_
        refine ho3.ix_stI hs3 (by omega) (by simp; omega) fun σ4 τ4 ho4 hs4 => ?_
        refine wk_i (by omega) (bk_sub _ ?_ hs4 ⟨_, rfl, by omega, ?_, inv1_step (by omega) (by omega) (by omega) hz, ho4⟩)
        · omega
        · simp only [List.length_set]; exact hzl
      · have : k = i - 1 := by omega
        subst this
        obtain ⟨m1, m2⟩ := merge1 h0 ⟨i0, i1⟩ hsR hlo hhi hz
        exact rt_of ⟨Z, hzl, ⟨m2.all hzl hb h0 hP, m1, m2⟩, hoZ⟩
    refine ⟨fun w i j σ' => w = (j - i).toNat ∧ (a + 1 ≤ i ∧ i ≤ j ∧ j ≤ b) ∧ σ' = σ ∧ (∀ p : Int, a + 1 ≤ p → p < i → slt kf (gt X p) (gt X a)) ∧ ∀ p : Int, j ≤ p → p < b → slt kf (gt X a) (gt X p), ⟨_, rfl, by omega, rfl, fun x h1 h2 => by omega, fun x h1 h2 => by omega⟩, ?_⟩
    rintro w i j σ' ⟨rfl, hij, rfl, hlo, hhi⟩ _
    refine bc_d (fun hlt => ?_) (fun hlt => ?_)
    · refine mid_i (by omega) ?_
      have hh : i ≤ (i + j) / 2 ∧ (i + j) / 2 < j := by omega
      generalize (i + j) / 2 = h at *
      refine gixg hrd (by omega) (by omega) (gixg hrd (by omega) (by omega) (hf _ ho.sub _ _ (hPat _ (by omega) (by omega)) (hPat _ (by omega) (by omega)) _ ?_))
      obtain ⟨c1, c2⟩ := hcmp a h (by omega) (by omega) (by omega) (by omega)
      refine bc_d (fun hn => wk_i (by omega) (bk_of _ ?_ ⟨rfl, by omega, rfl, fun x x0 x1 => ?_, hhi⟩)) (fun hn => bk_of _ ?_ ⟨rfl, by omega, rfl, hlo, fun x x0 x1 => ?_⟩)
      · omega
      · by_cases e : x = h
        · rw [e]; exact c1 hn
        · exact slt_trans (hsR x h (by omega) (by omega) (by omega)) (c1 hn)
      · omega
      · by_cases e : x = h
        · rw [e]; exact c2 hn
        · exact slt_trans (c2 hn) (hsR h x (by omega) (by omega) (by omega))
    · have : i = j := by omega
      subst this
      exact k124 i (by omega) (by omega) hlo hhi
end
end Go.Proofs.Ytmpkiaghkhhlhaa

/- Contracts: the stable sort of fewer than 40 numbers. No conditions but those that each theorem names. -/
namespace Go.Proofs.Ytmpkiaghkhhlhaa
open Go.RowKit

/-- numbers that go up -/
def Asc (X : List Int) (a b : Int) : Prop := ∀ p q : Int, a ≤ p → p < q → q < b → gt X p < gt X q
section
variable {σ0 : Hp} {A : Option Addr} {n c : Nat}
theorem c_insertion2 {f : Value} {cf : Int → Int → Int} {kf : Int → Int} {P : Int → Prop} (hf : CmpI f cf P σ0) (hcf : ∀ a b, P a → P b → (cf a b < 0 ↔ kf a < kf b)) {X : List Int} {a b : Int} {σ : Hp} (ho : OwnSl 3 [.int .i64] σ0 A n c X σ) (hl : X.length ≤ 65536) (h0 : 0 ≤ a) (hab : a ≤ b) (hb : b ≤ X.length) (hasc : Asc X a b) (hP : AllI P X) :
    FCalls Try.prog N_slices_insertionSortCmpFunc_int #[.slice A n c, .int .i64 a, .int .i64 b, f] σ (InPl σ0 A n c X.length (MrgQ kf P X a b)) := by
  refine M_slices_insertionSortCmpFunc_int_ok _ _ _ _ _ _ _ _ ?_
  unfold M_slices_insertionSortCmpFunc_int
  refine wk_i (by omega) ?_
  refine ⟨fun w k σ' => ∃ Z : List Int, w = (b + 1 - k).toNat ∧ (a + 1 ≤ k ∧ (k ≤ b ∨ k = a + 1)) ∧ Z.length = X.length ∧ AllI P Z ∧ Srt kf Z a k ∧ Sam X Z a k ∧ OwnSl 3 [.int .i64] σ0 A n c Z σ', ⟨_, X, rfl, by omega, rfl, hP, fun p q p0 pq q1 => by omega, Sam.refl _ _ _, ho⟩, ?_⟩
  rintro w k σ' ⟨Z, rfl, hk, hzl, hPZ, hsZ, hsam, hoZ⟩ _
  refine bc_d (fun hlt => ?_) (fun hlt => ?_)
  · refine cut_intro fun J10 h10 => ?_
    have k10 : ∀ (Y : List Int) (τ : Hp), Y.length = X.length → AllI P Y → Srt kf Y a (k + 1) → Sam X Y a (k + 1) → OwnSl 3 [.int .i64] σ0 A n c Y τ → J10 τ := by
      intro Y τ y1 y2 y3 y4 y5
      rw [h10]
      intro _
      exact wk_i (by omega) (bk_of _ (by omega) ⟨Y, rfl, by omega, y1, y2, y3, y4, y5⟩)
    have hyk : gt Z k = gt X k := hsam.1 k (by omega) (by omega)
    -- the new one against those before it
    have hcmp : ∀ p : Int, a ≤ p → p < k → (cf (gt Z k) (gt Z p) < 0 → slt kf (gt Z k) (gt Z p)) ∧ (¬ cf (gt Z k) (gt Z p) < 0 → slt kf (gt Z p) (gt Z k)) := by
      intro p p0 p1
      have h1 := hcf (gt Z k) (gt Z p) (hPZ.at (by omega) (by omega)) (hPZ.at (by omega) (by omega))
      obtain ⟨q, q0, q1, e⟩ := (hsam.2 (gt Z p)).1 ⟨p, p0, p1, rfl⟩
      have h2 := hasc q k q0 q1 (by omega)
      rw [e, ← hyk] at h2
      unfold slt
      omega
    refine ⟨fun w j τ => ∃ Y : List Int, w = (j - a).toNat ∧ (a ≤ j ∧ j ≤ k) ∧ Y.length = X.length ∧ (∀ p, 0 ≤ p → gt Y p = inv2 Z j k p) ∧ (∀ p : Int, j ≤ p → p < k → slt kf (gt Z k) (gt Z p)) ∧ OwnSl 3 [.int .i64] σ0 A n c Y τ, ⟨_, Z, rfl, by omega, hzl, fun p _ => ?_, fun p p0 p1 => by omega, hoZ⟩, ?_⟩
    · unfold inv2
      by_cases e : p = k
      · rw [if_pos e, e]
      · rw [if_neg e, if_neg (by omega)]
    rintro w j τ ⟨Y, rfl, hj, hyl, hy, hhi, hoY⟩ _
    have hrY : RdS [.int .i64] τ A n Y := hoY.rd
    have hYj : gt Y j = gt Z k := by
      rw [hy j (by omega)]; unfold inv2; rw [if_pos rfl]
    refine cut_intro fun J21 h21 => cut_intro fun J41 h41 => ?_
    -- it has come to its place
    have fin : (∀ p : Int, a ≤ p → p < j → slt kf (gt Z p) (gt Z k)) → J10 τ := by
      intro hlo
      obtain ⟨m1, m2⟩ := merge2 h0 ⟨hj.1, hj.2⟩ hsZ hlo hhi hy
      exact k10 Y τ hyl (m2.all (by omega) (by omega) h0 hPZ) m1 ((hsam.wide h0 (Int.le_refl _) (by omega)).trans m2) hoY
    refine bc_d (fun haj => ?_) (fun haj => ?_)
    · have hYp : gt Y (j - 1) = gt Z (j - 1) := by
        rw [hy _ (by omega)]; unfold inv2; rw [if_neg (by omega), if_neg (by omega)]
      refine gixg hrY (by omega) (by omega) (wk_i (by omega) (gixg hrY (by omega) (by omega) ?_))
      rw [hYj, hYp]
      refine hf _ hoY.sub _ _ (hPZ.at (by omega) (by omega)) (hPZ.at (by omega) (by omega)) _ ?_
      obtain ⟨c1, c2⟩ := hcmp (j - 1) (by omega) (by omega)
      rw [h41]
      intro _
      refine bc_d (fun hc => ?_) (fun hc => fin fun p p0 p1 => ?_)
      · rw [h21]
        intro _
        refine wk_i (by omega) (wk_i (by omega) (gixg hrY (by omega) (by omega) (gixg hrY (by omega) (by omega) ?_)))
        refine hoY.ix_stI (Hp.Sub.refl _) (by omega) (by omega) fun σ3 τ3 ho3 hs3 => ?_
        refine ho3.ix_stI hs3 (by omega) (by simp; omega) fun σ4 τ4 ho4 hs4 => ?_
        refine wk_i (by omega) (bk_sub _ ?_ hs4 ⟨_, rfl, by omega, ?_, inv2_step (by omega) (by omega) (by omega) hy, fun p p0 p1 => ?_, ho4⟩)
        · omega
        · simp only [List.length_set]; exact hyl
        · by_cases e : p = j - 1
          · rw [e]; exact c1 hc
          · exact hhi p (by omega) p1
      · by_cases e : p = j - 1
        · rw [e]; exact c2 hc
        · exact slt_trans (hsZ p (j - 1) p0 (by omega) (by omega)) (c2 hc)
    · rw [h41]
      exact fun _ => bc_f (fin fun p p0 p1 => by omega)
  · by_cases hkb : k ≤ b
    · have : k = b := by omega
      subst this
      exact rt_of ⟨Z, hzl, ⟨hPZ, hsZ, hsam⟩, hoZ⟩
    · have : b = a := by omega
      subst this
      have hkk : k = b + 1 := by omega
      subst hkk
      refine rt_of ⟨Z, hzl, ⟨hPZ, fun p q p0 pq q1 => by omega, ?_⟩, hoZ⟩
      have hz : ∀ p : Int, 0 ≤ p → gt Z p = gt X p := by
        intro p p0
        by_cases e : p = b
        · obtain ⟨q, q0, q1, e'⟩ := (hsam.2 (gt Z p)).1 ⟨p, by omega, by omega, rfl⟩
          rw [← e', e, show q = b by omega]
        · exact hsam.1 p p0 (by omega)
      exact ⟨fun p p0 _ => hz p p0, fun v => ⟨fun ⟨p, p0, p1, _⟩ => by omega, fun ⟨p, p0, p1, _⟩ => by omega⟩⟩
theorem c_SortStable2 {f : Value} {cf : Int → Int → Int} {kf : Int → Int} {P : Int → Prop} (hf : CmpI f cf P σ0) (hcf : ∀ a b, P a → P b → (cf a b < 0 ↔ kf a < kf b)) {X : List Int} {σ : Hp} (ho : OwnSl 3 [.int .i64] σ0 A n c X σ) (hl : X.length < 40) (hasc : Asc X 0 X.length) (hP : AllI P X) :
    FCalls Try.prog N_slices_SortStableFunc_int #[.slice A n c, f] σ (InPl σ0 A n c X.length (MrgQ kf P X 0 X.length)) := by
  refine M_slices_SortStableFunc_int_ok _ _ _ _ _ _ ?_
  unfold M_slices_SortStableFunc_int
  have hn : n = X.length := ho.len
  subst hn
  refine cl_of M_slices_stableCmpFunc_int_enter (R := InPl σ0 A X.length c X.length (MrgQ kf P X 0 X.length)) ?_ fun v σ' h => rt_of h
  refine M_slices_stableCmpFunc_int_ok _ _ _ _ _ _ _ ?_
  unfold M_slices_stableCmpFunc_int
  refine cut_intro fun J3 h3 => ?_
  -- the last block, and the merge
  have k3 : ∀ (a : Int) (Y : List Int) (τ : Hp), ((a = 0 ∧ X.length < 20 ∧ Y = X) ∨ (a = 20 ∧ 20 ≤ X.length ∧ MrgQ kf P X 0 20 Y)) → Y.length = X.length → OwnSl 3 [.int .i64] σ0 A X.length c Y τ → J3 a τ := by
    intro a Y τ ha hyl hoY
    have hPY : AllI P Y := by
      rcases ha with ⟨_, _, rfl⟩ | ⟨_, _, h, _⟩
      · exact hP
      · exact h
    have hascY : Asc Y a X.length := by
      rcases ha with ⟨rfl, _, rfl⟩ | ⟨rfl, _, _, _, hs⟩
      · exact hasc
      · intro p q p0 pq q1
        rw [hs.1 p (by omega) (by omega), hs.1 q (by omega) (by omega)]
        exact hasc p q (by omega) pq q1
    have ha2 : 0 ≤ a ∧ a ≤ X.length := by
      rcases ha with ⟨rfl, h, _⟩ | ⟨rfl, h, _⟩ <;> omega
    rw [h3]
    intro _
    have hc := c_insertion2 (a := a) (b := X.length) hf hcf hoY (by omega) ha2.1 ha2.2 (by omega) hascY hPY
    refine cl_of M_slices_insertionSortCmpFunc_int_enter hc ?_
    rintro v σ6 ⟨Z, hzl, ⟨z1, z2, z3⟩, hoZ⟩
    refine ⟨fun w bs σ' => (w = (80 - bs).toNat ∧ bs = 20 ∧ σ' = σ6) ∨ (w = (80 - bs).toNat ∧ bs = 40 ∧ InPl σ0 A X.length c X.length (MrgQ kf P X 0 X.length) (.tuple #[]) σ'), ⟨_, .inl ⟨rfl, rfl, rfl⟩⟩, ?_⟩
    rintro w bs σ' hst _
    rcases hst with ⟨rfl, rfl, rfl⟩ | ⟨rfl, rfl, hdone⟩
    · refine bc_d (fun hlt => ?_) (fun hlt => ?_)
      · obtain ⟨rfl, h20, hm⟩ : a = 20 ∧ 20 ≤ X.length ∧ MrgQ kf P X 0 20 Y := by
          rcases ha with ⟨_, h, _⟩ | h
          · omega
          · exact h
        obtain ⟨m1, m2, m3⟩ := hm
        refine wk_i (by omega) (cut_intro fun J16 h16 => ?_)
        have k16 : J16 0 σ' := by
          rw [h16]
          intro _
          refine cut_intro fun J20 h20' => ?_
          have k20 : ∀ (W : List Int) (τ' : Hp), W.length = X.length → MrgQ kf P X 0 X.length W → OwnSl 3 [.int .i64] σ0 A X.length c W τ' → J20 τ' := by
            intro W τ' w1 w2 w3
            rw [h20']
            intro _
            exact wk_i (by omega) (bk_of _ (show (80 - 40 : Int).toNat < (80 - 20 : Int).toNat by decide) (.inr ⟨rfl, rfl, W, w1, w2, w3⟩))
          refine wk_i (by omega) (bc_d (fun hlt2 => ?_) (fun h => by omega))
          have s1 : Srt kf Z 0 20 := m2.eq (by omega) fun p p0 p1 => z3.1 p p0 (by omega)
          have hlr : ∀ p q : Int, 0 ≤ p → p < 0 + 20 → 0 + 20 ≤ q → q < X.length → gt Z p < gt Z q := by
            intro p q p0 p1 q0 q1
            obtain ⟨p', a0, a1, e1⟩ := (m3.2 (gt Y p)).1 ⟨p, p0, by omega, rfl⟩
            obtain ⟨q', b0, b1, e2⟩ := (z3.2 (gt Z q)).1 ⟨q, by omega, q1, rfl⟩
            rw [z3.1 p p0 (by omega), ← e1, ← e2, m3.1 q' (by omega) (by omega)]
            exact hasc p' q' a0 (by omega) b1
          have hZX : Z.length = X.length := by omega
          have hall : Sam X Z 0 X.length := (m3.wide (a' := 0) (b' := X.length) (by omega) (by omega) (by omega)).trans (z3.wide (a' := 0) (b' := X.length) (by omega) (by omega) (by omega))
          have hc2 := c_symMerge hf hcf X.length Z 0 (0 + 20) X.length σ' (by omega) hoZ (by omega) (by omega) (by omega) (by omega) (by omega) (by simpa using s1) (by simpa using z2) hlr z1
          refine cl_of M_slices_symMergeCmpFunc_int_enter hc2 ?_
          rintro v σ7 ⟨W, hwl, ⟨w1, w2, w3⟩, hoW⟩
          exact k20 W σ7 (by omega) ⟨w1, w2, hall.trans w3⟩ hoW
        refine ⟨fun w i j τ => i = 0 ∧ j = 40 ∧ τ = σ', ⟨0, rfl, rfl, rfl⟩, ?_⟩
        rintro w i j τ ⟨rfl, rfl, rfl⟩ _
        exact bc_d (fun h => by omega) (fun _ => k16)
      · refine rt_of ⟨Z, by omega, ?_, hoZ⟩
        rcases ha with ⟨rfl, _, rfl⟩ | ⟨rfl, h20, m1, m2, m3⟩
        · exact ⟨z1, z2, z3⟩
        · have h20' : (X.length : Int) = 20 := by omega
          have hzz : ∀ p : Int, 0 ≤ p → gt Z p = gt Y p := fun p p0 => z3.1 p p0 (by omega)
          rw [h20']
          refine ⟨z1, m2.eq (by omega) fun p p0 p1 => hzz p p0, fun p p0 p1 => ?_, fun v => ?_⟩
          · rw [hzz p p0]; exact m3.1 p p0 p1
          · rw [← m3.2 v]
            constructor
            · rintro ⟨p, p0, p1, e⟩; exact ⟨p, p0, p1, by rw [← hzz p p0]; exact e⟩
            · rintro ⟨p, p0, p1, e⟩; exact ⟨p, p0, p1, by rw [hzz p p0]; exact e⟩
    · exact bc_d (fun h => by omega) (fun _ => rt_of hdone)
  refine ⟨fun w a b τ => (w = (60 - b).toNat ∧ a = 0 ∧ b = 20 ∧ τ = σ) ∨ (w = (60 - b).toNat ∧ a = 20 ∧ b = 40 ∧ 20 ≤ X.length ∧ ∃ Y : List Int, Y.length = X.length ∧ MrgQ kf P X 0 20 Y ∧ OwnSl 3 [.int .i64] σ0 A X.length c Y τ), ⟨_, .inl ⟨rfl, rfl, rfl, rfl⟩⟩, ?_⟩
  rintro w a b τ hst _
  rcases hst with ⟨rfl, rfl, rfl, rfl⟩ | ⟨rfl, rfl, rfl, h20, Y, hyl, hm, hoY⟩
  · refine bc_d (fun hle => ?_) (fun hgt => k3 0 X τ (.inl ⟨rfl, by omega, rfl⟩) rfl ho)
    have hc := c_insertion2 (a := 0) (b := 20) hf hcf ho (by omega) (by omega) (by omega) hle (fun p q p0 pq q1 => hasc p q p0 pq (by omega)) hP
    refine cl_of M_slices_insertionSortCmpFunc_int_enter hc ?_
    rintro v σ6 ⟨Z, hzl, hm, hoZ⟩
    exact wk_i (by omega) (bk_of _ (show (60 - 40 : Int).toNat < (60 - 20 : Int).toNat by decide) (.inr ⟨rfl, rfl, rfl, by omega, Z, hzl, hm, hoZ⟩))
  · exact bc_d (fun hle => by omega) (fun _ => k3 20 Y τ (.inr ⟨rfl, h20, hm⟩) hyl hoY)
end
end Go.Proofs.Ytmpkiaghkhhlhaa

/- Plain law of layer 4: who leaves when. No program in sight. -/
namespace Go.Proofs.Ytmpkiaghkhhlhaa
open Go.RowKit

def sumI : List Int → Int
  | [] => 0
  | x :: xs => x + sumI xs
theorem sumI_app : ∀ (xs ys : List Int), sumI (xs ++ ys) = sumI xs + sumI ys
  | [], ys => by simp [sumI]
  | x :: xs, ys => by
    have := sumI_app xs ys
    simp only [List.cons_append, sumI, this]
    omega
theorem sumI_take {xs : List Int} {k : Nat} (h : k < xs.length) : sumI (xs.take (k + 1)) = sumI (xs.take k) + gt xs k := by
  rw [List.take_succ_eq_append_getElem h, sumI_app, gt_nat h]
  simp [sumI]
theorem sumI_set : ∀ {xs : List Int} {i : Nat} {v : Int} (h : i < xs.length), sumI (xs.set i v) = sumI xs - xs[i] + v
  | x :: xs, 0, v, _ => by simp [sumI]; omega
  | x :: xs, i + 1, v, h => by
    have := sumI_set (xs := xs) (i := i) (v := v) (by simpa using h)
    simp only [List.set_cons_succ, sumI, this, List.getElem_cons_succ]
    omega
theorem sumI_setI {xs : List Int} {c v : Int} (h0 : 0 ≤ c) (h1 : c < xs.length) : sumI (xs.set c.toNat v) = sumI xs - gt xs c + v := by
  rw [sumI_set (by omega), gt_eq (by omega)]
theorem sumI_bd : ∀ {xs : List Int}, (∀ x ∈ xs, 0 ≤ x ∧ x ≤ 20) → 0 ≤ sumI xs ∧ sumI xs ≤ 20 * xs.length
  | [], _ => by simp [sumI]
  | x :: xs, h => by
    have h1 := h x (List.mem_cons_self ..)
    have h2 := sumI_bd (xs := xs) fun y hy => h y (List.mem_cons_of_mem _ hy)
    simp only [sumI, List.length_cons]
    omega
/-- people in their cells -/
def NowOK (N : Nat) (now : List Int) : Prop := now.length = N ∧ ∀ c : Int, 0 ≤ c → c < N → 0 ≤ gt now c ∧ gt now c ≤ 20
theorem NowOK.mem {N : Nat} {now : List Int} (h : NowOK N now) : ∀ x ∈ now, 0 ≤ x ∧ x ≤ 20 := by
  intro x hx
  obtain ⟨i, hi, rfl⟩ := List.getElem_of_mem hx
  have := h.2 i (by omega) (by have := h.1; omega)
  rw [gt_nat hi] at this
  exact this
theorem NowOK.sum {N : Nat} {now : List Int} (h : NowOK N now) : 0 ≤ sumI now ∧ sumI now ≤ 20 * N := by
  have := sumI_bd h.mem
  rw [h.1] at this
  exact this
theorem NowOK.take {N : Nat} {now : List Int} (h : NowOK N now) (k : Nat) : 0 ≤ sumI (now.take k) ∧ sumI (now.take k) ≤ 20 * N := by
  have h1 := sumI_bd (xs := now.take k) fun x hx => h.mem x (List.mem_of_mem_take hx)
  have h2 : (now.take k).length ≤ N := by rw [List.length_take, h.1]; omega
  omega
/-- the neighbour that is nearer and not full -/
def nearP (X now : List Int) (c : Int) : Int → Bool := fun k => decide (gt X k = gt X c - 1) && decide (gt now k < 4)
/-- one person goes from a cell -/
def goS (g : Gnd) (X now : List Int) (c : Int) : List Int :=
  if gt now c = 0 then now else if gt X c = 0 then now.set c.toNat (gt now c - 1)
  else if 0 ≤ fidx (nearP X now c) (g.nbr c) then (now.set c.toNat (gt now c - 1)).set (gt (g.nbr c) (fidx (nearP X now c) (g.nbr c))).toNat (gt now (gt (g.nbr c) (fidx (nearP X now c) (g.nbr c))) + 1) else now
theorem fidx_spec {p : Int → Bool} {xs : List Int} (h : 0 ≤ fidx p xs) : ∃ k : Nat, k < xs.length ∧ fidx p xs = k ∧ p (gt xs k) = true ∧ ∀ j : Nat, j < k → p (gt xs j) = false := by
  unfold fidx at h ⊢
  split at h
  · rename_i hl
    rw [if_pos hl]
    refine ⟨_, hl, rfl, ?_, fun j hj => ?_⟩
    · rw [gt_nat hl]; exact List.findIdx_getElem
    · rw [gt_nat (by omega)]
      have := List.not_of_lt_findIdx hj
      simpa using this
  · omega
theorem goS_ok {g : Gnd} (ho : g.okS = true) {X now : List Int} (h : NowOK g.C.length now) {c : Int} (h0 : 0 ≤ c) (h1 : c < g.C.length) : NowOK g.C.length (goS g X now c) ∧ sumI (goS g X now c) = sumI now - (if gt now c ≠ 0 ∧ gt X c = 0 then 1 else 0) := by
  have hl := h.1
  have hc := h.2 c h0 h1
  unfold goS
  by_cases e1 : gt now c = 0
  · rw [if_pos e1, if_neg (by simp [e1])]
    exact ⟨h, by omega⟩
  · rw [if_neg e1]
    by_cases e2 : gt X c = 0
    · rw [if_pos e2, if_pos ⟨e1, e2⟩]
      refine ⟨⟨by simpa using hl, fun d d0 d1 => ?_⟩, ?_⟩
      · rw [gt_set h0 d0 (by omega)]
        split
        · omega
        · exact h.2 d d0 d1
      · rw [sumI_setI h0 (by omega)]; omega
    · rw [if_neg e2]
      by_cases e3 : 0 ≤ fidx (nearP X now c) (g.nbr c)
      · rw [if_pos e3, if_neg (fun q => e2 q.2)]
        obtain ⟨k, hk, ek, hp, _⟩ := fidx_spec e3
        rw [ek]
        obtain ⟨k0, k1⟩ := nbr_in ho h0 h1 _ (gt_mem hk)
        unfold nearP at hp
        simp only [Bool.and_eq_true, decide_eq_true_eq] at hp
        have hne : gt (g.nbr c) k ≠ c := fun e => by rw [e] at hp; omega
        have hk2 := h.2 _ k0 k1
        generalize gt (g.nbr c) k = q at *
        refine ⟨⟨by simpa using hl, fun d d0 d1 => ?_⟩, ?_⟩
        · rw [gt_set2 ⟨h0, by omega⟩ ⟨k0, by omega⟩ d0]
          split
          · omega
          · split
            · omega
            · exact h.2 d d0 d1
        · have hs : gt (now.set c.toNat (gt now c - 1)) q = gt now q := by
            rw [gt_set h0 k0 (by omega), if_neg hne]
          rw [sumI_setI k0 (by simp; omega), sumI_setI h0 (by omega), hs]
          omega
      · rw [if_neg e3, if_neg (fun q => e2 q.2)]
        exact ⟨h, by omega⟩
theorem fold_ok {g : Gnd} (ho : g.okS = true) {X : List Int} : ∀ {cs now : List Int}, NowOK g.C.length now → (∀ c ∈ cs, 0 ≤ c ∧ c < g.C.length) → NowOK g.C.length (cs.foldl (goS g X) now)
  | [], _, h, _ => h
  | c :: cs, now, h, hc => by
    have h1 := hc c (List.mem_cons_self ..)
    show NowOK g.C.length (cs.foldl (goS g X) (goS g X now c))
    exact fold_ok ho (cs := cs) (goS_ok ho h h1.1 h1.2).1 fun d hd => hc d (List.mem_cons_of_mem _ hd)
/-- the cells in the order in which they are left -/
def lvO (g : Gnd) (X : List Int) : Nat → List Int
  | 0 => []
  | s + 1 => lvO g X s ++ nums (fun c => decide (gt X c = s)) g.C.length
theorem lvO_mem {g : Gnd} {X : List Int} {a : Int} : ∀ s, a ∈ lvO g X s ↔ (0 ≤ a ∧ a < g.C.length) ∧ 0 ≤ gt X a ∧ gt X a < s
  | 0 => by
    constructor
    · intro h; cases h
    · intro h; omega
  | s + 1 => by
    rw [lvO, List.mem_append, lvO_mem s, mem_nums, decide_eq_true_eq]
    omega
theorem lvO_sorted {g : Gnd} {X : List Int} : ∀ s, (lvO g X s).Pairwise (slt fun c => gt X c)
  | 0 => List.Pairwise.nil
  | s + 1 => by
    rw [lvO, List.pairwise_append]
    refine ⟨lvO_sorted s, ?_, fun a ha b hb => ?_⟩
    · refine List.Pairwise.imp_of_mem ?_ nums_sorted
      intro a b ha hb hab
      have h1 := (mem_nums.1 ha).2
      have h2 := (mem_nums.1 hb).2
      rw [decide_eq_true_eq] at h1 h2
      exact .inr ⟨by show gt X a = gt X b; omega, hab⟩
    · have h1 := (lvO_mem s).1 ha
      have h2 := (mem_nums.1 hb).2
      rw [decide_eq_true_eq] at h2
      exact .inl (by show gt X a < gt X b; omega)
/-- one tick -/
def tickS (g : Gnd) (X now : List Int) : List Int := (lvO g X g.C.length).foldl (goS g X) now
theorem tick_ok {g : Gnd} (ho : g.okS = true) {X now : List Int} (h : NowOK g.C.length now) : NowOK g.C.length (tickS g X now) := fold_ok ho h fun _ hc => ((lvO_mem _).1 hc).1
/-- how many are left behind each of at most n ticks -/
def lvL (g : Gnd) (X : List Int) : Nat → List Int → List Int
  | 0, _ => []
  | n + 1, now => if 0 < sumI now then sumI (tickS g X now) :: lvL g X n (tickS g X now) else []
theorem lvL_len {g : Gnd} {X : List Int} : ∀ n now, (lvL g X n now).length ≤ n
  | 0, _ => by simp [lvL]
  | n + 1, now => by
    rw [lvL]
    split
    · simp only [List.length_cons]
      have := lvL_len (g := g) (X := X) n (tickS g X now)
      omega
    · simp
theorem nums_asc {p : Int → Bool} {k : Nat} : Asc (nums p k) 0 (nums p k).length := by
  intro a b a0 ab b1
  have := List.pairwise_iff_getElem.1 (nums_sorted (p := p) (k := k)) a.toNat b.toNat (by omega) (by omega) (by omega)
  rw [gt_eq (by omega), gt_eq (by omega)]
  exact this
/-- the cells, sorted by how far they are, are the cells in the order in which they are left -/
theorem sort_lvO {g : Gnd} {X Y : List Int} (hlt : ∀ c : Int, 0 ≤ c → c < g.C.length → gt X c < g.C.length) (hl : Y.length = (nums (fun c => decide (0 ≤ gt X c)) g.C.length).length)
    (hs : Srt (fun c => gt X c) Y 0 (nums (fun c => decide (0 ≤ gt X c)) g.C.length).length) (hm : Sam (nums (fun c => decide (0 ≤ gt X c)) g.C.length) Y 0 (nums (fun c => decide (0 ≤ gt X c)) g.C.length).length) : Y = lvO g X g.C.length := by
  refine sorted_uniq (kf := fun c => gt X c) (srt_pairwise (by rw [hl]; exact hs)) (lvO_sorted _) fun v => ?_
  rw [sam_mem hm hl, mem_nums, lvO_mem, decide_eq_true_eq]
  constructor
  · rintro ⟨h1, h2⟩
    exact ⟨h1, h2, hlt v h1.1 h1.2⟩
  · rintro ⟨h1, h2, _⟩
    exact ⟨h1, h2⟩
/-- a crowd that is not allowed -/
def badS (_ : Gnd) (op : Int → Bool) (ps : List Int) (k : Nat) : Bool := (List.range k).any fun c : Nat => !decide (0 ≤ gt ps c ∧ gt ps c ≤ 20) || (decide (0 < gt ps c) && !op c)
theorem badS_succ {g : Gnd} {op : Int → Bool} {ps : List Int} {k : Nat} : badS g op ps (k + 1) = (badS g op ps k || (!decide (0 ≤ gt ps k ∧ gt ps k ≤ 20) || (decide (0 < gt ps k) && !op k))) := by
  unfold badS
  rw [List.range_succ, List.any_append]
  simp
theorem badS_mono {g : Gnd} {op : Int → Bool} {ps : List Int} {k m : Nat} (hkm : k ≤ m) (h : badS g op ps k = true) : badS g op ps m = true := by
  unfold badS at h ⊢
  rw [List.any_eq_true] at h ⊢
  obtain ⟨x, hx, e⟩ := h
  exact ⟨x, List.mem_range.2 (by have := List.mem_range.1 hx; omega), e⟩
theorem badS_now {g : Gnd} {op : Int → Bool} {ps : List Int} (hl : ps.length = g.C.length) (h : badS g op ps g.C.length = false) : NowOK g.C.length ps := by
  refine ⟨hl, fun c h0 h1 => ?_⟩
  unfold badS at h
  rw [List.any_eq_false] at h
  have := h c.toNat (List.mem_range.2 (by omega))
  rw [show ((c.toNat : Nat) : Int) = c by omega] at this
  simp only [Bool.or_eq_true, Bool.not_eq_true', decide_eq_false_iff_not, not_or] at this
  exact Classical.not_not.1 this.1
def lvE (g : Gnd) (l : List Pit) (st : List Sit) (ps : List Int) (m : Int) : List Int × Int :=
  if (chkS g l st).2 ≠ 0 then ([], (chkS g l st).2) else if ¬ (ps.length = g.C.length ∧ (0 ≤ m ∧ m ≤ 500)) then ([], 1)
  else if badS g (gb (g.opn l st)) ps g.C.length = true then ([], 1) else (lvL g (farS g (gb (g.opn l st))) m.toNat ps, 0)
end Go.Proofs.Ytmpkiaghkhhlhaa

