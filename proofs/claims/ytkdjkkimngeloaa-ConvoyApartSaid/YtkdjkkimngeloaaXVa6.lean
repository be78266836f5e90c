/- Trimmed by wip/trim.py to what this claim rests on. -/
import Derived.Test.YtkdjkkimngeloaaXVa5
namespace Go.Proofs.Ytkdjkkimngeloaa
open Go.RowKit
section
variable {m : Mp} {l : Lry} {C : Std → Leg → Prop}
def stA (m : Mp) (l : Lry) : Std → List Leg → Std
  | s, [] => s
  | s, x :: j => stA m l ((go1 m l s x).getD s) j
theorem Jw.st : ∀ {j : List Leg} {s s' : Std}, Jw m l C s j s' → s' = stA m l s j
  | [], _, _, h => by
    have h : _ = _ := h
    exact h.symm
  | x :: j, s, s', ⟨_, _, s1, h1, h2⟩ => by
    show s' = stA m l ((go1 m l s x).getD s) j
    rw [h1]
    exact Jw.st h2
theorem Jw.split : ∀ {a b : List Leg} {s s' : Std}, Jw m l C s (a ++ b) s' → ∃ s1, Jw m l C s a s1 ∧ Jw m l C s1 b s'
  | [], _, s, _, h => ⟨s, rfl, h⟩
  | _ :: _, _, _, _, ⟨a, b, s1, c, d⟩ => by
    obtain ⟨s2, h1, h2⟩ := Jw.split d
    exact ⟨s2, ⟨a, b, s1, c, h1⟩, h2⟩
theorem Jw.less : ∀ {j : List Leg} {s t s' : Std}, s.tn = t.tn → s.sn = t.sn → t.dv ≤ s.dv → Jw m l C s j s' → ∃ t', Jw m l QW t j t' ∧ t'.tn = s'.tn ∧ t'.sn = s'.sn
  | [], s, t, s', e1, e2, e3, h => by
    have h : s = s' := h
    subst h
    exact ⟨t, rfl, e1.symm, e2.symm⟩
  | x :: j, s, t, s', e1, e2, e3, ⟨a, _, s1, c, d⟩ => by
    obtain ⟨c1, c2, c3, c4, rfl⟩ := BB.1 c
    have hd : AW m l t x ≤ AW m l s x := by
      unfold AW
      rw [e1, e2]
      split <;> omega
    obtain ⟨t', h1, h2, h3⟩ := Jw.less (s := ⟨(AD m x.1).1 + (AD m x.1).2.1 - s.tn, x.2 + (AD m x.1).2.2.1, AW m l s x + (AD m x.1).2.2.1⟩) (t := ⟨(AD m x.1).1 + (AD m x.1).2.1 - t.tn, x.2 + (AD m x.1).2.2.1, AW m l t x + (AD m x.1).2.2.1⟩) (by show _ + _ - s.tn = _ + _ - t.tn; rw [e1]) rfl (by show AW m l t x + _ ≤ AW m l s x + _; omega) d
    exact ⟨t', ⟨a, trivial, _, BB.2 ⟨by rw [← e1]; exact c1, c2, by rw [← e2]; exact c3, by omega, rfl⟩, h1⟩, h2, h3⟩
theorem Bst.cut (hm : BJ m) (hl : AZ m l) {t : Int} {a : Int} {u v d : List Leg} {y : Leg} (h : Bst m l t (a, u ++ v ++ y :: d)) (hv : v ≠ []) (ht : (stA m l (bgn l) u).tn = (stA m l (bgn l) (u ++ v)).tn)
    (hd : AW m l (stA m l (bgn l) u) y ≤ AW m l (stA m l (bgn l) (u ++ v)) y) : False := by
  obtain ⟨s, h1, h2, h3, h4⟩ := h
  obtain ⟨sj, g1, g2⟩ := Jw.split h1
  obtain ⟨si, g3, g4⟩ := Jw.split g1
  have ei := Jw.st g3
  have ej := Jw.st g1
  rw [← ei, ← ej] at ht hd
  have hle : si.sn ≤ sj.sn := by
    have := (Jw.ok hm ((Jw.ok hm hl.bgn g3).1) g4).2
    omega
  obtain ⟨k1, _, s1, k3, k4⟩ := g2
  obtain ⟨c1, c2, c3, c4, rfl⟩ := BB.1 k3
  have g5 : go1 m l si y = some ⟨(AD m y.1).1 + (AD m y.1).2.1 - si.tn, y.2 + (AD m y.1).2.2.1, AW m l si y + (AD m y.1).2.2.1⟩ := BB.2 ⟨by rw [ht]; exact c1, c2, by omega, by omega, rfl⟩
  obtain ⟨t', q1, q2, q3⟩ := Jw.less (s := ⟨(AD m y.1).1 + (AD m y.1).2.1 - sj.tn, y.2 + (AD m y.1).2.2.1, AW m l sj y + (AD m y.1).2.2.1⟩) (t := ⟨(AD m y.1).1 + (AD m y.1).2.1 - si.tn, y.2 + (AD m y.1).2.2.1, AW m l si y + (AD m y.1).2.2.1⟩) (by show _ + _ - sj.tn = _ + _ - si.tn; rw [ht]) rfl (by show AW m l si y + _ ≤ AW m l sj y + _; omega) k4
  have q4 : Jw m l QW (bgn l) (u ++ y :: d) t' := (g3.mono fun _ _ _ => trivial).app ⟨k1, trivial, _, g5, q1⟩
  obtain ⟨j', s', r1, r2, r3, r4, r5⟩ := R0 hm hl _ _ _ rfl q4
  have hlv : 0 < v.length := List.length_pos_iff.2 hv
  have := h4 j' s' r1 (by rw [r2, q2, h2])
  have hsn : a = s.sn := h3.symm
  rcases this with e | e
  · have e := congrArg (fun x : Trp => x.2.length) e
    simp only [List.length_append, List.length_cons] at e r5
    omega
  · rcases e with e | ⟨_, e | ⟨e, _⟩⟩
    · have e : a < s'.sn := e
      omega
    · have e : (u ++ v ++ y :: d).length < j'.length := e
      simp only [List.length_append, List.length_cons] at e r5
      omega
    · have e : (u ++ v ++ y :: d).length = j'.length := e
      simp only [List.length_append, List.length_cons] at e r5
      omega
def PH (m : Mp) (l : Lry) (s : Std) (x : Leg) : Prop := gbp m.pk s.tn = true ∧ l.rst ≤ x.2 - s.sn
instance {s : Std} {x : Leg} : Decidable (PH m l s x) := by unfold PH; infer_instance
theorem KE {s : Std} {x : Leg} (h : PH m l s x) : AW m l s x = 0 := by unfold AW; exact if_pos h
theorem JT {s : Std} {x : Leg} (h : ¬ PH m l s x) : AW m l s x = s.dv := by unfold AW; exact if_neg h
section
variable {j : List Leg} {s' : Std}
def sAt (m : Mp) (l : Lry) (j : List Leg) (i : Nat) : Std := stA m l (bgn l) (j.take i)
theorem Nn (h : Jw m l C (bgn l) j s') (i : Nat) : ∃ s1, s1 = sAt m l j i ∧ Jw m l C (bgn l) (j.take i) s1 ∧ Jw m l C s1 (j.drop i) s' := by
  have h' : Jw m l C (bgn l) (j.take i ++ j.drop i) s' := by rw [List.take_append_drop]; exact h
  obtain ⟨s1, h1, h2⟩ := h'.split
  exact ⟨s1, h1.st, h1, h2⟩
theorem Gk (hm : BJ m) (hl : AZ m l) (h : Jw m l C (bgn l) j s') (i : Nat) : LD m l (sAt m l j i) := by
  obtain ⟨s1, rfl, h1, _⟩ := Nn h i
  exact (Jw.ok hm hl.bgn h1).1
theorem LK (h : Jw m l C (bgn l) j s') {i : Nat} (hi : i < j.length) : F8 m j[i] ∧ go1 m l (sAt m l j i) j[i] = some (sAt m l j (i + 1)) := by
  obtain ⟨s1, e, h1, h2⟩ := Nn h i
  rw [List.drop_eq_getElem_cons hi] at h2
  obtain ⟨a, b, s2, c, d⟩ := h2
  refine ⟨a, ?_⟩
  have h3 : Jw m l C (bgn l) (j.take i ++ [j[i]]) s2 := Jw.snoc.2 ⟨s1, h1, a, b, c⟩
  rw [← List.take_succ_eq_append_getElem hi] at h3
  rw [← e, c]
  exact congrArg some h3.st
theorem Lw (hm : BJ m) (hl : AZ m l) (h : Jw m l C (bgn l) j s') {i : Nat} (hi : i < j.length) : (sAt m l j i).sn ≤ j[i].2 ∧ j[i].2 + 1 ≤ (sAt m l j (i + 1)).sn := by
  obtain ⟨a, g⟩ := LK h hi
  obtain ⟨_, _, e⟩ := (Gk hm hl h i).go hm a g
  obtain ⟨_, _, c, _⟩ := BB.1 g
  obtain ⟨_, _, _, q, _⟩ := hm.rd (x := j[i]) a
  exact ⟨c, by omega⟩
theorem JP (hm : BJ m) (hl : AZ m l) (h : Jw m l C (bgn l) j s') {i : Nat} : ∀ k, i ≤ k → k ≤ j.length → (sAt m l j i).sn ≤ (sAt m l j k).sn := by
  intro k
  induction k with
  | zero => intro h1 _; obtain rfl : i = 0 := by omega
            exact Int.le_refl _
  | succ k ih =>
    intro h1 h2
    by_cases e : i = k + 1
    · subst e; exact Int.le_refl _
    · have := ih (by omega) (by omega)
      have := Lw hm hl h (i := k) (by omega)
      omega
theorem Bst.two (hm : BJ m) (hl : AZ m l) {t a : Int} (h : Bst m l t (a, j)) {i k : Nat} (hik : i < k) (hk : k < j.length) (ht : (sAt m l j i).tn = (sAt m l j k).tn) : ¬ AW m l (sAt m l j i) j[k] ≤ AW m l (sAt m l j k) j[k] := by
  intro hd
  have e1 : j = j.take i ++ (j.take k).drop i ++ j[k] :: j.drop (k + 1) := by
    have e2 : j.take i ++ (j.take k).drop i = j.take k := by
      have := List.take_append_drop i (j.take k)
      rw [List.take_take, Nat.min_eq_left (by omega)] at this
      exact this
    rw [e2, ← List.drop_eq_getElem_cons hk, List.take_append_drop]
  have e2 : j.take i ++ (j.take k).drop i = j.take k := by
    have := List.take_append_drop i (j.take k)
    rw [List.take_take, Nat.min_eq_left (by omega)] at this
    exact this
  generalize hy : j[k] = y at e1 hd
  refine Bst.cut hm hl (u := j.take i) (v := (j.take k).drop i) (y := y) (d := j.drop (k + 1)) (by rw [← e1]; exact h) ?_ ?_ ?_
  · intro e
    have := congrArg List.length e
    simp only [List.length_drop, List.length_take, List.length_nil] at this
    omega
  · rw [e2]; exact ht
  · rw [e2]; exact hd
def Ka (m : Mp) (l : Lry) (j : List Leg) (i : Nat) : Bool := decide (PH m l (sAt m l j i) (j.getD i (0, 0)))
def HQ (m : Mp) (l : Lry) (j : List Leg) (i : Nat) : Nat := ((List.range (i + 1)).filter (Ka m l j)).length
theorem K9 {n : Nat} : HQ m l j (n + 1) = HQ m l j n + (if Ka m l j (n + 1) = true then 1 else 0) := by
  unfold HQ
  rw [List.range_succ (n := n + 1), List.filter_append, List.length_append]
  by_cases h : Ka m l j (n + 1) = true
  · simp [h]
  · simp [h]
theorem Lg {i : Nat} : ∀ n, i ≤ n → HQ m l j i ≤ HQ m l j n := by
  intro n
  induction n with
  | zero => intro e; obtain rfl : i = 0 := by omega
            exact Nat.le_refl _
  | succ n ih =>
    intro e
    by_cases e2 : i = n + 1
    · subst e2; exact Nat.le_refl _
    · have := ih (by omega)
      rw [K9]
      omega
theorem Pn {i k : Nat} (h : HQ m l j i = HQ m l j k) : ∀ q, i < q → q ≤ k → Ka m l j q = false := by
  intro q h1 h2
  cases hq : Ka m l j q with
  | false => rfl
  | true =>
    exfalso
    obtain ⟨q, rfl⟩ : ∃ z, q = z + 1 := ⟨q - 1, by omega⟩
    have a1 := Lg (m := m) (l := l) (j := j) (i := i) q (by omega)
    have a2 : HQ m l j (q + 1) = HQ m l j q + 1 := by rw [K9, if_pos hq]
    have a3 := Lg (m := m) (l := l) (j := j) (i := q + 1) k (by omega)
    omega
theorem HY {i : Nat} (hi : i < j.length) : j.getD i (0, 0) = j[i] := by simp [List.getD, hi]
theorem RV (hm : BJ m) (h : Jw m l C (bgn l) j s') {i : Nat} : ∀ k, i < k → k < j.length → (∀ q, i < q → q < k → Ka m l j q = false) → AW m l (sAt m l j i) (j.getD i (0, 0)) ≤ (sAt m l j k).dv := by
  intro k
  induction k with
  | zero => intro h1; omega
  | succ k ih =>
    intro h1 h2 h3
    obtain ⟨a, g⟩ := LK h (i := k) (by omega)
    obtain ⟨_, _, _, _, e⟩ := BB.1 g
    obtain ⟨_, _, _, q, _⟩ := hm.rd (x := j[k]) a
    have e2 : (sAt m l j (k + 1)).dv = AW m l (sAt m l j k) j[k] + (AD m j[k].1).2.2.1 := by rw [e]
    by_cases e3 : i = k
    · subst e3
      rw [HY (by omega)]
      omega
    · have h4 := ih (by omega) (by omega) fun q a b => h3 q a (by omega)
      have h5 := h3 k (by omega) (by omega)
      unfold Ka at h5
      rw [HY (by omega)] at h5
      rw [JT (of_decide_eq_false h5)] at e2
      omega
theorem Bst.short (hm : BJ m) (hl : AZ m l) {t a : Int} (h : Bst m l t (a, j)) : j.length ≤ (m.pk.length + 1) * m.pk.length ∧ (∀ x ∈ j, F8 m x ∧ 0 ≤ x.2 ∧ x.2 ≤ a) ∧ 0 ≤ a ∧ a ≤ l.rdy + 1000 * j.length := by
  have hB := h
  obtain ⟨s, hj, h2, h3, h4⟩ := h
  have hj : Jw m l (JS m l) (bgn l) j s := hj
  have h3 : s.sn = a := h3
  have hend : sAt m l j j.length = s := by
    unfold sAt
    rw [List.take_length]
    exact hj.st.symm
  have hy := hl.y
  have hrs := hl.s
  refine ⟨?_, fun x hx => ?_, ?_, ?_⟩
  · -- at most one rest in each town
    have hr : ∀ i k, i < k → k < j.length → Ka m l j k = true → (sAt m l j i).tn ≠ (sAt m l j k).tn := by
      intro i k hik hk hrk ht
      refine hB.two hm hl hik hk ht ?_
      unfold Ka at hrk
      rw [HY hk] at hrk
      have hrk := of_decide_eq_true hrk
      have hs := JP hm hl hj (i := i) k (by omega) (by omega)
      obtain ⟨r1, r2⟩ := hrk
      rw [KE (s := sAt m l j i) ⟨by rw [ht]; exact r1, by omega⟩]
      exact Int.le_of_eq (KE ⟨r1, r2⟩).symm
    have hcnt : ∀ i, i < j.length → HQ m l j i ≤ m.pk.length := by
      intro i hi
      have hn : (((List.range (i + 1)).filter (Ka m l j)).map fun q => (sAt m l j q).tn).Nodup := by
        rw [List.nodup_iff_pairwise_ne, List.pairwise_map]
        refine (List.Pairwise.filter _ List.pairwise_lt_range).imp_of_mem ?_
        intro p q hp hq hlt
        have hq1 := List.mem_filter.1 hq
        exact hr p q hlt (by have := List.mem_range.1 hq1.1; omega) hq1.2
      have := GJ (ys := (List.range m.pk.length).map Int.ofNat) hn fun x hx => by
        obtain ⟨q, _, rfl⟩ := List.mem_map.1 hx
        have := (Gk hm hl hj q).t
        exact List.mem_map.2 ⟨(sAt m l j q).tn.toNat, List.mem_range.2 (by omega), by show (((sAt m l j q).tn.toNat : Nat) : Int) = _; omega⟩
      unfold HQ
      simpa using this
    have hn : ((List.range j.length).map fun i => (HQ m l j i, (sAt m l j i).tn)).Nodup := by
      rw [List.nodup_iff_pairwise_ne, List.pairwise_map]
      refine List.pairwise_lt_range.imp_of_mem ?_
      intro i k _ hk hlt e
      have hk := List.mem_range.1 hk
      have e1 : HQ m l j i = HQ m l j k := congrArg Prod.fst e
      have e2 : (sAt m l j i).tn = (sAt m l j k).tn := congrArg Prod.snd e
      have hno := Pn e1
      refine hB.two hm hl hlt hk e2 ?_
      have hnk := hno k hlt (Nat.le_refl _)
      unfold Ka at hnk
      rw [HY hk] at hnk
      rw [JT (s := sAt m l j k) (of_decide_eq_false hnk)]
      have hg := RV hm hj k hlt hk fun q a b => hno q a (by omega)
      rw [HY (by omega)] at hg
      have hs := JP hm hl hj (i := i + 1) k (by omega) (by omega)
      have hi := Lw hm hl hj (i := i) (by omega)
      have hkk := Lw hm hl hj (i := k) hk
      by_cases hri : PH m l (sAt m l j i) j[i]
      · have hd0 := (Gk hm hl hj k).d.1
        rw [KE ⟨hri.1, by have := hri.2; omega⟩]
        exact hd0
      · rw [JT hri] at hg
        have hd0 := (Gk hm hl hj k).d.1
        unfold AW
        split <;> omega
    have := GJ (ys := (List.range (m.pk.length + 1)).flatMap fun c => (List.range m.pk.length).map fun t => (c, Int.ofNat t)) hn fun x hx => by
      obtain ⟨i, hi, rfl⟩ := List.mem_map.1 hx
      have hi := List.mem_range.1 hi
      have h5 := (Gk hm hl hj i).t
      have h6 := hcnt i hi
      exact List.mem_flatMap.2 ⟨_, List.mem_range.2 (by omega), List.mem_map.2 ⟨(sAt m l j i).tn.toNat, List.mem_range.2 (by omega), Prod.ext rfl (by show (((sAt m l j i).tn.toNat : Nat) : Int) = _; omega)⟩⟩
    have key : ∀ n k : Nat, ((List.range n).flatMap fun c => (List.range k).map fun t => (c, Int.ofNat t)).length = n * k := by
      intro n k
      induction n with
      | zero => simp
      | succ n ih =>
        rw [List.range_succ, List.flatMap_append, List.length_append, ih]
        simp [Nat.succ_mul]
    rw [key] at this
    simpa using this
  · obtain ⟨i, hi, rfl⟩ := List.mem_iff_getElem.1 hx
    have h5 := Lw hm hl hj hi
    have h6 := JP hm hl hj (i := i + 1) j.length (by omega) (Nat.le_refl _)
    have h7 := (Gk hm hl hj i).n
    rw [hend, h3] at h6
    exact ⟨(LK hj hi).1, by omega, by omega⟩
  · have h7 := (Gk hm hl hj j.length).n
    rw [hend, h3] at h7
    omega
  · have key : ∀ k, k ≤ j.length → (sAt m l j k).sn ≤ l.rdy + 1000 * k := by
      intro k
      induction k with
      | zero => intro _; show l.rdy ≤ l.rdy + 1000 * ((0 : Nat) : Int); omega
      | succ k ih =>
        intro hk
        have h5 := ih (by omega)
        obtain ⟨a1, g⟩ := LK hj (i := k) (by omega)
        obtain ⟨_, _, e⟩ := (Gk hm hl hj k).go hm a1 g
        obtain ⟨_, _, _, q, _⟩ := hm.rd (x := j[k]) a1
        obtain ⟨s1, e1, _, k2⟩ := Nn hj k
        rw [List.drop_eq_getElem_cons (by omega : k < j.length)] at k2
        have hc : JS m l s1 j[k] := k2.2.1
        rw [e1] at hc
        have : j[k].2 ≤ (sAt m l j k).sn + 500 := by
          rcases hc with hc | ⟨hc, _⟩ <;> omega
        omega
    have := key j.length (Nat.le_refl _)
    rw [hend, h3] at this
    exact this
end
end
end Go.Proofs.Ytkdjkkimngeloaa
