/- Trimmed by wip/trim.py to what this claim rests on. -/
import Derived.Test.YtkdjkkimngeloaaZB13
namespace Go.Proofs.Ytkdjkkimngeloaa
open Go.RowKit
theorem F3 {α : Type} [DecidableEq α] : ∀ {xs ys : List α}, xs.Nodup → (∀ x ∈ xs, x ∈ ys) → xs.length ≤ ys.length
  | [], _, _, _ => Nat.zero_le _
  | x :: xs, ys, hn, h => by
    rw [List.nodup_cons] at hn
    have hx := h x (List.mem_cons_self ..)
    have := F3 (ys := ys.erase x) hn.2 fun y hy => (List.mem_erase_of_ne (fun e => hn.1 (by rw [← e]; exact hy))).2 (h y (List.mem_cons_of_mem _ hy))
    rw [List.length_erase_of_mem hx] at this
    have := List.length_pos_of_mem hx
    simp only [List.length_cons]
    omega
abbrev Trk := Std × List Leg
def Trk.p (t : Trk) : Plc := (t.1.tn, t.1.dv)
def Trk.a (t : Trk) : Trp := (t.1.sn, t.2)
section
variable {m : Mp} {l : Lry} {ts : List Trk}
def Cov (ts : List Trk) (p : Plc) (a : Trp) : Prop := ∃ t ∈ ts, t.p = p ∧ lef t.a a
structure TI (m : Mp) (l : Lry) (ts : List Trk) : Prop where
  nd : (ts.map Trk.p).Nodup
  so : ∀ t ∈ ts, Jw m l (JX l) (bgn l) t.2 t.1
  bd : ∀ t ∈ ts, t.1.sn + 1000 ≤ l.rdy + 1000 * ts.length
  b : Cov ts (l.fr, 0) (l.rdy, [])
theorem TI.init : TI m l [(bgn l, [])] := by
  refine ⟨by simp, fun t ht => ?_, fun t ht => ?_, ⟨_, List.mem_singleton.2 rfl, rfl, FY _⟩⟩
  · rw [List.mem_singleton] at ht
    subst ht
    rfl
  · rw [List.mem_singleton] at ht
    subst ht
    show l.rdy + 1000 ≤ l.rdy + 1000 * (1 : Nat)
    omega
def E2 (l : Lry) (s : Std) (r b : Int) : Leg := (r, s.sn + b * l.rst)
theorem Tk {s : Std} {r : Int} {b : Nat} (hb : b < 2) : JX l s (E2 l s r b) := by
  rcases (show b = 0 ∨ b = 1 by omega) with rfl | rfl
  · left; show s.sn + ((0 : Nat) : Int) * l.rst = s.sn; simp
  · right; show s.sn + ((1 : Nat) : Int) * l.rst = s.sn + l.rst; simp
theorem TI.mem_ok (hm : BE m) (hl : Bi m l) (h : TI m l ts) {t : Trk} (ht : t ∈ ts) : Ng m l t.1 ∧ l.rdy + t.2.length ≤ t.1.sn := Jw.ok hm hl.bgn (h.so t ht)
theorem TI.len (hm : BE m) (hl : Bi m l) (h : TI m l ts) : ts.length ≤ (Lp m l).length := by
  have := F3 (xs := ts.map Trk.p) (ys := Lp m l) h.nd fun p hp => by
    obtain ⟨t, ht, rfl⟩ := List.mem_map.1 hp
    have := (h.mem_ok hm hl ht).1
    exact M2 this.t this.d
  simpa using this
theorem Cov.trans {p : Plc} {a a' : Trp} (h : Cov ts p a) (h' : lef a a') : Cov ts p a' := by
  obtain ⟨t, h1, h2, h3⟩ := h
  exact ⟨t, h1, h2, Ib h3 h'⟩
theorem Cov.push {p : Plc} {a : Trp} {u : Trk} (h : Cov ts p a) : Cov (ts ++ [u]) p a := by
  obtain ⟨t, h1, h2⟩ := h
  exact ⟨t, List.mem_append_left _ h1, h2⟩
theorem Cov.set {p : Plc} {a : Trp} {u : Trk} {k : Nat} (h : Cov ts p a) (hk : k < ts.length) (hp : u.p = ts[k].p) (hb : bef u.a ts[k].a) : Cov (ts.set k u) p a := by
  obtain ⟨t, h1, h2, h3⟩ := h
  obtain ⟨i, hi, rfl⟩ := List.mem_iff_getElem.1 h1
  by_cases e : i = k
  · subst e
    exact ⟨u, List.mem_iff_getElem.2 ⟨i, by simpa using hi, by simp⟩, hp.trans h2, Ib (.inr hb) h3⟩
  · exact ⟨ts[i], List.mem_iff_getElem.2 ⟨i, by simpa using hi, by rw [List.getElem_set_ne (Ne.symm e)]⟩, h2, h3⟩
theorem TI.step (hm : BE m) (h : TI m l ts) (hl : Bi m l) {t : Trk} (ht : t ∈ ts) {r : Int} {b : Nat} (hb : b < 2) (hr : 0 ≤ r ∧ r < m.rs.length) {s' : Std} (hg : go1 m l t.1 (E2 l t.1 r b) = some s') :
    Jw m l (JX l) (bgn l) (t.2 ++ [E2 l t.1 r b]) s' ∧ Ng m l s' ∧ s'.sn ≤ l.rdy + 1000 * ts.length := by
  have h1 : Jw m l (JX l) (bgn l) (t.2 ++ [E2 l t.1 r b]) s' := Jw.snoc.2 ⟨_, h.so t ht, hr, Tk hb, hg⟩
  refine ⟨h1, (Jw.ok hm hl.bgn h1).1, ?_⟩
  obtain ⟨_, _, e⟩ := (h.mem_ok hm hl ht).1.go hm (x := E2 l t.1 r b) hr hg
  have := h.bd t ht
  obtain ⟨_, _, _, g, _⟩ := hm.rd (x := (E2 l t.1 r b)) hr
  have hs := hl.s
  have e2 : (E2 l t.1 r b).2 ≤ t.1.sn + 500 := by
    rcases (show b = 0 ∨ b = 1 by omega) with rfl | rfl
    · show t.1.sn + ((0 : Nat) : Int) * l.rst ≤ _
      rw [show ((0 : Nat) : Int) * l.rst = 0 by simp]
      omega
    · show t.1.sn + ((1 : Nat) : Int) * l.rst ≤ _
      rw [show ((1 : Nat) : Int) * l.rst = l.rst by simp]
      omega
  omega
theorem TI.push (h : TI m l ts) {u : Trk} (h1 : Jw m l (JX l) (bgn l) u.2 u.1) (h2 : u.1.sn ≤ l.rdy + 1000 * ts.length) (hn : ∀ t ∈ ts, t.p ≠ u.p) : TI m l (ts ++ [u]) := by
  refine ⟨?_, fun t ht => ?_, fun t ht => ?_, h.b.push⟩
  · rw [List.map_append, List.nodup_append]
    refine ⟨h.nd, by simp, fun a ha c hc e => ?_⟩
    obtain ⟨t, ht, rfl⟩ := List.mem_map.1 ha
    rw [List.map_singleton, List.mem_singleton] at hc
    exact hn t ht (e.trans hc)
  · rcases List.mem_append.1 ht with ht | ht
    · exact h.so t ht
    · rw [List.mem_singleton] at ht
      subst ht
      exact h1
  · rw [List.length_append, List.length_singleton]
    rcases List.mem_append.1 ht with ht | ht
    · have := h.bd t ht
      omega
    · rw [List.mem_singleton] at ht
      subst ht
      omega
theorem TI.set (h : TI m l ts) {u : Trk} {k : Nat} (hk : k < ts.length) (h1 : Jw m l (JX l) (bgn l) u.2 u.1) (hp : u.p = ts[k].p) (hb : bef u.a ts[k].a) : TI m l (ts.set k u) := by
  have hle : u.1.sn ≤ ts[k].1.sn := by
    rcases hb with e | ⟨e, _⟩
    · have e : u.1.sn < ts[k].1.sn := e
      omega
    · have e : u.1.sn = ts[k].1.sn := e
      omega
  have mem : ∀ t ∈ ts.set k u, t ∈ ts ∨ t = u := fun t ht => (List.mem_or_eq_of_mem_set ht)
  refine ⟨?_, fun t ht => ?_, fun t ht => ?_, h.b.set hk hp hb⟩
  · have e : (ts.set k u).map Trk.p = ts.map Trk.p := by
      rw [List.map_set]
      apply List.ext_getElem
      · simp
      · intro i h1 h2
        by_cases e : k = i
        · subst e
          simp [hp]
        · rw [List.getElem_set_ne e]
    rw [e]
    exact h.nd
  · rcases mem t ht with ht | rfl
    · exact h.so t ht
    · exact h1
  · rw [List.length_set]
    rcases mem t ht with ht | rfl
    · exact h.bd t ht
    · have := h.bd _ (List.getElem_mem hk)
      omega
def Clo (m : Mp) (l : Lry) (ts : List Trk) (i r b : Nat) : Prop := ∀ (h : i < ts.length) (s' : Std), go1 m l ts[i].1 (E2 l ts[i].1 r b) = some s' → Cov ts (s'.tn, s'.dv) (s'.sn, ts[i].2 ++ [E2 l ts[i].1 r b])
def Cl3 (m : Mp) (l : Lry) (ts : List Trk) (i r b : Nat) : Prop := ∀ i' r' b' : Nat, (i' < i ∨ (i' = i ∧ (r' < r ∨ (r' = r ∧ b' < b)))) → r' < m.rs.length → b' < 2 → Clo m l ts i' r' b'
theorem Cl3.zero : Cl3 m l ts 0 0 0 := fun i' r' b' h => by omega
theorem Cl3.next {i r b : Nat} (h : Cl3 m l ts i r b) (h1 : Clo m l ts i r b) : Cl3 m l ts i r (b + 1) := fun i' r' b' g1 g2 g3 => by
  by_cases e : i' = i ∧ r' = r ∧ b' = b
  · obtain ⟨rfl, rfl, rfl⟩ := e
    exact h1
  · exact h i' r' b' (by omega) g2 g3
theorem Cl3.road {i r : Nat} (h : Cl3 m l ts i r 2) : Cl3 m l ts i (r + 1) 0 := fun i' r' b' g1 g2 g3 => h i' r' b' (by omega) g2 g3
theorem Cl3.trip {i : Nat} (h : Cl3 m l ts i m.rs.length 0) : Cl3 m l ts (i + 1) 0 0 := fun i' r' b' g1 g2 g3 => h i' r' b' (by omega) g2 g3
theorem TI.fin (h : TI m l ts) (hc : Cl3 m l ts ts.length 0 0) : ∀ (n : Nat) (j : List Leg) (s : Std), j.length = n → Jw m l (JX l) (bgn l) j s → Cov ts (s.tn, s.dv) (s.sn, j) := by
  intro n
  induction n with
  | zero =>
    intro j s hn hj
    obtain rfl := List.length_eq_zero_iff.1 hn
    have hj : bgn l = s := hj
    subst hj
    exact h.b
  | succ n ih =>
    intro j s hn hj
    obtain ⟨k, x, rfl⟩ : ∃ k x, j = k ++ [x] := ⟨j.dropLast, j.getLast (by intro e; rw [e] at hn; simp at hn), (List.dropLast_concat_getLast _).symm⟩
    obtain ⟨s0, h1, h2, h3, h4⟩ := Jw.snoc.1 hj
    obtain ⟨t, ht, hp, hle⟩ := ih k s0 (by simpa using hn) h1
    obtain ⟨i, hi, rfl⟩ := List.mem_iff_getElem.1 ht
    obtain ⟨r, hr⟩ := Int.eq_ofNat_of_zero_le h2.1
    have hr2 : r < m.rs.length := by have := h2.2; omega
    obtain ⟨b, hb, hx⟩ : ∃ b : Nat, b < 2 ∧ x = E2 l s0 r b := by
      rcases h3 with h3 | h3
      · exact ⟨0, by omega, Prod.ext hr (by rw [h3]; show s0.sn = s0.sn + ((0 : Nat) : Int) * l.rst; simp)⟩
      · exact ⟨1, by omega, Prod.ext hr (by rw [h3]; show s0.sn + l.rst = s0.sn + ((1 : Nat) : Int) * l.rst; simp)⟩
    subst hx
    obtain ⟨a1, a2, a3, a4, rfl⟩ := Bz.1 h4
    have p1 : ts[i].1.tn = s0.tn := congrArg Prod.fst hp
    have p2 : ts[i].1.dv = s0.dv := congrArg Prod.snd hp
    have ed : AW m l ts[i].1 (E2 l ts[i].1 r b) = AW m l s0 (E2 l s0 r b) := by
      unfold AW E2
      rw [p1, p2]
      have e1 : ts[i].1.sn + (b : Int) * l.rst - ts[i].1.sn = s0.sn + (b : Int) * l.rst - s0.sn := by omega
      dsimp only
      rw [e1]
    have hx2 : 0 ≤ (b : Int) * l.rst := by
      have a3 : s0.sn ≤ s0.sn + (b : Int) * l.rst := a3
      omega
    have g := hc i r b (.inl hi) hr2 hb hi _ (Bz.2 ⟨by rw [p1]; exact a1, a2, by show _ ≤ _ + (b : Int) * l.rst; omega, by rw [ed]; exact a4, rfl⟩)
    dsimp only at g ⊢
    rw [p1, ed] at g
    refine g.trans ?_
    have := OH (r := r) (w := (b : Int) * l.rst) (k := (AF m r).2.2.1) hle
    exact this
def VK (X : List Leg) : Nat → List (List Leg)
  | 0 => [[]]
  | n + 1 => [] :: X.flatMap fun x => (VK X n).map (x :: ·)
theorem PC {X : List Leg} : ∀ {n : Nat} {j : List Leg}, j.length ≤ n → (∀ x ∈ j, x ∈ X) → j ∈ VK X n
  | 0, j, h, _ => by
    obtain rfl : j = [] := List.eq_nil_of_length_eq_zero (by omega)
    exact List.mem_singleton.2 rfl
  | _ + 1, [], _, _ => List.mem_cons_self ..
  | n + 1, x :: j, h, hx => List.mem_cons_of_mem _ (List.mem_flatMap.2 ⟨x, hx x (List.mem_cons_self ..), List.mem_map.2 ⟨j, PC (by simp at h; omega) (fun y hy => hx y (List.mem_cons_of_mem _ hy)), rfl⟩⟩)
def Wd (K S : Nat) : List (Plc × Trp) → Prop := fun U => ∀ (p : Plc) (a : Trp), (0 ≤ p.1 ∧ p.1 ≤ (S : Int)) → (0 ≤ p.2 ∧ p.2 ≤ (S : Int)) → (0 ≤ a.1 ∧ a.1 ≤ (S : Int)) → a.2.length ≤ S → (∀ x ∈ a.2, (0 ≤ x.1 ∧ x.1 ≤ (K : Int)) ∧ 0 ≤ x.2 ∧ x.2 ≤ (S : Int)) → (p, a) ∈ U
def Sb (n : Nat) : List Int := (List.range (n + 1)).map Int.ofNat
theorem Hr {n : Nat} {i : Int} (h : 0 ≤ i ∧ i ≤ n) : i ∈ Sb n := List.mem_map.2 ⟨i.toNat, List.mem_range.2 (by omega), by show ((i.toNat : Nat) : Int) = i; omega⟩
theorem UA (K S : Nat) : ∃ U, Wd K S U := by
  refine ⟨(Sb S).flatMap fun p1 => (Sb S).flatMap fun p2 => (Sb S).flatMap fun a1 => (VK ((Sb K).flatMap fun x => (Sb S).map fun y => (x, y)) S).map fun j => ((p1, p2), (a1, j)), ?_⟩
  intro p a h1 h2 h3 h4 h5
  refine List.mem_flatMap.2 ⟨p.1, Hr h1, List.mem_flatMap.2 ⟨p.2, Hr h2, List.mem_flatMap.2 ⟨a.1, Hr h3, List.mem_map.2 ⟨a.2, PC h4 fun x hx => ?_, rfl⟩⟩⟩⟩
  obtain ⟨g1, g2⟩ := h5 x hx
  exact List.mem_flatMap.2 ⟨x.1, Hr g1, List.mem_map.2 ⟨x.2, Hr g2, rfl⟩⟩
open Classical in
noncomputable def pot (U : List (Plc × Trp)) (ts : List Trk) : Nat := (U.filter fun e => decide (¬ Cov ts e.1 e.2)).length
theorem Vj {U : List (Plc × Trp)} {ts ts' : List Trk} (h : ∀ p a, Cov ts p a → Cov ts' p a) : pot U ts' ≤ pot U ts := by
  unfold pot
  induction U with
  | nil => exact Nat.le_refl _
  | cons e U ih =>
    simp only [List.filter_cons]
    by_cases h1 : Cov ts' e.1 e.2
    · rw [if_neg (by simpa using h1)]
      split
      · simp only [List.length_cons]; omega
      · exact ih
    · have h2 : ¬ Cov ts e.1 e.2 := fun x => h1 (h _ _ x)
      rw [if_pos (by simpa using h1), if_pos (by simpa using h2)]
      simp only [List.length_cons]; omega
theorem Tr {U : List (Plc × Trp)} {ts ts' : List Trk} (h : ∀ p a, Cov ts p a → Cov ts' p a) {p : Plc} {a : Trp} (hu : (p, a) ∈ U) (h1 : Cov ts' p a) (h2 : ¬ Cov ts p a) : pot U ts' < pot U ts := by
  induction U with
  | nil => cases hu
  | cons e U ih =>
    have h0 := Vj (U := U) h
    unfold pot at *
    simp only [List.filter_cons]
    rcases List.mem_cons.1 hu with rfl | hu
    · rw [if_neg (by simpa using h1), if_pos (by simpa using h2)]
      simp only [List.length_cons]; omega
    · have := ih hu
      by_cases g1 : Cov ts' e.1 e.2
      · rw [if_neg (by simpa using g1)]
        split
        · simp only [List.length_cons]; omega
        · exact this
      · have g2 : ¬ Cov ts e.1 e.2 := fun x => g1 (h _ _ x)
        rw [if_pos (by simpa using g1), if_pos (by simpa using g2)]
        simp only [List.length_cons]; omega
theorem TI.inU (hm : BE m) (hl : Bi m l) {U : List (Plc × Trp)} (hU : Wd 30 (l.rdy.toNat + 1000 * 6012 + 1000) U) (hlen : ts.length ≤ 6012) {u : Trk} (h1 : Jw m l (JX l) (bgn l) u.2 u.1) (h2 : u.1.sn ≤ l.rdy + 1000 * ts.length) : (u.p, u.a) ∈ U := by
  obtain ⟨hs, hlen2⟩ := Jw.ok hm hl.bgn h1
  have hlen2 : l.rdy + u.2.length ≤ u.1.sn := hlen2
  have ht := hs.t
  have hd := hs.d
  have hn := hs.n
  have hy := hl.y
  have hdr := hl.d
  have hn12 := hm.n
  have hk := hm.k
  have legs : ∀ {j : List Leg} {s s' : Std}, Ng m l s → Jw m l (JX l) s j s' → ∀ x ∈ j, (0 ≤ x.1 ∧ x.1 ≤ 30) ∧ 0 ≤ x.2 ∧ x.2 ≤ s'.sn := by
    intro j
    induction j with
    | nil => intro s s' _ _ x hx; cases hx
    | cons y j ih =>
      rintro s s' hs ⟨a, b, s1, c, d⟩ x hx
      obtain ⟨g1, g2, g3⟩ := hs.go hm a c
      rcases List.mem_cons.1 hx with rfl | hx
      · obtain ⟨a1, a2⟩ := a
        obtain ⟨_, k1⟩ := Jw.ok hm g1 d
        obtain ⟨_, _, _, g4, _⟩ := hm.rd (x := x) ⟨a1, a2⟩
        have hsn := hs.n
        obtain ⟨_, _, a3, _⟩ := Bz.1 c
        exact ⟨⟨a1, by omega⟩, by omega, by omega⟩
      · exact ih g1 d x hx
  refine hU _ _ (by show 0 ≤ u.1.tn ∧ u.1.tn ≤ _; omega) (by show 0 ≤ u.1.dv ∧ u.1.dv ≤ _; omega) (by show 0 ≤ u.1.sn ∧ u.1.sn ≤ _; omega) (by show u.2.length ≤ _; omega) fun x hx => ?_
  obtain ⟨g1, g2, g3⟩ := legs hl.bgn h1 x hx
  exact ⟨g1, g2, by omega⟩
theorem VU {t : Int} (h : ∀ j s, Jw m l (JX l) (bgn l) j s → s.tn ≠ t) : ∀ j s, Jw m l (Iu m l) (bgn l) j s → s.tn ≠ t := fun j s hj => h j s (hj.mono fun _ _ => Og)
theorem TI.best (hm : BE m) (hl : Bi m l) (h : TI m l ts) (hc : Cl3 m l ts ts.length 0 0) {t : Int} {i : Nat} (hi : i < ts.length) (ht : ts[i].1.tn = t) (hmin : ∀ k (_ : k < ts.length), ts[k].1.tn = t → lef ts[i].a ts[k].a) : Bst m l t ts[i].a := by
  refine Bst.of_ref hm hl (s := ts[i].1) (h.so _ (List.getElem_mem hi)) ht rfl fun j' s' h1 h2 => ?_
  obtain ⟨t', ht', hp, hle⟩ := h.fin hc _ j' s' rfl h1
  obtain ⟨k, hk, rfl⟩ := List.mem_iff_getElem.1 ht'
  exact Ib (hmin k hk ((congrArg Prod.fst hp).trans h2)) hle
theorem TI.none (h : TI m l ts) (hc : Cl3 m l ts ts.length 0 0) {t : Int} (hn : ∀ k (_ : k < ts.length), ts[k].1.tn ≠ t) : ∀ j s, Jw m l (Iu m l) (bgn l) j s → s.tn ≠ t := by
  refine VU fun j s hj e => ?_
  obtain ⟨t', ht', hp, _⟩ := h.fin hc _ j s rfl hj
  obtain ⟨k, hk, rfl⟩ := List.mem_iff_getElem.1 ht'
  exact hn k hk ((congrArg Prod.fst hp).trans e)
end
end Go.Proofs.Ytkdjkkimngeloaa
