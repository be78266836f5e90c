/- Texts Gd2 Gd3: what the claims of this seat rest on; each text says what it proves. -/
import Derived.Test.YtmpkiaghkhhlhaaB17

/- Plain law of layer 4: Award's layout is right, and nothing could be added to it; Lay's layout is right, and the first. No program in sight. -/
namespace Go.Proofs.Ytmpkiaghkhhlhaa
open Go.RowKit

theorem chkS_of {g : Gnd} {l : List Pit} {st : List Sit} (hch : (chkP g l).2 = 0) (hl : st.length = l.length) (h : ∀ k, k < l.length → g.siteOK l st k = true) : chkS g l st = (0, 0) := by
  unfold chkS
  rw [if_neg (by simp [hch]), if_neg (by omega), fidx_none fun j hj => by
    have : j < l.length := by simpa using hj
    simp [h j this]]
  rfl
theorem mem_plc {g : Gnd} {p : Pit} {full : List Bool} {k : Nat} {s : Sit} : s ∈ plc g p full k ↔ (∃ i, i < k ∧ s = cand i) ∧ g.bes p s full = true := by
  unfold plc
  rw [List.mem_filter, List.mem_map]
  constructor
  · rintro ⟨⟨i, hi, rfl⟩, h⟩
    exact ⟨⟨i, List.mem_range.1 hi, rfl⟩, h⟩
  · rintro ⟨⟨i, hi, rfl⟩, h⟩
    exact ⟨⟨i, List.mem_range.2 hi, rfl⟩, h⟩
theorem bestS_mem {P : List Sit} {w : Int} {s : Sit} (h : bestS P w = some s) : s ∈ P := by
  unfold bestS at h
  cases e : P.find? fun s => decide (s.1 = w) with
  | some t => rw [e] at h; cases h; exact List.mem_of_find?_eq_some e
  | none =>
    rw [e] at h
    cases P with
    | nil => cases h
    | cons a P => cases h; exact List.mem_cons_self ..
theorem bestS_none {P : List Sit} {w : Int} (h : bestS P w = none) : P = [] := by
  unfold bestS at h
  cases P with
  | nil => rfl
  | cons a P =>
    cases e : (a :: P).find? fun s => decide (s.1 = w) with
    | some t => rw [e] at h; cases h
    | none => rw [e] at h; cases h
theorem bes_fit {g : Gnd} {p : Pit} {s : Sit} {full : List Bool} (h : g.bes p s full = true) : g.fit p s g.grass = true := by
  unfold Gnd.bes at h
  simp only [Bool.and_eq_true] at h
  exact h.1
theorem bes_mono {g : Gnd} {p : Pit} {s : Sit} {full full' : List Bool} (hin : ∀ c ∈ (g.cover p s).1, gb full c = true → gb full' c = true) (h : g.bes p s full' = true) : g.bes p s full = true := by
  unfold Gnd.bes at h ⊢
  simp only [Bool.and_eq_true, List.all_eq_true] at h ⊢
  refine ⟨h.1, fun c hc => ?_⟩
  have := h.2 c hc
  cases e : gb full c with
  | false => rfl
  | true => rw [hin c hc e] at this; cases this
theorem sit_setO {st : List Sit} {p : Nat} {o : Option Sit} {j : Nat} (hp : p < st.length) : sit (setO st p o) j = if j = p then o.getD (sit st p) else sit st j := by
  cases o with
  | none => simp only [setO, Option.getD_none]; split <;> simp [*]
  | some s => simp only [setO, Option.getD_some]; exact sit_set hp
section
variable {g : Gnd} {l : List Pit}
theorem ord_at {k : Nat} (hk : k < l.length) : 0 ≤ gt (order l) k ∧ gt (order l) k < l.length := ((order_spec l).2.2 _).1 (gt_mem (by rw [(order_spec l).2.1]; exact hk))
theorem awK_len (h : (chkP g l).2 = 0) {k : Nat} (hk : k ≤ l.length) : (awK g l k).st.length = l.length := by
  have hA := awK_spec h k hk
  have := hA.ok.st
  rw [hA.el] at this
  exact this
theorem awK_sit (h : (chkP g l).2 = 0) {k : Nat} (hk : k < l.length) {j : Nat} : sit (awK g l (k + 1)).st j = if (j : Int) = gt (order l) k then (bestS (plc g (pt l (gt (order l) k)) (g.takS l (awK g l k).st (-1) l.length) (2 * g.C.length)) (pt l (gt (order l) k)).2.2.2.2).getD (sit (awK g l k).st j) else sit (awK g l k).st j := by
  have := ord_at hk
  rw [awK_succ h hk, sit_setO (by rw [awK_len h (by omega)]; omega)]
  by_cases e : (j : Int) = gt (order l) k
  · have e' : (gt (order l) k).toNat = j := by omega
    rw [if_pos e, if_pos e'.symm, e']
  · rw [if_neg e, if_neg (by omega)]
theorem aw_fits (h : (chkP g l).2 = 0) : ∀ k, k ≤ l.length → ∀ j : Nat, j < l.length → sit (awK g l k).st j = (-1, false) ∨ g.fit (pt l j) (sit (awK g l k).st j) g.grass = true
  | 0, hk, j, hj => .inl ((awK_spec h 0 hk).no j hj (by simp))
  | k + 1, hk, j, hj => by
    have ih := aw_fits h k (by omega) j hj
    rw [awK_sit h (by omega)]
    split
    · rename_i e
      cases eb : bestS (plc g (pt l (gt (order l) k)) (g.takS l (awK g l k).st (-1) l.length) (2 * g.C.length)) (pt l (gt (order l) k)).2.2.2.2 with
      | none => exact ih
      | some s =>
        right
        have := (mem_plc.1 (bestS_mem eb)).2
        rw [e]
        exact bes_fit this
    · exact ih
theorem con_disj {F : Fd} (hc : F.con) {i j : Nat} (hi : i < F.l.length) (hj : j < F.l.length) {c : Int} (h0 : 0 ≤ c) (h1 : c < F.g.C.length) (h2 : c ∈ F.cov i) (h3 : c ∈ F.cov j) : i = j := by
  have a := ((hc c h0 h1).2 i hi).2 h2
  have b := ((hc c h0 h1).2 j hj).2 h3
  omega
theorem fit_pos {p : Pit} {s : Sit} {q : Int → Bool} (h : g.fit p s q = true) : 0 ≤ s.1 := by
  rcases Int.lt_or_le s.1 0 with hlt | hge
  · unfold Gnd.fit at h
    rw [cover_neg hlt] at h
    simp at h
  · exact hge
theorem aw_chk (h : (chkP g l).2 = 0) : chkS g l (awK g l l.length).st = (0, 0) := by
  have hA := awK_spec h l.length (Nat.le_refl _)
  obtain ⟨q1, q2, q3, _⟩ := chkP_ok h
  have hG : Good g l := ⟨q1, q3, q2⟩
  refine chkS_of h (awK_len h (Nat.le_refl _)) fun k hk => ?_
  unfold Gnd.siteOK
  rcases aw_fits h l.length (Nat.le_refl _) k hk with e | e
  · simp [e]
  · have h0 := fit_pos e
    have hin := Gnd.cover_in (s := sit (awK g l l.length).st k) hG.s (hG.pt hk)
    have : g.bes (pt l k) (sit (awK g l l.length).st k) (g.takS l (awK g l l.length).st (-1) k) = true := by
      unfold Gnd.bes
      rw [e, Bool.true_and, List.all_eq_true]
      intro c hc
      cases ef : gb (g.takS l (awK g l l.length).st (-1) k) c with
      | false => rfl
      | true =>
        obtain ⟨c0, c1⟩ := hin c hc
        obtain ⟨j, hj, _, hjc⟩ := (gb_takS hG c0 c1 k (by omega)).1 ef
        have := con_disj hA.con (i := k) (j := j) (by rw [hA.el]; exact hk) (by rw [hA.el]; omega) c0 (by rw [hA.eg]; exact c1) (by unfold Fd.cov; rw [hA.eg, hA.el]; exact hc) (by unfold Fd.cov; rw [hA.eg, hA.el]; exact hjc)
        omega
    rw [this]
    simp [h0]
theorem aw_keep (h : (chkP g l).2 = 0) {k : Nat} : ∀ m, k ≤ m → m ≤ l.length → ∀ j : Nat, j < l.length → sit (awK g l k).st j ≠ (-1, false) → sit (awK g l m).st j = sit (awK g l k).st j := by
  intro m
  induction m with
  | zero => intro h1 _ j _ _; rw [show k = 0 by omega]
  | succ m ih =>
    intro h1 h2 j hj hne
    rcases Nat.lt_or_ge k (m + 1) with hlt | hge
    · have e := ih (by omega) (by omega) j hj hne
      rw [awK_sit h (by omega), if_neg, e]
      intro ej
      have hno := (awK_spec h m (by omega)).no j hj (by rw [ej]; exact (order_min (by rw [(order_spec l).2.1]; omega)).1)
      rw [e] at hno
      exact hne hno
    · rw [show k = m + 1 by omega]
theorem aw_mono (h : (chkP g l).2 = 0) {k m : Nat} (hkm : k ≤ m) (hm : m ≤ l.length) {c : Int} (h0 : 0 ≤ c) (h1 : c < g.C.length) (hf : gb (g.takS l (awK g l k).st (-1) l.length) c = true) : gb (g.takS l (awK g l m).st (-1) l.length) c = true := by
  obtain ⟨q1, q2, q3, _⟩ := chkP_ok h
  have hG : Good g l := ⟨q1, q3, q2⟩
  obtain ⟨j, hj, hb, hc⟩ := (gb_takS hG h0 h1 l.length (Nat.le_refl _)).1 hf
  refine (gb_takS hG h0 h1 l.length (Nat.le_refl _)).2 ⟨j, hj, hb, ?_⟩
  rw [aw_keep h m hkm hm j hj fun e => by rw [e, cover_neg (by decide)] at hc; cases hc]
  exact hc
theorem ord_idx {i : Nat} (hi : i < l.length) : ∃ k, k < l.length ∧ gt (order l) k = i := by
  have hm := ((order_spec l).2.2 (i : Int)).2 ⟨by omega, by omega⟩
  obtain ⟨k, hk, e⟩ := List.getElem_of_mem hm
  exact ⟨k, by rw [← (order_spec l).2.1]; exact hk, by rw [gt_nat hk]; exact e⟩
theorem but_no {st : List Sit} (hG : Good g l) {i : Nat} (hi : (sit st i).1 < 0) {c : Int} (h0 : 0 ≤ c) (h1 : c < g.C.length) : gb (g.takS l st i l.length) c = gb (g.takS l st (-1) l.length) c := by
  have a := gb_takS (st := st) (but := (i : Int)) hG h0 h1 l.length (Nat.le_refl _)
  have b := gb_takS (st := st) (but := -1) hG h0 h1 l.length (Nat.le_refl _)
  have : (∃ j : Nat, j < l.length ∧ (j : Int) ≠ i ∧ c ∈ (g.cover (pt l j) (sit st j)).1) ↔ ∃ j : Nat, j < l.length ∧ (j : Int) ≠ -1 ∧ c ∈ (g.cover (pt l j) (sit st j)).1 := by
    constructor
    · rintro ⟨j, hj, _, hc⟩
      exact ⟨j, hj, by omega, hc⟩
    · rintro ⟨j, hj, _, hc⟩
      refine ⟨j, hj, fun e => ?_, hc⟩
      have : j = i := by omega
      rw [this, cover_neg hi] at hc
      cases hc
  rw [← a, ← b] at this
  cases e1 : gb (g.takS l st i l.length) c <;> cases e2 : gb (g.takS l st (-1) l.length) c <;> simp [e1, e2] at this ⊢
/-- no pitch that is nowhere could be added -/
theorem aw_none (h : (chkP g l).2 = 0) {i : Nat} (hi : i < l.length) (hno : (sit (awK g l l.length).st i).1 < 0) : plc g (pt l i) (g.takS l (awK g l l.length).st i l.length) (2 * g.C.length) = [] := by
  obtain ⟨q1, q2, q3, _⟩ := chkP_ok h
  have hG : Good g l := ⟨q1, q3, q2⟩
  obtain ⟨k, hk, ek⟩ := ord_idx hi
  have hk1 := awK_sit h hk (j := i)
  rw [if_pos ek.symm, ek] at hk1
  have hnone : bestS (plc g (pt l i) (g.takS l (awK g l k).st (-1) l.length) (2 * g.C.length)) (pt l i).2.2.2.2 = none := by
    cases e : bestS (plc g (pt l i) (g.takS l (awK g l k).st (-1) l.length) (2 * g.C.length)) (pt l i).2.2.2.2 with
    | none => rfl
    | some s =>
      rw [e] at hk1
      have hs := bes_is (mem_plc.1 (bestS_mem e)).2
      have hk1' : sit (awK g l (k + 1)).st i = s := hk1
      have := aw_keep h l.length (by omega : k + 1 ≤ l.length) (Nat.le_refl _) i hi (by rw [hk1']; intro q; rw [q] at hs; exact absurd hs (by decide))
      rw [this, hk1'] at hno
      omega
  have hP := bestS_none hnone
  refine List.eq_nil_iff_forall_not_mem.2 fun s hs => ?_
  obtain ⟨hc, hb⟩ := mem_plc.1 hs
  have hin := Gnd.cover_in (s := s) hG.s (hG.pt hi)
  have : s ∈ plc g (pt l i) (g.takS l (awK g l k).st (-1) l.length) (2 * g.C.length) := mem_plc.2 ⟨hc, bes_mono (fun c hc' hf => by
    obtain ⟨c0, c1⟩ := hin c hc'
    rw [but_no hG hno c0 c1]
    exact aw_mono h (by omega) (Nat.le_refl _) c0 c1 hf) hb⟩
  rw [hP] at this
  cases this
theorem takS_no {st : List Sit} {but : Int} : ∀ k, (∀ j : Nat, j < k → (sit st j).1 < 0) → g.takS l st but k = List.replicate g.C.length false
  | 0, _ => rfl
  | k + 1, h => by
    unfold Gnd.takS
    rw [if_pos (.inr (h k (by omega)))]
    exact takS_no k fun j hj => h j (by omega)
/-- the first who chooses has its wish if it fits there at all -/
theorem aw_first (h : (chkP g l).2 = 0) (hl : 0 < l.length) {nst : List Sit} (hn : nst = List.replicate l.length (-1, false)) :
    ((plc g (pt l (gt (order l) 0)) (g.takS l nst (gt (order l) 0) l.length) (2 * g.C.length)).any fun s => decide (s.1 = (pt l (gt (order l) 0)).2.2.2.2)) = decide (0 ≤ (pt l (gt (order l) 0)).2.2.2.2 ∧ (sit (awK g l l.length).st (gt (order l) 0)).1 = (pt l (gt (order l) 0)).2.2.2.2) := by
  have hp := ord_at (l := l) hl
  have h0 := awK_sit h hl (j := (gt (order l) 0).toNat)
  have hno : ∀ j : Nat, j < l.length → (sit nst j).1 < 0 := fun j hj => by rw [hn, sit_rep, if_pos hj]; decide
  have hno0 : ∀ j : Nat, j < l.length → (sit (awK g l 0).st j).1 < 0 := fun j hj => by rw [(awK_spec h 0 (by omega)).no j hj (by simp)]; decide
  have e0 : (((0 : Nat) : Int)) = 0 := rfl
  have hmem : ∀ m, 0 < m → gt (order l) 0 ∈ (order l).take m := by
    intro m hm
    have hlen := (order_spec l).2.1
    generalize order l = L at *
    cases L with
    | nil => simp at hlen; omega
    | cons x t =>
      obtain ⟨m, rfl⟩ : ∃ m', m = m' + 1 := ⟨m - 1, by omega⟩
      exact List.mem_cons_self ..
  rw [e0] at h0
  rw [takS_no _ hno]
  rw [takS_no _ hno0] at h0
  generalize gt (order l) 0 = p at *
  have hpn : ((p.toNat : Nat) : Int) = p := by omega
  rw [hpn, if_pos rfl] at h0
  have hi0 : sit (awK g l 0).st p = (-1, false) := by
    have := (awK_spec h 0 (by omega)).no p.toNat (by omega) (by simp)
    rw [hpn] at this
    exact this
  rw [hi0] at h0
  have hPm : ∀ s ∈ plc g (pt l p) (List.replicate g.C.length false) (2 * g.C.length), 0 ≤ s.1 := fun s hs => bes_is (mem_plc.1 hs).2
  generalize plc g (pt l p) (List.replicate g.C.length false) (2 * g.C.length) = P at *
  generalize (pt l p).2.2.2.2 = w at *
  have hfin : ∀ s, bestS P w = some s → sit (awK g l l.length).st p = s := by
    intro s hs
    rw [hs] at h0
    have h0' : sit (awK g l (0 + 1)).st p = s := h0
    have := aw_keep h l.length (k := 0 + 1) (by omega) (Nat.le_refl _) p.toNat (by omega) (by rw [hpn, h0']; intro q; have := hPm s (bestS_mem hs); rw [q] at this; exact absurd this (by decide))
    rw [hpn, h0'] at this
    exact this
  cases ef : P.find? fun s => decide (s.1 = w) with
  | some s =>
    have hs1 : s.1 = w := by simpa using List.find?_some ef
    have hb : bestS P w = some s := by unfold bestS; rw [ef]; rfl
    have hw := hPm s (bestS_mem hb)
    rw [hfin s hb, decide_eq_true ⟨by omega, hs1⟩]
    exact List.any_eq_true.2 ⟨s, bestS_mem hb, decide_eq_true hs1⟩
  | none =>
    have hnone := List.find?_eq_none.1 ef
    have ha : (P.any fun s => decide (s.1 = w)) = false := by
      rw [List.any_eq_false]
      exact hnone
    rw [ha]
    symm
    rw [decide_eq_false_iff_not]
    rintro ⟨hw, he⟩
    cases eb : bestS P w with
    | some s =>
      have := hnone s (bestS_mem eb)
      rw [hfin s eb] at he
      exact this (decide_eq_true he)
    | none =>
      have hP := bestS_none eb
      -- nothing fits: it stays nowhere
      have hall : ∀ m, 0 + 1 ≤ m → m ≤ l.length → sit (awK g l m).st p = (-1, false) := by
        intro m
        induction m with
        | zero => intro h1; omega
        | succ m ih =>
          intro h1 h2
          rcases Nat.eq_zero_or_pos m with rfl | hm
          · rw [eb] at h0
            exact h0
          · have := awK_sit h (k := m) (by omega) (j := p.toNat)
            rw [hpn] at this
            rw [this, if_neg]
            · exact ih (by omega) (by omega)
            · intro e
              have hlen := (order_spec l).2.1
              have hm1 := (order_min (l := l) (k := m) (by omega)).1
              rw [← e] at hm1
              exact hm1 (hmem m hm)
      rw [hall l.length (by omega) (Nat.le_refl _)] at he
      simp at he
      omega
end
end Go.Proofs.Ytmpkiaghkhhlhaa

/- Plain law of layer 4: Lay's layout is right, has all pitches, and is the first of such. No program in sight. -/
namespace Go.Proofs.Ytmpkiaghkhhlhaa
open Go.RowKit

section
variable {g : Gnd} {l : List Pit}
theorem findSome_in {α β : Type} {f : α → Option β} : ∀ {xs : List α} {y : β}, xs.findSome? f = some y → ∃ A x B, xs = A ++ x :: B ∧ f x = some y ∧ ∀ a ∈ A, f a = none
  | x :: xs, y, e => by
    rw [List.findSome?_cons] at e
    split at e
    · rename_i b hb
      cases e
      exact ⟨[], x, xs, rfl, hb, fun a ha => by cases ha⟩
    · rename_i hb
      obtain ⟨A, x', B, h1, h2, h3⟩ := findSome_in e
      refine ⟨x :: A, x', B, by rw [h1]; rfl, h2, fun a ha => ?_⟩
      rcases List.mem_cons.1 ha with rfl | ha
      · exact hb
      · exact h3 a ha
/-- a right layout so far, in which all are somewhere -/
def okB (g : Gnd) (l : List Pit) (b : List Sit) : Prop := ∀ k : Nat, k < b.length → 0 ≤ (sit b k).1 ∧ g.siteOK l b k = true
theorem okB_next {b : List Sit} {s : Sit} (hb : okB g l b) (hs : g.bes (pt l b.length) s (g.takS l b (-1) b.length) = true) : okB g l (b ++ [s]) := by
  intro k hk
  simp only [List.length_append, List.length_cons, List.length_nil] at hk
  by_cases e : k = b.length
  · subst e
    rw [sit_last]
    refine ⟨bes_is hs, ?_⟩
    unfold Gnd.siteOK
    rw [sit_last, takS_congr (st' := b) b.length fun j hj => sit_app hj, hs]
    simp [bes_is hs]
  · rw [sit_app (by omega), siteOK_congr (st' := b) fun j hj => sit_app (by omega)]
    exact hb k (by omega)
/-- what lay finds begins with what it was given, and is right -/
theorem layS_ok : ∀ (n : Nat) (b out : List Sit), okB g l b → layS g l n b = some out → okB g l out ∧ ∀ j : Nat, j < b.length → sit out j = sit b j
  | 0, b, out, hb, h => by cases h; exact ⟨hb, fun j _ => rfl⟩
  | n + 1, b, out, hb, h => by
    obtain ⟨A, s, B, hP, hs, _⟩ := findSome_in (show (plc g (pt l b.length) (g.takS l b (-1) b.length) (2 * g.C.length)).findSome? (fun s => layS g l n (b ++ [s])) = some out from h)
    have hm : s ∈ plc g (pt l b.length) (g.takS l b (-1) b.length) (2 * g.C.length) := by rw [hP]; simp
    obtain ⟨h1, h2⟩ := layS_ok n (b ++ [s]) out (okB_next hb (mem_plc.1 hm).2) hs
    refine ⟨h1, fun j hj => ?_⟩
    rw [h2 j (by simp; omega), sit_app hj]
/-- later, of two sites -/
def later (s t : Sit) : Prop := t.1 < s.1 ∨ (s.1 = t.1 ∧ s.2 = true)
theorem cand_later {i j : Nat} (h : i < j) : later (cand j) (cand i) := by
  unfold later cand
  have h1 : i / 2 ≤ j / 2 := Nat.div_le_div_right (by omega)
  rcases Nat.lt_or_ge (i / 2) (j / 2) with hl | hg
  · exact .inl (by simp only; omega)
  · refine .inr ⟨by simp only; omega, ?_⟩
    simp only [decide_eq_true_eq]
    omega
theorem cand_ne {i j : Nat} (h : i < j) : cand i ≠ cand j := by
  intro e
  have e1 := congrArg Prod.fst e
  have e2 := congrArg Prod.snd e
  unfold cand at e1 e2
  simp only at e1 e2
  have e3 := decide_eq_decide.1 e2
  omega
theorem plc_sorted {p : Pit} {full : List Bool} {k : Nat} : (plc g p full k).Pairwise fun a b => later b a ∧ a ≠ b := by
  refine List.Pairwise.filter _ ?_
  rw [List.pairwise_map]
  exact List.pairwise_lt_range.imp fun h => ⟨cand_later h, cand_ne h⟩
theorem cover_lt {p : Pit} {s : Sit} (h : (g.cover p s).2 = true) : 0 ≤ s.1 ∧ s.1 ≤ (g.C.length : Int) - 1 := by
  have : ∀ w h' : Int, (g.cov w h' s.1).2 = true → 0 ≤ s.1 ∧ s.1 ≤ (g.C.length : Int) - 1 := by
    intro w h' hc
    unfold Gnd.cov at hc
    split at hc
    · rename_i q; exact q.1
    · cases hc
  unfold Gnd.cover at h
  split at h <;> exact this _ _ h
theorem bes_cand {p : Pit} {s : Sit} {full : List Bool} (h : g.bes p s full = true) : s ∈ plc g p full (2 * g.C.length) := by
  have hf := bes_fit h
  unfold Gnd.fit at hf
  simp only [Bool.and_eq_true] at hf
  obtain ⟨h0, h1⟩ := cover_lt hf.1.1.1
  refine mem_plc.2 ⟨⟨2 * s.1.toNat + (if s.2 = true then 1 else 0), ?_, ?_⟩, h⟩
  · split <;> omega
  · cases s with
    | mk c t =>
      simp only at h0 h1 ⊢
      cases t with
      | false =>
        simp only [Bool.false_eq_true, if_false, Nat.add_zero]
        rw [cand_even, show ((c.toNat : Nat) : Int) = c by omega]
      | true =>
        simp only [if_true]
        rw [cand_odd, show ((c.toNat : Nat) : Int) = c by omega]
/-- of two layouts the one is not after the other -/
def notAfter (n : Nat) (out st : List Sit) : Prop := (∀ j : Nat, j < n → sit out j = sit st j) ∨ ∃ i : Nat, i < n ∧ (∀ j : Nat, j < i → sit out j = sit st j) ∧ sit out i ≠ sit st i ∧ later (sit st i) (sit out i)
theorem layS_first {st : List Sit} (hst : okB g l st) (hl : st.length = l.length) : ∀ (n : Nat) (b : List Sit), okB g l b → b.length + n = l.length → (∀ j : Nat, j < b.length → sit b j = sit st j) → ∃ out, layS g l n b = some out ∧ notAfter l.length out st
  | 0, b, _, hn, hb => ⟨b, rfl, .inl fun j hj => hb j (by omega)⟩
  | n + 1, b, hob, hn, hb => by
    have hs := (hst b.length (by omega)).2
    have hs0 := (hst b.length (by omega)).1
    have hbes : g.bes (pt l b.length) (sit st b.length) (g.takS l b (-1) b.length) = true := by
      unfold Gnd.siteOK at hs
      simp only [Bool.or_eq_true, Bool.and_eq_true, decide_eq_true_eq] at hs
      rcases hs with e | ⟨_, e⟩
      · rw [e] at hs0; exact absurd hs0 (by decide)
      · rw [takS_congr (st' := st) b.length hb]
        exact e
    have hm := bes_cand hbes
    have hob' := okB_next hob hbes
    have hb' : ∀ j : Nat, j < (b ++ [sit st b.length]).length → sit (b ++ [sit st b.length]) j = sit st j := by
      intro j hj
      simp only [List.length_append, List.length_cons, List.length_nil] at hj
      by_cases e : j = b.length
      · rw [e, sit_last]
      · rw [sit_app (by omega)]; exact hb j (by omega)
    obtain ⟨out0, h1, h2⟩ := layS_first hst hl n (b ++ [sit st b.length]) hob' (by simp; omega) hb'
    have hsort := plc_sorted (g := g) (p := pt l b.length) (full := g.takS l b (-1) b.length) (k := 2 * g.C.length)
    have hlay : layS g l (n + 1) b = (plc g (pt l b.length) (g.takS l b (-1) b.length) (2 * g.C.length)).findSome? fun s => layS g l n (b ++ [s]) := rfl
    have hmem : ∀ s ∈ plc g (pt l b.length) (g.takS l b (-1) b.length) (2 * g.C.length), g.bes (pt l b.length) s (g.takS l b (-1) b.length) = true := fun s hs => (mem_plc.1 hs).2
    cases ef : (plc g (pt l b.length) (g.takS l b (-1) b.length) (2 * g.C.length)).findSome? fun s => layS g l n (b ++ [s]) with
    | none =>
      have := List.findSome?_eq_none_iff.1 ef _ hm
      rw [h1] at this
      cases this
    | some out =>
      obtain ⟨A, s, B, hP, hf, hA⟩ := findSome_in ef
      refine ⟨out, by rw [hlay, ef], ?_⟩
      rw [hP] at hm hsort
      rcases List.mem_append.1 hm with h | h
      · have := hA _ h
        rw [h1] at this
        cases this
      · rcases List.mem_cons.1 h with e | h
        · rw [e] at h1
          rw [h1] at hf
          cases hf
          exact h2
        · have hlt := (List.pairwise_cons.1 (List.pairwise_append.1 hsort).2.1).1 _ h
          have hbs := hmem s (by rw [hP]; simp)
          obtain ⟨_, hpre⟩ := layS_ok n (b ++ [s]) out (okB_next hob hbs) hf
          have e1 : sit out b.length = s := by rw [hpre b.length (by simp), sit_last]
          refine .inr ⟨b.length, by omega, fun j hj => ?_, ?_, ?_⟩
          · rw [hpre j (by simp; omega), sit_app hj]
            exact hb j hj
          · rw [e1]; exact hlt.2
          · rw [e1]; exact hlt.1
theorem layS_chk (h : (chkP g l).2 = 0) {out : List Sit} (ho : layS g l l.length [] = some out) : chkS g l out = (0, 0) ∧ out.length = l.length ∧ ∀ j : Nat, j < out.length → 0 ≤ (sit out j).1 := by
  have hl := layS_len _ _ _ ho
  simp at hl
  obtain ⟨h1, _⟩ := layS_ok l.length [] out (fun k hk => by cases hk) ho
  exact ⟨chkS_of h hl fun k hk => (h1 k (by omega)).2, hl, fun j hj => (h1 j hj).1⟩
end
end Go.Proofs.Ytmpkiaghkhhlhaa

