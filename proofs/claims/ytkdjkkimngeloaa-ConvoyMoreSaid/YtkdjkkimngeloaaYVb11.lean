/- Trimmed by wip/trim.py to what this claim rests on. -/
import Derived.Test.YtkdjkkimngeloaaYVb10
namespace Go.Proofs.Ytkdjkkimngeloaa
open Go.RowKit
def qof (xs : List Stp) : List (Plc × Cst) := xs.map fun x => (Stp.p x, Stp.c x)
theorem GH {xs : List Stp} {e : Plc × Cst} : e ∈ qof xs ↔ ∃ x ∈ xs, (Stp.p x, Stp.c x) = e := List.mem_map
theorem I2 {xs ys : List Stp} (h : xs.Perm ys) (e : Plc × Cst) : e ∈ qof xs ↔ e ∈ qof ys := (h.map _).mem_iff
theorem GD {m : Mp} {l : Lry} (hm : BH m) (hl : A0 m l) : (Jg m l).length ≤ 6012 := by
  unfold Jg
  have key : ∀ n : Nat, ((List.range n).flatMap fun t : Nat => (List.range (l.dr.toNat + 1)).map fun u : Nat => (((t : Nat) : Int), ((u : Nat) : Int))).length = n * (l.dr.toNat + 1) := by
    intro n
    induction n with
    | zero => simp
    | succ n ih =>
      rw [show List.range (n + 1) = List.range n ++ [n] from List.range_succ, List.flatMap_append, List.length_append, ih, Nat.add_mul]
      simp
  rw [key]
  have h1 := hm.n
  have h2 := hl.d
  have h3 : l.dr.toNat + 1 ≤ 501 := by omega
  exact Nat.le_trans (Nat.mul_le_mul h1.2 h3) (by decide)
structure SI (m : Mp) (l : Lry) (out : List (Plc × Cst)) (D : List (Plc × Int)) (xs : List Stp) : Prop where
  dj : DJ m l out (D.map Prod.fst) (qof xs)
  ho : HO xs xs.length
  one : ∀ e ∈ D, e.2 = 1
  ub : ∀ x ∈ xs, (Stp.c x).1 ≤ 1000 * D.length
  ob : ∀ p c, lkA out p = some c → c.1 ≤ 1000 * D.length
  un : und m l (D.map Prod.fst) + D.length ≤ (Jg m l).length
  ql : xs.length ≤ 60 * D.length + 1
structure SJ (m : Mp) (l : Lry) (p : Plc) (c : Cst) (n0 k : Nat) (out : List (Plc × Cst)) (D : List (Plc × Int)) (xs : List Stp) : Prop where
  dj : DJI m l p c k out (D.map Prod.fst) (qof xs)
  ho : HO xs xs.length
  one : ∀ e ∈ D, e.2 = 1
  ub : ∀ x ∈ xs, (Stp.c x).1 ≤ 1000 * D.length
  ob : ∀ p c, lkA out p = some c → c.1 ≤ 1000 * D.length
  cb : c.1 + 1000 ≤ 1000 * D.length
  un : und m l (D.map Prod.fst) + D.length ≤ (Jg m l).length
  ql : xs.length + 60 ≤ 60 * D.length + 1 + k
  n0 : xs.length ≤ n0 + k
theorem IK {m : Mp} {l : Lry} (hm : BH m) (hl : A0 m l) {p : Plc} {c : Cst} {n : Nat} (h : Rc m l p c) (h1 : c.1 ≤ 1000 * n) (h2 : n ≤ 6012) : cOK c := by
  obtain ⟨_, _, a, b⟩ := h.ok hm hl
  exact ⟨by omega, by omega⟩
theorem SI.dl {m : Mp} {l : Lry} {out : List (Plc × Cst)} {D : List (Plc × Int)} {xs : List Stp} (h : SI m l out D xs) (hm : BH m) (hl : A0 m l) : D.length ≤ 6012 := by
  have := h.un
  have := GD hm hl
  omega
theorem SI.cs {m : Mp} {l : Lry} {out : List (Plc × Cst)} {D : List (Plc × Int)} {xs : List Stp} (h : SI m l out D xs) (hm : BH m) (hl : A0 m l) : JL xs := fun x hx =>
  IK hm hl (h.dj.qs _ (GH.2 ⟨x, hx, rfl⟩)).1 (h.ub x hx) (h.dl hm hl)
theorem SI.init {m : Mp} {l : Lry} : SI m l [((l.fr, 0), (0, 0))] [] [(l.fr, 0, 0, 0)] := by
  refine ⟨DJ.init, fun i h0 h1 => ?_, fun e he => (by cases he), fun x hx => ?_, fun p c h => ?_, ?_, by simp⟩
  · have h1 : i < 1 := h1
    omega
  · rw [List.mem_singleton] at hx
    subst hx
    exact Int.le_refl _
  · unfold lkA at h
    split at h
    · cases h; exact Int.le_refl _
    · cases h
  · show (List.filter _ _).length + 0 ≤ _
    exact List.length_filter_le ..
theorem SI.skip {m : Mp} {l : Lry} {out : List (Plc × Cst)} {D : List (Plc × Int)} {xs ys : List Stp} {x : Stp} (h : SI m l out D xs) (hp : (x :: ys).Perm xs) (ho : HO ys ys.length) (hx : Stp.p x ∈ D.map Prod.fst) : SI m l out D ys := by
  have hlen := hp.length_eq
  simp only [List.length_cons] at hlen
  have := h.ql
  exact ⟨(h.dj.perm (q' := qof (x :: ys)) (I2 hp)).skip hx, ho, h.one, fun y hy => h.ub y (hp.mem_iff.1 (List.mem_cons_of_mem _ hy)), h.ob, h.un, by omega⟩
theorem SI.pop {m : Mp} {l : Lry} {out : List (Plc × Cst)} {D : List (Plc × Int)} {xs ys : List Stp} (hm : BH m) (hl : A0 m l) (h : SI m l out D xs) (h0 : 0 < xs.length) (hp : (gs xs 0 :: ys).Perm xs) (ho : HO ys ys.length) (hx : Stp.p (gs xs 0) ∉ D.map Prod.fst) :
    SJ m l (Stp.p (gs xs 0)) (Stp.c (gs xs 0)) ys.length 0 out (upA D (Stp.p (gs xs 0)) 1) ys ∧ und m l ((upA D (Stp.p (gs xs 0)) 1).map Prod.fst) < und m l (D.map Prod.fst) := by
  have hlen := hp.length_eq
  simp only [List.length_cons] at hlen
  have hql := h.ql
  have hnone : lkA D (Stp.p (gs xs 0)) = none := IQ.2 hx
  have eD := Im (v := (1 : Int)) hnone
  have hmem : ∀ p, p ∈ (upA D (Stp.p (gs xs 0)) 1).map Prod.fst ↔ p ∈ Stp.p (gs xs 0) :: D.map Prod.fst := fun p => by rw [eD]; simp [or_comm]
  have hund : ∀ dn dn' : List Plc, (∀ p, p ∈ dn ↔ p ∈ dn') → und m l dn = und m l dn' := fun dn dn' hh => by
    unfold und
    have : (fun p : Plc => decide (p ∉ dn)) = fun p => decide (p ∉ dn') := funext fun p => by simp [hh p]
    rw [this]
  have eL : (upA D (Stp.p (gs xs 0)) 1).length = D.length + 1 := by rw [eD]; simp
  have hin : gs xs 0 ∈ xs := by rw [C1 h0]; exact List.getElem_mem h0
  obtain ⟨hrc, _⟩ := h.dj.qs _ (GH.2 ⟨_, hin, rfl⟩)
  obtain ⟨hb1, hb2, _⟩ := hrc.ok hm hl
  have hlt : und m l (Stp.p (gs xs 0) :: D.map Prod.fst) < und m l (D.map Prod.fst) := QG (K1 hb1 hb2) hx
  have hmin : ∀ e ∈ qof ys, ¬ clt e.2 (Stp.c (gs xs 0)) := fun e he => by
    obtain ⟨y, hy, rfl⟩ := GH.1 he
    have hyx : y ∈ xs := hp.mem_iff.1 (List.mem_cons_of_mem _ hy)
    obtain ⟨i, hi, rfl⟩ := List.mem_iff_getElem.1 hyx
    have := h.ho.min i hi
    rw [C1 hi] at this
    exact this
  obtain ⟨hj, _⟩ := (h.dj.perm (q' := qof (gs xs 0 :: ys)) (I2 hp)).pop (x := (Stp.p (gs xs 0), Stp.c (gs xs 0))) (q := qof ys) hmin hx
  · refine ⟨⟨?_, ho, fun e he => ?_, fun y hy => ?_, fun p c hc => ?_, ?_, ?_, by omega, by omega⟩, ?_⟩
    · exact ⟨hj.nd, hj.b, hj.so, hj.qs, fun p c a b => hj.un p c a (fun x => b ((hmem p).2 x)), fun p hp => hj.cl p ((hmem p).1 hp), ⟨hj.me.1, (hmem _).2 hj.me.2.1, hj.me.2.2⟩, fun p hp => hj.md p ((hmem p).1 hp), hj.mq⟩
    · rw [eD] at he
      rcases List.mem_append.1 he with he | he
      · exact h.one e he
      · rw [List.mem_singleton] at he
        subst he
        rfl
    · have := h.ub y (hp.mem_iff.1 (List.mem_cons_of_mem _ hy))
      rw [eL]
      omega
    · have := h.ob p c hc
      rw [eL]
      omega
    · have := h.ub _ hin
      rw [eL]
      omega
    · rw [hund _ _ hmem, eL]
      have := h.un
      omega
    · rw [hund _ _ hmem]
      exact hlt
theorem SJ.done {m : Mp} {l : Lry} {p : Plc} {c : Cst} {n0 : Nat} {out : List (Plc × Cst)} {D : List (Plc × Int)} {xs : List Stp} (hm : BH m) (h : SJ m l p c n0 (wys m l p).length out D xs) : SI m l out D xs := by
  have := h.ql
  have := Kn (l := l) (p := p) hm
  exact ⟨h.dj.done, h.ho, h.one, h.ub, h.ob, h.un, by omega⟩
theorem SJ.pass {m : Mp} {l : Lry} {p : Plc} {c : Cst} {n0 k : Nat} {out : List (Plc × Cst)} {D : List (Plc × Int)} {xs : List Stp} (h : SJ m l p c n0 k out D xs) (hk : k < (wys m l p).length) (hge : ∃ c', lkA out (wys m l p)[k].to = some c' ∧ ¬ clt (cad c (wys m l p)[k]) c') : SJ m l p c n0 (k + 1) out D xs := by
  have h1 := h.ql
  have h2 := h.n0
  exact ⟨h.dj.pass hk hge, h.ho, h.one, h.ub, h.ob, h.cb, h.un, by omega, by omega⟩
theorem SJ.push {m : Mp} {l : Lry} {p : Plc} {c : Cst} {n0 k : Nat} {out : List (Plc × Cst)} {D : List (Plc × Int)} {xs ys : List Stp} (hm : BH m) (hl : A0 m l) (h : SJ m l p c n0 k out D xs) (hk : k < (wys m l p).length) (hlt : ∀ c', lkA out (wys m l p)[k].to = some c' → clt (cad c (wys m l p)[k]) c')
    (hp : ys.Perm (stp (wys m l p)[k].to (cad c (wys m l p)[k]) :: xs)) (ho : HO ys ys.length) : SJ m l p c n0 (k + 1) (upA out (wys m l p)[k].to (cad c (wys m l p)[k])) D ys := by
  have h1 := h.ql
  have h2 := h.n0
  have h3 := h.cb
  have hlen := hp.length_eq
  simp only [List.length_cons] at hlen
  have ht := (EQ hm hl (List.getElem_mem hk)).2.1
  refine ⟨(h.dj.push hm hl hk hlt).perm (I2 hp), ho, h.one, fun y hy => ?_, fun p' c' hc => ?_, h.cb, h.un, by omega, by omega⟩
  · rcases List.mem_cons.1 (hp.mem_iff.1 hy) with rfl | hy
    · show c.1 + (wys m l p)[k].tk ≤ _
      omega
    · exact h.ub y hy
  · rw [AX] at hc
    split at hc
    · cases hc
      show c.1 + (wys m l p)[k].tk ≤ _
      omega
    · exact h.ob p' c' hc
end Go.Proofs.Ytkdjkkimngeloaa
