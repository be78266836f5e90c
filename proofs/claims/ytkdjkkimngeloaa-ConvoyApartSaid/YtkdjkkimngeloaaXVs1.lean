/- Trimmed by wip/trim.py to what this claim rests on. -/
import Derived.Test.YtkdjkkimngeloaaXVb9
import Derived.Test.YtkdjkkimngeloaaXQs0
namespace Go.Proofs.Ytkdjkkimngeloaa
open Go.RowKit Go.Shelf Go.Sort Go.Lib
theorem Sat.aheadS {B : Nat} {w0 w : World} {M : List Nat} {σ : Hp} (h : Sat B w0 M σ w) (n : Nat) : Sat B w0 M σ (Sort.ahead w n) :=
  ⟨⟨h.below.os, h.below.tape, h.below.output, h.below.size, h.below.block⟩, h.base, h.marks, h.nodup, h.holds, Nat.le_add_right_of_le h.drew⟩
theorem Sat.grow {B : Nat} {w0 w : World} {M : List Nat} {σ : Hp} (h : Sat B w0 M σ w) (os : Array Obj) : Sat B w0 M σ (Sort.grow w os) := by
  have key : ∀ (k : Nat) (o : Obj), w.heap[k]? = some o → (w.heap ++ os)[k]? = some o := fun k o e => by
    have := (Array.getElem?_eq_some_iff.1 e).1
    rw [Array.getElem?_append_left this]
    exact e
  refine ⟨⟨h.below.os, h.below.tape, h.below.output, ?_, fun k hk => ?_⟩, h.base, fun m hm => ⟨key _ _ (h.marks m hm).1, (h.marks m hm).2⟩, h.nodup, fun b o rw e => ⟨key _ _ (h.holds b o rw e).1, (h.holds b o rw e).2⟩, h.drew⟩
  · have := h.below.size
    show w0.heap.size ≤ (w.heap ++ os).size
    rw [Array.size_append]
    omega
  · rw [← h.below.block k hk]
    have h1 := h.base
    have h2 := h.below.size
    show (w.heap ++ os)[k]? = _
    rw [Array.getElem?_append_left (by omega)]
theorem Sat.mapB {B : Nat} {w0 w : World} {M : List Nat} {σ : Hp} (h : Sat B w0 M σ w) {b : Nat} {c : Array Value} {e : TypeId} {fr : Nat × Nat} (hb : σ b = some (.cells c e fr, true)) (f : Array Value → Array Value) : Sat B w0 M (σ.ins b (.cells (f c) e fr)) (mapBlock w b f) := by
  have h1 := h.setObj hb (.cells (f c) e fr)
  have e1 : ({ w with heap := w.heap.setIfInBounds b (.cells (f c) e fr) } : World) = mapBlock w b f := by
    have hw := (h.holds _ _ _ hb).1
    have hlt := (Array.getElem?_eq_some_iff.1 hw).1
    unfold mapBlock
    congr 1
    apply Array.ext_getElem?
    intro i
    rw [Array.getElem?_setIfInBounds, Array.getElem?_modify]
    by_cases hi : b = i
    · subst hi
      rw [if_pos rfl, if_pos rfl, if_pos hlt, hw]
      rfl
    · rw [if_neg hi, if_neg hi]
  rw [e1] at h1
  exact h1
theorem Jc {P : Program} {f : FuncId} {args : Array Value} {σ : Hp} (hc : ∀ w : World, Calls P f args w fun x w' => x = .returned (.tuple #[]) ∧ w' = w) : Af P f args σ fun v σ' => v = .tuple #[] ∧ σ' = σ := by
  intro σc hs B w0 M w hw
  refine (hc w).mono ?_
  rintro x w' ⟨rfl, rfl⟩
  exact ⟨.tuple #[], σc, rfl, ⟨σ, ⟨rfl, rfl⟩, Frm.refl hs⟩, hw⟩
theorem N7 {α : Type} [Inhabited α] {enc : α → List Value} {ss : List Sh} {tr : α → TyR ss} (he : ∀ x, enc x = B9 ss (tr x)) {w : World} {b off : Nat} {cells : Array Value} {e : TypeId} {d : List α} (hw : w.heap[b]? = some (.cells cells e (0, 0))) (hr : Row cells off ss (d.map tr)) : HoldsK enc ss.length w b off d.toArray := by
  intro j hj
  rw [size_flatK] at hj
  have hj' : j < (d.map tr).length * ss.length := by simpa using hj
  have h1 := hr.to_flat j hj'
  have hw0 : 0 < ss.length := by
    rcases Nat.eq_zero_or_pos ss.length with e | e
    · rw [e] at hj; omega
    · exact e
  have hd1 : j / ss.length < d.length := Nat.div_lt_of_lt_mul (by rw [Nat.mul_comm]; simpa using hj)
  have hd2 := Nat.mod_lt j hw0
  have h2 : (Cd ss (d.map tr))[j]? = some (id (flatK enc ss.length d.toArray)[j]!) := by
    rw [get_flatK _ _ _ _ hj]
    have h3 : j / ss.length * ss.length + j % ss.length = j := by rw [Nat.mul_comm]; exact Nat.div_add_mod j ss.length
    have h4 := Gm ss (d.map tr) (j / ss.length) (j % ss.length) (by simpa using hd1) hd2
    rw [h3] at h4
    rw [h4]
    have h5 : d.toArray[j / ss.length]! = d[j / ss.length] := by rw [getElem!_pos _ _ (by simpa using hd1)]; rfl
    rw [h5, he]
    simp only [List.getElem_map, id]
    have h6 : j % ss.length < (B9 ss (tr d[j / ss.length])).length := by rw [Bv]; exact hd2
    rw [List.getElem?_eq_getElem h6, getElem!_pos (B9 ss (tr d[j / ss.length])) (j % ss.length) h6]
  refine ⟨?_, ?_⟩
  · unfold World.cell?
    rw [hw]
    show (if _ then none else cells[off + j]?) = _
    rw [h1, h2]
    rfl
  · unfold World.frozen?
    rw [hw]
    show (decide (0 ≤ off + j) && decide (off + j < 0)) = false
    simp
theorem Ri {α : Type} [Inhabited α] {enc : α → List Value} {ss : List Sh} {tr : α → TyR ss} (he : ∀ x, enc x = B9 ss (tr x)) {off : Nat} {cells : Array Value} {d : List α} (hsz : off + d.length * ss.length ≤ cells.size) : (putCells id off (flatK enc ss.length d.toArray) cells).size = cells.size ∧ Row (putCells id off (flatK enc ss.length d.toArray) cells) off ss (d.map tr) := by
  refine ⟨by simp [putCells], Row.of_flat fun i hi => ?_⟩
  have hi' : i < d.length * ss.length := by simpa using hi
  have hw0 : 0 < ss.length := by
    rcases Nat.eq_zero_or_pos ss.length with e | e
    · rw [e] at hi'; omega
    · exact e
  have hd1 : i / ss.length < d.length := Nat.div_lt_of_lt_mul (by rw [Nat.mul_comm]; exact hi')
  have hd2 := Nat.mod_lt i hw0
  unfold putCells
  rw [Array.getElem?_mapIdx, Array.getElem?_eq_getElem (by omega), Option.map_some, if_pos ⟨by omega, by rw [size_flatK]; simpa using hi'⟩, Nat.add_sub_cancel_left, get_flatK _ _ _ _ (by simpa using hi')]
  have h3 : i / ss.length * ss.length + i % ss.length = i := by rw [Nat.mul_comm]; exact Nat.div_add_mod i ss.length
  have h4 := Gm ss (d.map tr) (i / ss.length) (i % ss.length) (by simpa using hd1) hd2
  rw [h3] at h4
  rw [h4]
  have h5 : d.toArray[i / ss.length]! = d[i / ss.length] := by rw [getElem!_pos _ _ (by simpa using hd1)]; rfl
  rw [h5, he]
  simp only [List.getElem_map, id]
  have h6 : i % ss.length < (B9 ss (tr d[i / ss.length])).length := by rw [Bv]; exact hd2
  rw [List.getElem?_eq_getElem h6, getElem!_pos (B9 ss (tr d[i / ss.length])) (i % ss.length) h6]
def ro (W : World) : Hp := fun b => (W.heap[b]?).map fun o => (o, false)
theorem QH {W : World} {b : Nat} {o : Obj} (h : W.heap[b]? = some o) : ro W b = some (o, false) := by unfold ro; rw [h]; rfl
theorem PM {P : Program} {g : FuncId} {args : Array Value} {r : Value} {W : World} (h : Af P g args (ro W) fun v _ => v = r) : Calls P g args W fun e w' => e = .returned r ∧ ∃ (q : Nat) (os : Array Obj), w' = Sort.grow (W.drewN q) os := by
  refine (h (ro W) (Hp.Sub.refl _) W.heap.size W [] W ⟨Below.refl _ _, Nat.le_refl _, fun m hm => (by cases hm), List.nodup_nil, fun b o rw h => ?_, Nat.le_refl _⟩).mono ?_
  · unfold ro at h
    cases hb : W.heap[b]? with
    | none => rw [hb] at h; cases h
    | some x =>
      rw [hb] at h
      cases h
      exact ⟨rfl, fun e => (by cases e), fun _ => (Array.getElem?_eq_some_iff.1 hb).1⟩
  rintro e w' ⟨v, σ', rfl, ⟨_, rfl, _⟩, hs⟩
  refine ⟨rfl, w'.drawn - W.drawn, w'.heap.extract W.heap.size w'.heap.size, ?_⟩
  obtain ⟨b1, b2, b3, b4, b5⟩ := hs.below
  have hd := hs.drew
  have hh : w'.heap = W.heap ++ w'.heap.extract W.heap.size w'.heap.size := by
    apply Array.ext_getElem?
    intro i
    rw [Array.getElem?_append]
    by_cases hi : i < W.heap.size
    · rw [if_pos hi]; exact b5 i hi
    · rw [if_neg hi, Array.getElem?_extract]
      by_cases h2 : i < w'.heap.size
      · rw [if_pos (by omega)]
        congr 1
        omega
      · rw [if_neg (by omega), Array.getElem?_eq_none (by omega)]
  unfold Sort.grow World.drewN
  obtain ⟨hp', tp', dr', os', ou'⟩ := w'
  obtain ⟨hp, tp, dr, os, ou⟩ := W
  simp only at b1 b2 b3 b4 hd hh ⊢
  subst b1 b2 b3
  congr 1
  omega
theorem Jd {P : Program} {f : FuncId} {args : Array Value} {e : TypeId} {ss : List Sh} {σ0 : Hp} {A : Option Addr} {n c b off : Nat} {cells : Array Value} {G : List (TyR ss) → Prop}
    (hA : A = some ⟨b, off, none⟩) (hnc : n ≤ c) (hb : σ0 b = none) (hsz : off + c * ss.length ≤ cells.size)
    (hc : ∀ w : World, w.heap[b]? = some (.cells cells e (0, 0)) → (∀ k o rw, σ0 k = some (o, rw) → w.heap[k]? = some o) → Calls P f args w fun x w' => x = .returned (.tuple #[]) ∧ ∃ (ys : List (TyR ss)) (F : Array Value → Array Value) (q : Nat) (os : Array Obj), G ys ∧ n = ys.length ∧ (F cells).size = cells.size ∧ Row (F cells) off ss ys ∧ w' = Sort.grow (mapBlock (Sort.ahead w q) b F) os) :
    Af P f args (σ0.ins b (.cells cells e (0, 0))) fun v σ' => v = .tuple #[] ∧ ∃ ys, G ys ∧ Ap e ss σ0 A n c ys σ' := by
  intro σc hs B w0 M w hw
  have hbc : σc b = some (.cells cells e (0, 0), true) := hs _ _ (Hp.ins_same ..)
  refine (hc w (hw.holds _ _ _ hbc).1 fun k o rw hk => (hw.holds _ _ _ (hs _ _ (by rw [Hp.ins_ne _ (fun e1 => by rw [e1, hb] at hk; cases hk)]; exact hk))).1).mono ?_
  rintro x w' ⟨rfl, ys, F, q, os, hG, hn, hF, hr, rfl⟩
  refine ⟨.tuple #[], σc.ins b (.cells (F cells) e (0, 0)), rfl, ⟨σ0.ins b (.cells (F cells) e (0, 0)), ⟨rfl, ys, hG, .inr ⟨b, off, F cells, hA, hn, hnc, hb, rfl, by omega, hr⟩⟩, ?_, ?_⟩, ((hw.aheadS q).mapB hbc F).grow os⟩
  · intro k y hk
    by_cases e1 : k = b
    · subst e1; rw [Hp.ins_same] at hk ⊢; exact hk
    · rw [Hp.ins_ne _ e1] at hk ⊢
      exact hs _ _ (by rw [Hp.ins_ne _ e1]; exact hk)
  · intro k y h1 h2
    have e1 : k ≠ b := fun e1 => by rw [e1, Hp.ins_same] at h1; cases h1
    rw [Hp.ins_ne _ e1] at h1
    rw [Hp.ins_ne _ e1, Hp.ins_ne _ e1]
    exact ⟨h2, h1⟩
end Go.Proofs.Ytkdjkkimngeloaa
