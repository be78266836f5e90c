/- Trimmed by wip/trim.py to what this claim rests on. -/
import Derived.Test.YtkdjkkimngeloaaZKc1
namespace Go.Proofs.Ytkdjkkimngeloaa
open Go.RowKit Go.ChangeShapes Go.WideShapes Go.Deep Go.Joins
section
variable {H : Type} {enc : TypeId × Value → H} {W : World} {sp : Nat → Bool} {hd : Bool}
theorem QI {P : Program} {t e : TypeId} {ss : List Sh} {Q : TyR ss → Prop} {fuel : Nat} {v : Value} {y : DataW H × List MemPlace} (ht : P.underlying t = some (.slice e)) (he : ∀ (n : Nat) (sp : Nat → Bool) (hd : Bool) (cs : List Value) (y : DataW H × List MemPlace), DataW.trod enc P W 0 sp hd n e cs = some y → ∃ x : TyR ss, cs = B8 ss x ∧ Q x) (hC : P.cellsOf e = ss.length) (hpos : 0 < ss.length)
    (h : DataW.trod enc P W 0 sp hd fuel t [v] = some y) : ∃ A n c xs, v = .slice A n c ∧ n ≤ c ∧ RdS ss (E6 W) A n xs ∧ ∀ x ∈ xs, Q x := by
  rcases open_slice ht h with ⟨h0, _⟩ | ⟨a, len, cap, m, n, D, Pl, hcs, _, hlc, _, hm, _, hel⟩
  · cases h0
    exact ⟨none, 0, 0, [], rfl, Nat.le_refl _, ⟨rfl, .inl rfl⟩, fun x hx => (by cases hx)⟩
  · cases hcs
    have hml : len ≤ m := by rw [hm]; split <;> omega
    have hx : ∀ i, i < len → ∃ x : TyR ss, W.cells? 0 (a.add (i * P.cellsOf e)) (P.cellsOf e) = some (B8 ss x) ∧ Q x := by
      intro i hi
      obtain ⟨cs', h1, h2⟩ := hel i (by omega)
      obtain ⟨x, rfl, hq⟩ := he _ _ _ _ _ h2
      exact ⟨x, h1, hq⟩
    cases len with
    | zero => exact ⟨_, _, _, [], rfl, Nat.zero_le _, ⟨rfl, .inl rfl⟩, fun x hx => (by cases hx)⟩
    | succ len =>
      obtain ⟨x0, hx0, _⟩ := hx 0 (by omega)
      obtain ⟨X, hX'⟩ := @choose_lt _ ⟨x0⟩ (len + 1) _ hx
      have hX := fun i hi => (hX' i hi).1
      have hcell : ∀ i j, i < len + 1 → j < ss.length → W.cell? ((a.add (i * ss.length)).add j) = (B8 ss (X i))[j]? := by
        intro i j hi hj
        have h1 := hX i hi
        rw [hC] at h1
        exact (World.cells?_some h1).2.2 j hj
      have hc0 := hcell 0 0 (by omega) hpos
      have e0 : (a.add (0 * ss.length)).add 0 = a := by
        rw [Nat.zero_mul]
        rfl
      rw [e0] at hc0
      have hs0 : (B8 ss (X 0))[0]? = some ((B8 ss (X 0))[0]'(by rw [Bv]; exact hpos)) := List.getElem?_eq_getElem _
      rw [hs0] at hc0
      have hc1 := hc0
      unfold World.cell? at hc1
      split at hc1
      · rename_i c el f hb
        split at hc1
        · cases hc1
        · rename_i hspot
          have hsn : a.spot = none := by
            cases e : a.spot with
            | none => rfl
            | some _ => rw [e] at hspot; exact absurd rfl hspot
          refine ⟨some a, len + 1, cap, (List.range (len + 1)).map X, rfl, hlc, ⟨by simp, .inr ⟨a.block, a.off, c, el, f, false, ?_, M3 hb, ?_⟩⟩, fun x hx => ?_⟩
          · obtain ⟨b, o, s⟩ := a
            cases hsn
            rfl
          · intro i j hi hj
            simp only [List.length_map, List.length_range] at hi
            have h1 := hcell i j hi hj
            rw [Kb hsn, Kb rfl] at h1
            unfold World.cell? at h1
            simp only [hb] at h1
            simp only [List.getElem_map, List.getElem_range]
            rw [← h1]
            simp [Nat.add_assoc]
          · obtain ⟨i, hi, rfl⟩ := List.mem_map.1 hx
            exact (hX' i (List.mem_range.1 hi)).2
      · cases hc1
def Wl (W : World) (x : TyR [.slc]) : Prop := ∃ j : List Leg, RdS sJ (E6 W) x.1 x.2.1 j
set_option maxRecDepth 100000 in
theorem VP {n : Nat} {cs : List Value} {y : DataW H × List MemPlace} (h : DataW.trod enc Try.prog W 0 sp hd n 32 cs = some y) : ∃ x : TyR [.slc], cs = B8 [.slc] x ∧ Wl W x := by
  have h1 : cs.length = 1 := by
    rcases open_slice Try.underlying32 h with ⟨h0, _⟩ | ⟨a, len, cap, m, n, D, Pl, hcs, _⟩
    · rw [h0]; rfl
    · rw [hcs]; rfl
  match cs, h1 with
  | [c0], _ =>
    obtain ⟨A, n', c', j, rfl, _, hj⟩ := FP Try.underlying32 UL (by kernel_rfl) (by decide) h
    exact ⟨(A, n', c'), rfl, j, hj⟩
set_option maxRecDepth 100000 in
theorem Sw {v : Value} {d : DataW H} {p : List MemPlace} {b0 : Nat} (hv : Value.okWide Try.prog W .any b0 65 v) (h : DataW.Trod enc Try.prog W 0 sp hd 65 v d p) :
    ∃ (t g : Int) (oA : Option Addr) (on oc : Nat) (os : List Int) (jA : Option Addr) (jn jc : Nat) (js : List (List Leg)), v = .agg #[.int .i64 t, .int .i64 g, .slice oA on oc, .slice jA jn jc] ∧ on ≤ oc ∧ RdS [.int .i64] (E6 W) oA on os ∧ Wc (E6 W) jA jn js := by
  obtain ⟨cs, rfl, hsz⟩ := okWide_struct Try.underlying65 hv
  obtain ⟨fuel, hf⟩ := h
  have hf : DataW.trod enc Try.prog W 0 sp hd fuel 65 cs.toList = some (d, p) := hf
  obtain ⟨xs, m, _, _, hcl, hxl, hg⟩ := DataW.trod_struct Try.underlying65 hf
  have h4 : cs.toList.length = 4 := by rw [hcl]; kernel_rfl
  obtain ⟨cl, hcs⟩ : ∃ cl, cs.toList = cl := ⟨_, rfl⟩
  rw [hcs] at hg h4
  match cl, h4 with
  | [c0, c1, c2, c3], _ =>
    have hx : ∀ i, i < 3 → xs[i]? = some (xs[i]?.getD (.agg [], [])) := fun i hi => by
      have : i < xs.length := by rw [hxl]; exact hi
      rw [List.getElem?_eq_getElem this]
      rfl
    have g0 := hg 0 _ rfl
    have g1 := hg 1 _ rfl
    have g2 := hg 2 _ rfl
    rw [hx 0 (by omega)] at g0
    rw [hx 1 (by omega)] at g1
    rw [hx 2 (by omega)] at g2
    have k2 : Try.prog.cellsOf 62 = 2 := by kernel_rfl
    have k1 : Try.prog.cellsOf 45 = 1 := by kernel_rfl
    have k3 : Try.prog.cellsOf 63 = 1 := by kernel_rfl
    have g0 : DataW.trod enc Try.prog W 0 sp hd m 62 (([c0, c1, c2, c3].drop 0).take (Try.prog.cellsOf 62)) = _ := g0
    have g1 : DataW.trod enc Try.prog W 0 sp hd m 45 (([c0, c1, c2, c3].drop 2).take (Try.prog.cellsOf 45)) = _ := g1
    have g2 : DataW.trod enc Try.prog W 0 sp hd m 63 (([c0, c1, c2, c3].drop 3).take (Try.prog.cellsOf 63)) = _ := g2
    rw [k2] at g0
    rw [k1] at g1
    rw [k3] at g2
    have ew : Gn Try.prog 62 [.int .i64, .int .i64] := Gn.struct Try.underlying62 (by kernel_rfl) (by kernel_rfl) (by kernel_rfl)
    obtain ⟨x, e0⟩ := ew _ _ _ _ _ _ _ _ _ (show DataW.trod enc Try.prog W 0 sp hd m 62 [c0, c1] = _ from g0)
    have e0 : [c0, c1] = [Value.int .i64 x.1, .int .i64 x.2] := e0
    simp only [List.cons.injEq, and_true] at e0
    obtain ⟨rfl, rfl⟩ := e0
    obtain ⟨oA, on, oc, os, rfl, hoc, ho⟩ := FP Try.underlying45 UO (by kernel_rfl) (by decide) (show DataW.trod enc Try.prog W 0 sp hd m 45 [c2] = _ from g1)
    obtain ⟨jA, jn, jc, ss, rfl, _, hr, hq⟩ := QI (Q := Wl W) Try.underlying63 (fun n sp hd cs y h => VP h) (by kernel_rfl) (by decide) (show DataW.trod enc Try.prog W 0 sp hd m 63 [c3] = _ from g2)
    have hq' : ∀ i, i < ss.length → ∃ j : List Leg, ∀ z : TyR [.slc], ss[i]? = some z → RdS sJ (E6 W) z.1 z.2.1 j := fun i hi => by
      obtain ⟨j, hj⟩ := hq _ (List.getElem_mem hi)
      refine ⟨j, fun z hz => ?_⟩
      rw [List.getElem?_eq_getElem hi] at hz
      cases hz
      exact hj
    obtain ⟨F, hF⟩ := choose_lt hq'
    refine ⟨x.1, x.2, oA, on, oc, os, jA, jn, jc, (List.range ss.length).map F, congrArg Value.agg (Array.toList_inj.1 hcs), hoc, ho, ss, hr, Eq.symm ((List.length_map ..).trans (List.length_range ..)), fun i h1 h2 => ?_⟩
    rw [List.getElem_map, List.getElem_range]
    exact hF i h1 _ (List.getElem?_eq_getElem h1)
end
end Go.Proofs.Ytkdjkkimngeloaa
