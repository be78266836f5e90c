/- Trimmed by wip/trim.py to what this claim rests on. -/
import Derived.Test.YtkdjkkimngeloaaYVb12
namespace Go.Proofs.Ytkdjkkimngeloaa
open Go.RowKit
def Sn (m : Mp) (l : Lry) (t : Int) (c : Cst) : Prop := (∃ p, p.1 = t ∧ Rc m l p c) ∧ ∀ p c', p.1 = t → Rc m l p c' → ¬ clt c' c
def Non (m : Mp) (l : Lry) (t : Int) : Prop := ∀ p c, p.1 = t → ¬ Rc m l p c
theorem Jn {n i : Nat} {seen : List Nat} (hi : i < n) (hs : i ∉ seen) : ((List.range n).filter fun j => decide (j ∉ seen ++ [i])).length < ((List.range n).filter fun j => decide (j ∉ seen)).length := by
  have e : ((List.range n).filter fun j => decide (j ∉ seen ++ [i])) = ((List.range n).filter fun j => decide (j ∉ seen)).filter fun j => decide (j ∉ seen ++ [i]) := by
    rw [List.filter_filter]
    refine List.filter_congr fun j _ => ?_
    by_cases h1 : j ∈ seen <;> simp [h1]
  rw [e]
  refine List.length_filter_lt_length_iff_exists.2 ⟨i, ?_, by simp⟩
  rw [List.mem_filter]
  exact ⟨List.mem_range.2 hi, by simpa using hs⟩
theorem Hq {out : List (Plc × Cst)} (hn : (out.map Prod.fst).Nodup) {i : Nat} (hi : i < out.length) : lkA out out[i].1 = some out[i].2 := N6 hn (List.getElem_mem hi)
section
variable {σ : Hp}
set_option maxRecDepth 100000 in
theorem Hs {w : MW} {m : Mp} {l : Lry} {t : Int} (h : MIn σ w m) (hm : BH m) (hl : A0 m l) : Ad Try.prog EF #[atV w l, .int .i64 t] σ fun v σ' => ∃ c b, v = .tuple #[AG c, .bool b] ∧ σ' = σ ∧ (b = true → Sn m l t c ∧ cOK c) ∧ (b = false → Non m l t) := by
  refine DA _ _ _ _ _ _ _ _ _ _ _ _ _ _ _ ?_
  unfold Bv
  refine Ai fun J3 h3 => ?_
  refine Bp BM (MA h hm hl) ?_
  rintro v σ8 ⟨mb, out, rfl, hb, hL, hcb⟩
  refine ⟨_, rfl, ?_⟩
  obtain ⟨f1, f2, hk⟩ := N5
  refine Oi hk hb.get fun b10 n10 => ?_
  refine ⟨fun q b a1 a2 τ => ∃ seen : List Nat, q = ((List.range out.length).filter fun j => decide (j ∉ seen)).length ∧ Blk b10 (.mapIter (some mb) out.length ⟨seen⟩ out.length) σ8 τ ∧ (∀ i ∈ seen, i < out.length) ∧ (b = false → ∀ i (_ : i < out.length), i ∈ seen → out[i].1.1 ≠ t) ∧
    (b = true → (∃ p, p.1 = t ∧ lkA out p = some (a1, a2)) ∧ ∀ i (_ : i < out.length), i ∈ seen → out[i].1.1 = t → ¬ clt out[i].2 (a1, a2)), ⟨_, [], rfl, ⟨n10, rfl⟩, fun i hi => (by cases hi), fun _ i _ hi => (by cases hi), fun hh => (by cases hh)⟩, ?_⟩
  rintro q b a1 a2 τ ⟨seen, rfl, hit, hsn, hno, hyes⟩ _
  have gm : τ mb = some (mpo AG out, true) := hit.sub _ _ hb.get
  refine Ph gm hit.get (fun hall => Es ?_) (fun i hi hns vs => Gm ?_)
  · rw [h3]
    intro _
    refine BJ (hb.sub.trans hit.sub) ⟨(a1, a2), b, rfl, rfl, fun e => ?_, fun e p c hp hrc => ?_⟩
    · obtain ⟨⟨p, hp, hlk⟩, hmin⟩ := hyes e
      refine ⟨⟨⟨p, hp, hL.so _ _ hlk⟩, fun p' c' hp' hrc => ?_⟩, hcb _ _ hlk⟩
      obtain ⟨c2, g1, g2⟩ := hL.le _ _ hrc
      obtain ⟨i, hi, ei⟩ := List.mem_iff_getElem.1 (Gy g1)
      have := hmin i hi (hall i hi) (by rw [ei]; exact hp')
      rw [ei] at this
      exact CB this g2
    · obtain ⟨c2, g1, g2⟩ := hL.le _ _ hrc
      obtain ⟨i, hi, ei⟩ := List.mem_iff_getElem.1 (Gy g1)
      exact hno e i hi (hall i hi) (by rw [ei]; exact hp)
  · have hit2 : Blk b10 (.mapIter (some mb) out.length ⟨seen ++ [i]⟩ out.length) σ8 (τ.ins b10 (.mapIter (some mb) out.length ⟨seen ++ [i]⟩ out.length)) := hit.upd
    generalize τ.ins b10 (.mapIter (some mb) out.length ⟨seen ++ [i]⟩ out.length) = τ2 at hit2 ⊢
    refine O5 (E := out) (en := AG) (hit2.sub _ _ hb.get) hit2.get hi ?_
    refine ⟨_, _, rfl, _, _, rfl, ?_⟩
    refine Ai fun J30 h30 => ?_
    have hlt := Jn hi hns
    have hsn2 : ∀ j ∈ seen ++ [i], j < out.length := fun j hj => by
      rcases List.mem_append.1 hj with hj | hj
      · exact hsn j hj
      · rw [List.mem_singleton] at hj; omega
    have hci := hcb _ _ (Hq hL.nd hi)
    have kt : out[i].1.1 = t → (b = true → clt out[i].2 (a1, a2)) → J30 true τ2 := by
      intro ht hc
      rw [h30]
      intro _
      refine Gm (CN _ hlt ⟨seen ++ [i], rfl, hit2, hsn2, fun e => (by cases e), fun _ => ⟨⟨out[i].1, ht, Hq hL.nd hi⟩, fun j hj hjs hjt => ?_⟩⟩)
      rcases List.mem_append.1 hjs with hjs | hjs
      · cases b with
        | false => exact absurd hjt (hno rfl j hj hjs)
        | true => exact fun x => (hyes rfl).2 j hj hjs hjt (Be x (hc rfl))
      · rw [List.mem_singleton] at hjs
        subst hjs
        exact AO
    have kf : (out[i].1.1 = t → b = true ∧ ¬ clt out[i].2 (a1, a2)) → J30 false τ2 := by
      intro hc
      rw [h30]
      intro _
      refine Es (CN _ hlt ⟨seen ++ [i], rfl, hit2, hsn2, fun e j hj hjs => ?_, fun e => ⟨(hyes e).1, fun j hj hjs hjt => ?_⟩⟩)
      · rcases List.mem_append.1 hjs with hjs | hjs
        · exact hno e j hj hjs
        · rw [List.mem_singleton] at hjs
          subst hjs
          intro x
          have := (hc x).1
          rw [e] at this
          cases this
      · rcases List.mem_append.1 hjs with hjs | hjs
        · exact (hyes e).2 j hj hjs hjt
        · rw [List.mem_singleton] at hjs
          subst hjs
          exact (hc hjt).2
    refine Bn (fun ht => ?_) (fun ht => kf fun x => absurd x ht)
    cases b with
    | false => exact Dv (kt ht fun e => by cases e)
    | true =>
      refine Dk ?_
      obtain ⟨⟨p, hp, hlk⟩, _⟩ := hyes rfl
      refine Cx (c := out[i].2) (d := (a1, a2)) hci (hcb _ _ hlk) ?_
      by_cases hc : clt out[i].2 (a1, a2)
      · rw [decide_eq_true (ER.2 hc)]
        exact kt ht fun _ => hc
      · rw [decide_eq_false fun x => hc (ER.1 x)]
        exact kf fun _ => ⟨rfl, hc⟩
end
end Go.Proofs.Ytkdjkkimngeloaa
