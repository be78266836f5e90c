/- Trimmed by wip/trim.py to what this claim rests on. -/
import Derived.Test.YtkdjkkimngeloaaXVb5
import Derived.Test.YtkdjkkimngeloaaXR1
namespace Go.Proofs.Ytkdjkkimngeloaa
open Go.RowKit
section
variable {σ : Hp}
theorem Rl {n lo hi : Int} : Ad Try.prog HC #[.int .i64 n, .int .i64 lo, .int .i64 hi] σ fun v σ' => v = .bool (decide (lo ≤ n ∧ n ≤ hi)) ∧ σ' = σ := by
  refine IK _ _ _ _ _ ?_
  unfold Ew
  refine BX (fun h => Au ⟨?_, rfl⟩) (fun h => Au ⟨?_, rfl⟩)
  · simp [h]
  · simp [h]
theorem Ds {n lo hi : Int} {K : Bool → Hp → Prop} (h1 : lo ≤ n ∧ n ≤ hi → K true σ) (h2 : ¬ (lo ≤ n ∧ n ≤ hi) → K false σ) : cl Try.prog (.func (.func HC) #[] #[]) #[.int .i64 n, .int .i64 lo, .int .i64 hi] σ fun v σ' => ∃ t : Bool, (v = .bool t ∧ K t σ') :=
  clB GL Rl (by by_cases h : lo ≤ n ∧ n ≤ hi <;> simp only [h] <;> first | exact h1 h | exact h2 h)
theorem Qj {w : MW} {n : Int} (hw : w.pn ≤ 4294967296) : Ad Try.prog HD #[w.v, .int .i64 n] σ fun v σ' => v = .bool (decide (0 ≤ n ∧ n < w.pn)) ∧ σ' = σ := by
  refine IH _ _ _ _ _ _ _ _ _ ?_
  unfold Ey
  refine BA (by omega) (Ds (fun h => Au ⟨?_, rfl⟩) (fun h => Au ⟨?_, rfl⟩))
  · rw [decide_eq_true (by omega)]
  · rw [decide_eq_false (by omega)]
theorem KJ {w : MW} {n : Int} {K : Bool → Hp → Prop} (hw : w.pn ≤ 4294967296) (h1 : 0 ≤ n ∧ n < w.pn → K true σ) (h2 : ¬ (0 ≤ n ∧ n < w.pn) → K false σ) : cl Try.prog (.func (.func HD) #[] #[]) #[w.v, .int .i64 n] σ fun v σ' => ∃ t : Bool, (v = .bool t ∧ K t σ') :=
  clB Gr (Qj hw) (by by_cases h : 0 ≤ n ∧ n < (w.pn : Int) <;> simp only [h] <;> first | exact h1 h | exact h2 h)
theorem Mm {w : MW} {m : Mp} (h : MIn σ w m) (hp : m.pk.length ≤ 4294967296) (hr : m.rs.length ≤ 4294967296) :
    Ad Try.prog H9 #[w.v] σ fun v σ' => v = .int .i64 (eM m) ∧ σ' = σ := by
  refine Gd _ _ _ _ _ _ _ _ ?_
  unfold CI
  have hpn := h.pn
  have hrn := h.rn
  have bad : ¬ MpS m → eM m = 90 := fun hn => by unfold eM; rw [if_neg fun ho => hn (Mp.okB_iff.1 ho)]
  refine An fun J3 h3 => An fun J46 h46 => ?_
  have kbad : ¬ MpS m → J46 true σ := fun hn => by
    rw [h46]
    intro _
    exact Hc (Au ⟨by rw [bad hn], rfl⟩)
  refine Ds (fun g1 => Bm ?_) (fun g1 => Bq (kbad fun hm => g1 (by have := hm.n; omega)))
  by_cases g2 : (30 : Int) < (w.rn : Int)
  · rw [decide_eq_true g2]
    exact kbad fun hm => by have := hm.k; omega
  rw [decide_eq_false g2, h46]
  intro _
  refine GC ?_
  rw [h3]
  clear h3 J3 h46 kbad J46
  intro _
  refine An fun J6 h6 => ?_
  refine ⟨fun q i τ => ∃ k : Nat, q = m.rs.length - k ∧ i = k ∧ k ≤ m.rs.length ∧ τ = σ ∧ ∀ j, (h : j < m.rs.length) → j < k → JT m.pk.length m.rs[j], ⟨_, 0, rfl, rfl, by omega, rfl, fun j _ h => by omega⟩, ?_⟩
  rintro q i τ ⟨k, rfl, rfl, hk, rfl, hj⟩ _
  refine BX (fun hlt => ?_) (fun hge => ?_)
  · have hkl : k < m.rs.length := by omega
    refine An fun J14 h14 => ?_
    refine KN h.r (by omega) (by simpa using hkl) fun r hr => ?_
    simp only [Int.toNat_natCast] at hr
    refine An fun J27 h27 => ?_
    have kb : ¬ JT m.pk.length r → J27 true τ := fun hn => by
      rw [h27]
      intro _
      exact Hc (Au ⟨by rw [bad fun hm => hn (by rw [← hr]; exact hm.r _ (List.getElem_mem hkl))], rfl⟩)
    refine KJ (w := w) (by omega) (fun x1 => Bm ?_) (fun x1 => Bq (kb fun g => x1 (by rw [hpn]; exact g.1)))
    refine KJ (w := w) (by omega) (fun x2 => Bm ?_) (fun x2 => Bq (kb fun g => x2 (by rw [hpn]; exact g.2.1)))
    refine BX (fun x3 => kb fun g => g.2.2.1 x3) (fun x3 => ?_)
    refine Ds (fun x4 => Bm ?_) (fun x4 => Bq (kb fun g => x4 g.2.2.2.1))
    refine Ds (fun x5 => Bm ?_) (fun x5 => Bq (kb fun g => x5 g.2.2.2.2.1))
    refine Ds (fun x6 => ?_) (fun x6 => kb fun g => x6 g.2.2.2.2.2)
    rw [h27]
    intro _
    refine GC ?_
    rw [h14]
    intro _
    refine BA (by omega) (Dr _ (by omega) ⟨k + 1, rfl, rfl, by omega, rfl, fun j h' hjk => ?_⟩)
    rcases Nat.lt_or_ge j k with a | a
    · exact hj j h' a
    · obtain rfl : j = k := by omega
      rw [hr]
      rw [hpn] at x1 x2
      exact ⟨x1, x2, x3, x4, x5, x6⟩
  · rw [h6]
    intro _
    refine Au ⟨?_, rfl⟩
    unfold eM
    rw [if_pos]
    refine Mp.okB_iff.2 ⟨by omega, by omega, fun r hr1 => ?_⟩
    obtain ⟨j, hjl, rfl⟩ := List.mem_iff_getElem.1 hr1
    exact hj j hjl (by omega)
theorem K7 {w : MW} {m : Mp} {l : Lry} (h : MIn σ w m) (hp : m.pk.length ≤ 4294967296) :
    Ad Try.prog Gs #[w.v, l.v] σ fun v σ' => v = .int .i64 (eL m l) ∧ σ' = σ := by
  refine Fj _ _ _ _ _ _ _ _ _ _ _ _ _ _ ?_
  unfold Cd
  have hpn := h.pn
  refine An fun J3 h3 => An fun J6 h6 => ?_
  have kb : ¬ Bj m l → J6 true σ := fun hn => by
    rw [h6]
    intro _
    refine Hc (Au ⟨?_, rfl⟩)
    unfold eL
    rw [if_neg fun g => hn (Hv.1 g)]
  refine Ds (fun g1 => Bm ?_) (fun g1 => Bq (kb fun g => g1 g.h))
  refine Ds (fun g2 => Bm ?_) (fun g2 => Bq (kb fun g => g2 g.w))
  refine KJ (w := w) (by omega) (fun g3 => Bm ?_) (fun g3 => Bq (kb fun g => g3 (by rw [hpn]; exact g.f)))
  refine Ds (fun g4 => Bm ?_) (fun g4 => Bq (kb fun g => g4 g.y))
  refine Ds (fun g5 => Bm ?_) (fun g5 => Bq (kb fun g => g5 g.d))
  refine Ds (fun g6 => ?_) (fun g6 => kb fun g => g6 g.s)
  rw [h6]
  intro _
  refine GC ?_
  rw [h3]
  intro _
  refine Au ⟨?_, rfl⟩
  unfold eL
  rw [hpn] at g3
  rw [if_pos (Hv.2 ⟨g1, g2, g3, g4, g5, g6⟩)]
theorem Q8 {m : Mp} {l : Lry} : eC m [l] = if eM m = 0 then eL m l else eM m := by
  unfold eC eM eL
  by_cases h1 : m.okB = true
  · rw [if_pos h1, if_pos h1, if_pos rfl]
    simp
  · rw [if_neg h1, if_neg h1]
    rfl
theorem K9 {w : MW} {m : Mp} {l : Lry} (h : MIn σ w m) (hp : m.pk.length ≤ 4294967296) (hr : m.rs.length ≤ 4294967296) :
    Ad Try.prog JI #[w.v, l.v] σ fun v σ' => v = .int .i64 (eC m [l]) ∧ σ' = σ := by
  refine H8 _ _ _ _ _ _ _ _ _ _ _ _ _ _ ?_
  unfold DT
  rw [Q8]
  refine clI EY (Mm h hp hr) (CB (fun e => Au ⟨by rw [if_neg e], rfl⟩) (fun e => ?_))
  exact clI D0 (K7 h hp) (Au ⟨by rw [if_pos e], rfl⟩)
theorem Qu {r : Rdt} {l : Lry} : Ad Try.prog HB #[l.v, rdV r] σ fun v σ' => v = .bool (decide (Dl l r)) ∧ σ' = σ := by
  refine Iy _ _ _ _ _ _ _ _ _ _ _ _ _ ?_
  unfold E2 Dl
  refine BX (fun h => Au ⟨?_, rfl⟩) (fun h => Au ⟨?_, rfl⟩)
  · simp [h]
  · simp [h]
theorem Qi {r : Rdt} {l : Lry} {K : Bool → Hp → Prop} (h1 : Dl l r → K true σ) (h2 : ¬ Dl l r → K false σ) : cl Try.prog (.func (.func HB) #[] #[]) #[l.v, rdV r] σ fun v σ' => ∃ t : Bool, (v = .bool t ∧ K t σ') :=
  clB Gn Qu (by by_cases h : Dl l r <;> simp only [h] <;> first | exact h1 h | exact h2 h)
theorem Qd {w : MW} {m : Mp} {l : Lry} {r : Int} (h : MIn σ w m) (hp : m.pk.length ≤ 4294967296) (hr : m.rs.length ≤ 4294967296) :
    Ad Try.prog Kr #[w.v, l.v, .int .i64 r] σ fun v σ' => v = .tuple #[.bool (C3 m l r).1, .int .i64 (C3 m l r).2] ∧ σ' = σ := by
  refine Iz _ _ _ _ _ _ _ _ _ _ _ _ _ _ _ ?_
  unfold ET
  have hrn := h.rn
  refine clI C4 (K9 h hp hr) (CB (fun e => Au ⟨?_, rfl⟩) (fun e0 => ?_))
  · have hf : C3 m l r = (false, eC m [l]) := by unfold C3; rw [if_neg e]
    rw [hf]
  refine BA (by omega) (Ds (fun g => Bm ?_) (fun g => Bq (Au ⟨?_, rfl⟩)))
  · have hk : r.toNat < m.rs.length := by omega
    refine KN h.r g.1 hk fun x hx => ?_
    have e : AE m r = x := by rw [NM hk]; exact hx
    have hf : C3 m l r = (decide (Dl l (AE m r)), 0) := by unfold C3; rw [if_pos e0, if_pos (by omega)]
    refine Qi (r := x) (l := l) (fun hh => Au ⟨?_, rfl⟩) (fun hh => Au ⟨?_, rfl⟩)
    · rw [hf, e, decide_eq_true hh]
    · rw [hf, e, decide_eq_false hh]
  · have hf : C3 m l r = (false, 1) := by unfold C3; rw [if_pos e0, if_neg (by omega)]
    rw [hf]
end
end Go.Proofs.Ytkdjkkimngeloaa
