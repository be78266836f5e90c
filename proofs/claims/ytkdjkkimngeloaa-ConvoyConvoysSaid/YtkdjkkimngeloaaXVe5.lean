/- Trimmed by wip/trim.py to what this claim rests on. -/
import Derived.Test.YtkdjkkimngeloaaXVd2
import Derived.Test.YtkdjkkimngeloaaXVe1
import Derived.Test.YtkdjkkimngeloaaXVa5
import Derived.Test.YtkdjkkimngeloaaXVb9
import Derived.Test.YtkdjkkimngeloaaXVb17
import Derived.Test.YtkdjkkimngeloaaXVa6
namespace Go.Proofs.Ytkdjkkimngeloaa
open Go.RowKit
def cE (m : Mp) (ls : List Lry) (t g : Int) : Int := if eT m ls t = 0 then (if 0 ≤ g ∧ g ≤ 100 then 0 else 1) else eT m ls t
theorem SH {m : Mp} {l : Lry} (hm : MpS m) (hl : BC m l) : eC m [l] = 0 := by
  unfold eC
  rw [if_pos (Mp.okB_iff.2 hm), if_pos (by simp [GE.2 hl])]
section
variable {σ : Hp}
set_option maxRecDepth 20000 in
theorem KN {w : MW} {m : Mp} {t g : Int} {A : Option Addr} {n c : Nat} {ls : List LrT} (h : MIn σ w m) (hp : m.pk.length ≤ 4294967296) (hr : m.rs.length ≤ 4294967296) (hl : RdS sL σ A n ls) :
    Ag Try.prog G9 #[w.v, .slice A n c, .int .i64 t, .int .i64 g] σ fun v σ' => v = .int .i64 (cE m (ls.map AN) t g) ∧ σ' = σ := by
  refine Ft _ _ _ _ _ _ _ _ _ _ _ _ _ ?_
  unfold Cr
  have hn := hl.lenL
  have hpn := h.pn
  have e90 : m.okB = false → cE m (ls.map AN) t g = 90 := fun ho => by
    have : eT m (ls.map AN) t = 90 := by unfold eT; rw [ho]; rfl
    unfold cE
    rw [this, if_neg (by decide)]
  refine clI CY (Kd h hp hr) ?_
  by_cases ho : m.okB = true
  case neg =>
    have ho : m.okB = false := by simpa using ho
    have : eM m = 90 := by unfold eM; rw [ho]; rfl
    rw [this]
    exact Bz (fun _ => Aw ⟨by rw [e90 ho], rfl⟩) (fun g => absurd g (by decide))
  have e0 : eM m = 0 := by unfold eM; rw [if_pos ho]
  rw [e0]
  refine Bz (fun g => absurd rfl g) (fun _ => ?_)
  have hm := Mp.okB_iff.1 ho
  refine Bm (fun h8 => Aw ⟨?_, rfl⟩) (fun h8 => ?_)
  · have : eT m (ls.map AN) t = 2 := by unfold eT; rw [if_pos ho, if_pos (by rw [List.length_map]; omega)]
    unfold cE
    rw [this, if_neg (by decide)]
  have eT0 : eT m (ls.map AN) t = if (ls.map AN).all (lrB m.pk.length) = true then (if 0 ≤ t ∧ t < m.pk.length then 0 else 1) else 91 := by
    unfold eT
    rw [if_pos ho, if_neg (by rw [List.length_map]; omega)]
  refine Ah fun J6 h6 => ?_
  refine ⟨fun q i τ => ∃ k : Nat, q = ls.length - k ∧ i = k ∧ k ≤ ls.length ∧ τ = σ ∧ ∀ j (_ : j < ls.length), j < k → lrB m.pk.length (AN ls[j]) = true, ⟨_, 0, rfl, rfl, Nat.zero_le _, rfl, fun j _ hj => absurd hj (Nat.not_lt_zero _)⟩, ?_⟩
  rintro q i τ ⟨k, rfl, rfl, hk, rfl, hx⟩ _
  refine Bm (fun hlt => ?_) (fun hge => ?_)
  · have hkl : k < ls.length := by omega
    refine N6 hl (by omega) (by simpa using hkl) ?_
    simp only [Int.toNat_natCast]
    refine clI Cv (HL (l := AN ls[k]) h hp) ?_
    by_cases hb : lrB m.pk.length (AN ls[k]) = true
    · have : eL m (AN ls[k]) = 0 := by unfold eL; rw [if_pos hb]
      rw [this]
      refine Bz (fun g => absurd rfl g) (fun _ => AU (by omega) (Cf _ (by omega) ⟨k + 1, rfl, rfl, by omega, rfl, fun j hj hjk => ?_⟩))
      by_cases ej : j = k
      · subst ej; exact hb
      · exact hx j hj (by omega)
    · have : eL m (AN ls[k]) = 91 := by unfold eL; rw [if_neg hb]
      rw [this]
      refine Bz (fun _ => Aw ⟨?_, rfl⟩) (fun g => absurd g (by decide))
      have : eT m (ls.map AN) t = 91 := by
        rw [eT0, if_neg fun ha => hb (List.all_eq_true.1 ha _ (List.mem_map_of_mem (List.getElem_mem hkl)))]
      unfold cE
      rw [this, if_neg (by decide)]
  · have ha : (ls.map AN).all (lrB m.pk.length) = true := by
      refine List.all_eq_true.2 fun x hx2 => ?_
      obtain ⟨y, hy, rfl⟩ := List.mem_map.1 hx2
      obtain ⟨j, hj, rfl⟩ := List.mem_iff_getElem.1 hy
      exact hx j hj (by omega)
    rw [if_pos ha] at eT0
    rw [h6]
    intro _
    refine Ah fun J9 h9 => Ah fun J12 h12 => ?_
    have kb : ¬ ((0 ≤ t ∧ t < m.pk.length) ∧ (0 ≤ g ∧ g ≤ 100)) → J12 true τ := fun hn => by
      rw [h12]
      intro _
      refine FM (Aw ⟨?_, rfl⟩)
      unfold cE
      by_cases ht : 0 ≤ t ∧ t < m.pk.length
      · rw [eT0, if_pos ht, if_pos rfl, if_neg fun hg => hn ⟨ht, hg⟩]
      · rw [eT0, if_neg ht, if_neg (by decide)]
    refine JL (w := w) (by omega) (fun g1 => BB ?_) (fun g1 => Bw (kb fun g => g1 (by rw [hpn]; exact g.1)))
    refine Dk (fun g2 => ?_) (fun g2 => kb fun g => g2 g.2)
    rw [h12]
    intro _
    refine En ?_
    rw [h9]
    intro _
    refine Aw ⟨?_, rfl⟩
    have ht : 0 ≤ t ∧ t < m.pk.length := by rw [← hpn]; exact g1
    rw [if_pos ht] at eT0
    unfold cE
    rw [eT0, if_pos rfl, if_pos g2]
set_option maxRecDepth 20000 in
theorem JU {w : MW} {m : Mp} {t g : Int} {A A' : Option Addr} {n c n' c' : Nat} {ls : List LrT} {js : List (List Leg)} (h : MIn σ w m) (hp : m.pk.length ≤ 4294967296) (hr : m.rs.length ≤ 4294967296) (hl : RdS sL σ A n ls)
    (hj : Hw σ A' n' js) (hjl : ∀ j ∈ js, j.length ≤ 4294967296) :
    Ag Try.prog G5 #[w.v, .slice A n c, .int .i64 t, .int .i64 g, .slice A' n' c'] σ fun v σ' => v = .tuple #[.int .i64 (cnv m (ls.map AN) t g js).1, .int .i64 (cnv m (ls.map AN) t g js).2] ∧ σ' = σ := by
  refine FF _ _ _ _ _ _ _ _ _ _ _ _ _ _ _ _ ?_
  unfold Ct
  have hn := hl.lenL
  have hn' := hj.len
  refine clI Ef (KN h hp hr hl) ?_
  refine Bz (fun e => Aw ⟨?_, rfl⟩) (fun e => ?_)
  · unfold cnv
    unfold cE at e ⊢
    by_cases e1 : eT m (ls.map AN) t = 0
    · rw [if_pos e1] at e ⊢
      by_cases e2 : 0 ≤ g ∧ g ≤ 100
      · rw [if_pos e2] at e
        exact absurd rfl e
      · rw [if_neg e2, if_pos e1, if_neg fun x => e2 x.1]
    · rw [if_neg e1, if_neg e1]
  obtain ⟨e1, e2⟩ : eT m (ls.map AN) t = 0 ∧ 0 ≤ g ∧ g ≤ 100 := by
    unfold cE at e
    by_cases e1 : eT m (ls.map AN) t = 0
    · rw [if_pos e1] at e
      by_cases e2 : 0 ≤ g ∧ g ≤ 100
      · exact ⟨e1, e2⟩
      · rw [if_neg e2] at e
        cases e
    · rw [if_neg e1] at e
      exact absurd e e1
  obtain ⟨hm, h8, hlo, ht⟩ := PX e1
  rw [List.length_map] at h8
  refine Bz (fun g2 => Aw ⟨?_, rfl⟩) (fun g2 => ?_)
  · unfold cnv
    rw [if_pos e1, if_neg fun x => g2 (by rw [List.length_map] at x; omega)]
  have g2 : js.length = ls.length := by omega
  have hc : cnv m (ls.map AN) t g js = KM m t g 0 0 (ls.map AN) js := by
    unfold cnv
    rw [if_pos e1, if_pos (by rw [List.length_map]; exact ⟨e2, g2⟩)]
  refine Ah fun J6 h6 => ?_
  refine ⟨fun q b i τ => ∃ k : Nat, q = ls.length - k ∧ i = k ∧ k ≤ ls.length ∧ τ = σ ∧ (0 ≤ b ∧ b ≤ 200000) ∧ cnv m (ls.map AN) t g js = KM m t g k b ((ls.map AN).drop k) (js.drop k), ⟨_, 0, rfl, rfl, by omega, rfl, by omega, by rw [hc]; rfl⟩, ?_⟩
  rintro q b i τ ⟨k, rfl, rfl, hk, rfl, hb, hw⟩ _
  refine Bm (fun hlt => ?_) (fun hge => ?_)
  · have hkl : k < ls.length := by omega
    refine Ah fun J15 h15 => ?_
    refine N6 hl (by omega) (by simpa using hkl) ?_
    simp only [Int.toNat_natCast]
    refine OD hj (by omega) (by simp; omega) fun A n c hjk => ?_
    simp only [Int.toNat_natCast] at hjk
    have hlk : BC m (AN ls[k]) := hlo _ (List.mem_map_of_mem (List.getElem_mem hkl))
    have ea : (ls.map AN).drop k = AN ls[k] :: (ls.map AN).drop (k + 1) := by
      rw [List.drop_eq_getElem_cons (by rw [List.length_map]; exact hkl), List.getElem_map]
    have eb : js.drop k = js[k]'(by omega) :: js.drop (k + 1) := List.drop_eq_getElem_cons (by omega)
    refine BN DW (Ju (l := AN ls[k]) h hp hr hjk (hjl _ (List.getElem_mem _))) ?_
    rintro v σ' ⟨rfl, rfl⟩
    have ec : Pf m (AN ls[k]) (js[k]'(by omega)) = jrn m (AN ls[k]) (js[k]'(by omega)) := by
      unfold Pf
      rw [if_pos (SH hm hlk)]
    rw [ec]
    rw [ea, eb] at hw
    unfold KM at hw
    have hbn := OE (l := AN ls[k]) hm.ok hlk (j := js[k]'(by omega))
    generalize jrn m (AN ls[k]) (js[k]'(by omega)) = q at hw hbn ⊢
    refine ⟨_, _, _, _, rfl, Bz (fun g3 => Aw ⟨?_, rfl⟩) (fun g3 => ?_)⟩
    · rw [hw, if_neg g3]
    · rw [if_pos g3] at hw
      refine Ah fun J39 h39 => Ah fun J42 h42 => ?_
      have k42 : ∀ z, (z = false ↔ q.1 = t ∧ ¬ (0 < (k : Int) ∧ q.2.1 < b + g)) → J42 z σ' := by
        intro z hz
        rw [h42]
        intro _
        refine Hv (fun ez => Aw ⟨?_, rfl⟩) (fun ez => ?_)
        · rw [hw, if_neg fun x => by have := hz.2 x; rw [ez] at this; cases this]
        · rw [if_pos (hz.1 ez)] at hw
          rw [h39]
          intro _
          rw [h15]
          intro _
          exact AU (by omega) (Cf _ (by omega) ⟨k + 1, rfl, rfl, by omega, rfl, hbn, hw⟩)
      refine Bz (fun g4 => k42 true ⟨fun x => (by cases x), fun x => absurd x.1 g4⟩) (fun g4 => ?_)
      refine Bm (fun g5 => AU (by omega) (k42 _ ?_)) (fun g5 => k42 false ⟨fun _ => ⟨g4, fun x => g5 x.1⟩, fun _ => rfl⟩)
      rw [decide_eq_false_iff_not]
      exact ⟨fun x => ⟨g4, fun y => x y.2⟩, fun x y => x.2 ⟨g5, y⟩⟩
  · rw [h6]
    intro _
    refine Aw ⟨?_, rfl⟩
    have : k = ls.length := by omega
    subst this
    rw [hw, List.drop_eq_nil_of_le (by rw [List.length_map]; exact Nat.le_refl _)]
    unfold KM
    rfl
set_option maxRecDepth 20000 in
theorem Nr {A : Option Addr} {n c : Nat} {js : List (List Leg)} (hj : Hw σ A n js) (hl : js.length ≤ 4294967296) (hjl : ∀ j ∈ js, j.length ≤ 4294967296) : Ag Try.prog EQ #[.slice A n c] σ fun v σ' => ∃ A' n' c', v = .slice A' n' c' ∧ Hp.Sub σ σ' ∧ Hw σ' A' n' js := by
  refine GV _ _ _ _ _ ?_
  unfold C7
  have hn := hj.len
  refine Ah fun J3 h3 => ?_
  refine ⟨fun q (xs : List (Option Addr × Nat × Nat)) i τ => ∃ k : Nat, q = js.length - k ∧ i = k ∧ k ≤ js.length ∧ Hp.Sub σ τ ∧ xs.length = k ∧ ∀ z (h1 : z < xs.length) (h2 : z < js.length), RdS sJ τ xs[z].1 xs[z].2.1 js[z], ⟨js.length, [], σ, AB.nil .., 0, rfl, rfl, Nat.zero_le _, Hp.Sub.refl _, rfl, fun z h1 => absurd h1 (Nat.not_lt_zero _)⟩, ?_⟩
  rintro q xs i τ ⟨k, rfl, rfl, hk, hs, hxl, hx⟩ _
  refine Bm (fun hlt => ?_) (fun hge => ?_)
  · have hkl : k < js.length := by omega
    refine OD (hj.up hs) (by omega) (by simpa using hkl) fun A1 n1 c1 hjk => ?_
    simp only [Int.toNat_natCast] at hjk
    have hjk2 := hjl _ (List.getElem_mem hkl)
    refine ⟨js[k], hjk, CE (by show 0 + js[k].length ≤ _; omega) ?_⟩
    intro A2 n2 c2 σ20 ho b21 nb
    have hB : Blk b21 (.cells #[.slice A2 n2 c2] 32 (0, 0)) σ20 (σ20.ins b21 (.cells #[.slice A2 n2 c2] 32 (0, 0))) := ⟨nb, rfl⟩
    generalize σ20.ins b21 _ = σ22 at hB ⊢
    have hrd : RdS [.slc] σ22 (some ⟨b21, 0, none⟩) 1 [((A2, n2, c2) : Option Addr × Nat × Nat)] := by
      refine ⟨rfl, .inr ⟨b21, 0, _, _, _, _, rfl, hB.get, fun i j hi hj => ?_⟩⟩
      have e1 : i = 0 := by
        have : i < 1 := hi
        omega
      have e2 : j = 0 := by
        have : j < 1 := hj
        omega
      subst e1 e2
      rfl
    refine ⟨([((A2, n2, c2) : Option Addr × Nat × Nat)] : List (Option Addr × Nat × Nat)), hrd, CE (by show List.length xs + 1 ≤ _; omega) (AU (by omega) (Cf _ (by omega) ⟨k + 1, rfl, rfl, by omega, hs.trans ((AB.sub ho).trans hB.sub), by simp [hxl], fun z h1 h2 => ?_⟩))⟩
    by_cases ez : z < xs.length
    · have := (hx z ez h2).sub ((AB.sub ho).trans hB.sub)
      rw [List.getElem_append_left ez]
      exact this
    · have e1 : z = k := by
        have : z < xs.length + 1 := by simpa using h1
        omega
      subst e1
      have e2 : (xs ++ [((A2, n2, c2) : Option Addr × Nat × Nat)])[z]'h1 = (A2, n2, c2) := by
        rw [List.getElem_append_right (by omega)]
        simp [hxl]
      rw [e2]
      exact (AB.rd ho).sub hB.sub
  · have hkp : k = js.length := by omega
    subst hkp
    rw [h3]
    intro _ A5 l5 c5 σ6 ho
    exact Aw ⟨_, _, _, rfl, hs.trans (AB.sub ho), xs, AB.rd ho, hxl, fun z h1 h2 => (hx z h1 h2).sub (AB.sub ho)⟩
end
end Go.Proofs.Ytkdjkkimngeloaa
