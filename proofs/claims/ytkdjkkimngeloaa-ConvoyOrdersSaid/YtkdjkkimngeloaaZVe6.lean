/- Trimmed by wip/trim.py to what this claim rests on. -/
import Derived.Test.YtkdjkkimngeloaaZVb22
namespace Go.Proofs.Ytkdjkkimngeloaa
open Go.RowKit
section
variable {σ : Hp}
set_option maxRecDepth 20000 in
theorem Ug {A' oA : Option Addr} {n' c' on oc : Nat} {ar os : List Int} {g : Int} (hr : RdS [.int .i64] σ A' n' ar) (ho : RdS [.int .i64] σ oA on os) (hos : ∀ x ∈ os, 0 ≤ x ∧ x < ar.length) (hl : os.length ≤ 1000000)
    (ha : ∀ x ∈ ar, 0 ≤ x ∧ x ≤ 1000000000) (hg : 0 ≤ g ∧ g ≤ 1000000) : Ag Try.prog M8 #[.slice A' n' c', .slice oA on oc, .int .i64 g] σ fun v σ' => ∃ A n c out, v = .slice A n c ∧ Aj 3 [.int .i64] σ A n c out σ' ∧ Ez ar g os out := by
  refine K6 _ _ _ _ _ _ _ _ _ ?_
  unfold Fg
  have hon : on = os.length := ho.1
  have hnn : n' = ar.length := hr.1
  have hso : ∀ x ∈ os, 0 ≤ geI ar x ∧ geI ar x ≤ 1000000000 := fun x hx => by
    obtain ⟨h1, h2⟩ := hos x hx
    rw [D6 (by omega)]
    exact ha _ (List.getElem_mem _)
  refine Ad fun J3 h3 => ?_
  refine ⟨fun q (xs : List Int) i τ => ∃ k : Nat, q = os.length - k ∧ i = k ∧ k ≤ os.length ∧ τ = σ ∧ Ez ar g (os.take k) xs, ⟨os.length, [], σ, Aj.nil .., 0, rfl, rfl, Nat.zero_le _, rfl, Ez.zero⟩, ?_⟩
  rintro q xs i τ ⟨k, rfl, rfl, hk, rfl, hx⟩ _
  have hxl : xs.length = k := by rw [hx.1, List.length_take]; omega
  refine AK (fun hlt => ?_) (fun hge => ?_)
  · have hkl : k < os.length := by omega
    have hok := hos _ (List.getElem_mem hkl)
    have hsk := hso _ (List.getElem_mem hkl)
    have htk : os.take (k + 1) = os.take k ++ [os[k]] := List.take_succ_eq_append_getElem hkl
    refine Ad fun J17 h17 => ?_
    have k17 : ∀ y : Int, (y = if xs.length = 0 then geI ar os[k] else max (geI ar os[k]) (geI xs ((xs.length - 1 : Nat) : Int) + g)) → J17 (xs ++ [y]) τ := by
      intro y hy
      rw [h17]
      intro _
      refine AL (by omega) (Bf _ (by omega) ⟨k + 1, rfl, rfl, by omega, rfl, ?_⟩)
      rw [htk]
      exact hx.add hy
    clear h17
    refine BP ho (by omega) (by simpa using hkl) ?_
    simp only [Int.toNat_natCast]
    refine BP hr hok.1 (by omega) ?_
    rw [← D6 (xs := ar) (by omega)]
    refine Ad fun J33 h33 => ?_
    have k33 : ∀ y : Int, (y = if xs.length = 0 then geI ar os[k] else max (geI ar os[k]) (geI xs ((xs.length - 1 : Nat) : Int) + g)) → J33 y τ := by
      intro y hy
      rw [h33]
      intro _
      exact Bb (by show xs.length + 1 ≤ _; omega) (k17 y hy)
    clear h33
    refine AK (fun gk => ?_) (fun gk => k33 _ (by rw [if_pos (by omega)]))
    have e1 : ((k : Int) - 1) = ((k - 1 : Nat) : Int) := by omega
    refine AL (by omega) ?_
    rw [e1]
    refine ⟨by omega, by omega, GP (show (((k - 1 : Nat) : Int)).toNat < xs.length by rw [Int.toNat_natCast]; omega) ?_⟩
    simp only [Int.toNat_natCast]
    have hbn := hx.bnd hg.1 (M := 1000000000) (fun x hx2 => hso x (List.mem_of_mem_take hx2)) (k - 1) (by omega)
    have hgm : g * ((k - 1 : Nat) : Int) ≤ 1000000 * 1000000 := Int.mul_le_mul hg.2 (by omega) (by omega) (by omega)
    refine AL (by omega) (k33 _ ?_)
    have e2 : geI xs ((xs.length - 1 : Nat) : Int) = xs[k - 1]'(by omega) := by
      rw [Gz (by omega)]
      congr 1
      omega
    have hne : ¬ xs.length = 0 := by omega
    rw [if_neg hne, e2]
    generalize geI ar os[k] = p
    generalize xs[k - 1]'(by omega) = q2
    by_cases c : q2 + g > p
    · rw [if_pos c]; omega
    · rw [if_neg c]; omega
  · obtain rfl : k = os.length := by omega
    rw [List.take_length] at hx
    rw [h3]
    intro _ A3 n3 c3 σ6 ho3
    exact Av ⟨A3, n3, c3, xs, rfl, ho3, hx⟩
theorem D0.zero {m : Mp} {t : Int} : D0 m [] t [] [] := ⟨rfl, rfl, fun i hi => absurd hi (Nat.not_lt_zero _)⟩
theorem D0.add {m : Mp} {ls : List Lry} {t a : Int} {js : List (List Leg)} {ar : List Int} {l : Lry} {j : List Leg} (h : D0 m ls t js ar) (hb : Bst m l t (a, j)) : D0 m (ls ++ [l]) t (js ++ [j]) (ar ++ [a]) := by
  refine ⟨by simp [h.1], by simp [h.2.1], fun i h1 h2 h3 => ?_⟩
  by_cases c : i < ls.length
  · have := h.2.2 i c (by rw [h.1]; exact c) (by rw [h.2.1]; exact c)
    rw [List.getElem_append_left c, List.getElem_append_left (by rw [h.2.1]; exact c), List.getElem_append_left (by rw [h.1]; exact c)]
    exact this
  · have e : i = ls.length := by
      have : i < ls.length + 1 := by simpa using h1
      omega
    subst e
    have e1 : (ls ++ [l])[ls.length]'h1 = l := by rw [List.getElem_append_right (Nat.le_refl _)]; simp
    have e2 : (js ++ [j])[ls.length]'h2 = j := by rw [List.getElem_append_right (by rw [h.1]; exact Nat.le_refl _)]; simp [h.1]
    have e3 : (ar ++ [a])[ls.length]'h3 = a := by rw [List.getElem_append_right (by rw [h.2.1]; exact Nat.le_refl _)]; simp [h.2.1]
    rw [e1, e2, e3]
    exact hb
set_option maxRecDepth 100000 in
theorem P8 {w : MW} {m : Mp} {t : Int} {A : Option Addr} {n c : Nat} {ls : List LrT} (h : MIn σ w m) (hm : BE m) (hl : RdS sL σ A n ls) (hlo : ∀ l ∈ ls.map AJ, Bi m l) (hll : ls.length ≤ 1000000) :
    Ag Try.prog LJ #[w.v, .slice A n c, .int .i64 t] σ fun v σ' => ∃ A' n' c' b js ar, v = .tuple #[.slice A' n' c', .bool b] ∧ Hp.Sub σ σ' ∧ (b = true → RdS [.int .i64] σ' A' n' ar ∧ D0 m (ls.map AJ) t js ar) ∧ (b = false → OU m (ls.map AJ) t) := by
  refine I1 _ _ _ _ _ _ _ _ _ _ _ _ ?_
  unfold D7
  have hn := hl.lenL
  refine Ad fun J3 h3 => ?_
  refine ⟨fun q (xs : List Int) i τ => ∃ (k : Nat) (js : List (List Leg)), q = ls.length - k ∧ i = k ∧ k ≤ ls.length ∧ Hp.Sub σ τ ∧ D0 m ((ls.map AJ).take k) t js xs, ⟨ls.length, [], σ, Aj.nil .., 0, [], rfl, rfl, Nat.zero_le _, Hp.Sub.refl _, D0.zero⟩, ?_⟩
  rintro q xs i τ ⟨k, js, rfl, rfl, hk, hs, hfl⟩ _
  have hxl : xs.length = k := by rw [hfl.2.1, List.length_take, List.length_map]; omega
  refine AK (fun hlt => ?_) (fun hge => ?_)
  · have hkl : k < ls.length := by omega
    have hkm : k < (ls.map AJ).length := by rw [List.length_map]; exact hkl
    have hlk : Bi m (AJ ls[k]) := hlo _ (List.mem_map_of_mem (List.getElem_mem hkl))
    have htk : (ls.map AJ).take (k + 1) = (ls.map AJ).take k ++ [AJ ls[k]] := by
      rw [List.take_succ_eq_append_getElem hkm, List.getElem_map]
    refine Ad fun J17 h17 => ?_
    have k17 : ∀ s A n c (b : Bool) bb τ1, Hp.Sub τ τ1 → τ1 bb = some (tkO s A n c, true) → (b = true → ∃ js, Bst m (AJ ls[k]) t (s.sn, js)) → (b = false → Non m (AJ ls[k]) t) → J17 (some ⟨bb, 0, none⟩) b τ1 := by
      intro s A n c b bb τ1 hs1 gb h1 h2
      rw [h17]
      intro _
      refine Hn (fun eb => Av ⟨_, _, _, false, [], [], rfl, hs.trans hs1, fun e => (by cases e), fun _ => ⟨_, List.mem_map_of_mem (List.getElem_mem hkl), h2 eb⟩⟩) (fun eb => ?_)
      obtain ⟨j, hb⟩ := h1 eb
      refine AN (Ba gb rfl (Bb (by show xs.length + 1 ≤ _; omega) (AL (by omega) (Bf _ (by omega) ⟨k + 1, js ++ [j], rfl, rfl, by omega, hs.trans hs1, ?_⟩))))
      rw [htk]
      exact hfl.add hb
    clear h17
    refine Py (hl.sub hs) (by omega) (by simpa using hkl) ?_
    simp only [Int.toNat_natCast]
    have one := SF (l := AJ ls[k]) (t := t) (h.up hs) hm hlk
    constructor
    · refine AV Ea one ?_
      rintro v σ35 ⟨s, A1, n1, c1, b, rfl, hs2, h1, h2⟩
      refine ⟨_, _, _, _, _, _, _, rfl, fun bb nb => k17 s A1 n1 c1 b bb _ (hs2.trans (Blk.sub (b := bb) (o := tkO s A1 n1 c1) ⟨nb, rfl⟩)) (Blk.get (b := bb) (o := tkO s A1 n1 c1) (σ := σ35) ⟨nb, rfl⟩) (fun e => ?_) h2⟩
      obtain ⟨js, _, hb⟩ := h1 e
      exact ⟨js, hb⟩
    · refine AV Ea one ?_
      rintro v σ35 ⟨s, A1, n1, c1, b, rfl, hs2, h1, h2⟩
      refine ⟨_, _, _, _, _, _, _, rfl, fun bb nb => k17 s A1 n1 c1 b bb _ (hs2.trans (Blk.sub (b := bb) (o := tkO s A1 n1 c1) ⟨nb, rfl⟩)) (Blk.get (b := bb) (o := tkO s A1 n1 c1) (σ := σ35) ⟨nb, rfl⟩) (fun e => ?_) h2⟩
      obtain ⟨js, _, hb⟩ := h1 e
      exact ⟨js, hb⟩
  · obtain rfl : k = ls.length := by omega
    rw [List.take_of_length_le (by rw [List.length_map]; exact Nat.le_refl _)] at hfl
    rw [h3]
    intro _ A5 n5 c5 σ6 ho
    exact Av ⟨_, _, _, true, js, xs, rfl, hs.trans (Aj.sub ho), fun _ => ⟨Aj.rd ho, hfl⟩, fun e => by cases e⟩
end
end Go.Proofs.Ytkdjkkimngeloaa
