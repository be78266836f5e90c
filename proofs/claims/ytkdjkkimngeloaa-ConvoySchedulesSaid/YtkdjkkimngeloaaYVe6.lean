/- Trimmed by wip/trim.py to what this claim rests on. -/
import Derived.Test.YtkdjkkimngeloaaYVb22
namespace Go.Proofs.Ytkdjkkimngeloaa
open Go.RowKit
section
variable {σ : Hp}
set_option maxRecDepth 20000 in
theorem PR {n : Nat} (hn : n ≤ 1000000) : Ah Try.prog JP #[.int .i64 (n : Int)] σ fun v σ' => ∃ A n' c, v = .slice A n' c ∧ Av 3 [.int .i64] σ A n' c (ED n) σ' := by
  refine HG _ _ _ ?_
  unfold Dk
  refine Ai fun J3 h3 => ?_
  refine ⟨fun q (xs : List Int) i τ => ∃ k : Nat, q = n - k ∧ i = k ∧ k ≤ n ∧ τ = σ ∧ xs = ED k, ⟨n, [], σ, Av.nil .., 0, rfl, rfl, Nat.zero_le _, rfl, rfl⟩, ?_⟩
  rintro q xs i τ ⟨k, rfl, rfl, hk, rfl, rfl⟩ _
  refine Bc (fun hlt => ?_) (fun hge => ?_)
  · exact Bn (by rw [DE, List.length_singleton]; omega) (AU (by omega) (Bs _ (by omega) ⟨k + 1, rfl, rfl, by omega, rfl, MX.symm⟩))
  · obtain rfl : k = n := by omega
    rw [h3]
    intro _ A n' c σ6 ho
    exact Ay ⟨A, n', c, rfl, ho⟩
set_option maxRecDepth 20000 in
theorem TF {A' oA : Option Addr} {n' c' on oc : Nat} {ar os : List Int} {g : Int} (hr : RdS [.int .i64] σ A' n' ar) (ho : RdS [.int .i64] σ oA on os) (hos : ∀ x ∈ os, 0 ≤ x ∧ x < ar.length) (hl : os.length ≤ 1000000)
    (ha : ∀ x ∈ ar, 0 ≤ x ∧ x ≤ 1000000000) (hg : 0 ≤ g ∧ g ≤ 1000000) : Ah Try.prog Mo #[.slice A' n' c', .slice oA on oc, .int .i64 g] σ fun v σ' => ∃ A n c out, v = .slice A n c ∧ Av 3 [.int .i64] σ A n c out σ' ∧ Ez ar g os out := by
  refine JY _ _ _ _ _ _ _ _ _ ?_
  unfold EV
  have hon : on = os.length := ho.1
  have hnn : n' = ar.length := hr.1
  have hso : ∀ x ∈ os, 0 ≤ geI ar x ∧ geI ar x ≤ 1000000000 := fun x hx => by
    obtain ⟨h1, h2⟩ := hos x hx
    rw [Nb (by omega)]
    exact ha _ (List.getElem_mem _)
  refine Ai fun J3 h3 => ?_
  refine ⟨fun q (xs : List Int) i τ => ∃ k : Nat, q = os.length - k ∧ i = k ∧ k ≤ os.length ∧ τ = σ ∧ Ez ar g (os.take k) xs, ⟨os.length, [], σ, Av.nil .., 0, rfl, rfl, Nat.zero_le _, rfl, Ez.zero⟩, ?_⟩
  rintro q xs i τ ⟨k, rfl, rfl, hk, rfl, hx⟩ _
  have hxl : xs.length = k := by rw [hx.1, List.length_take]; omega
  refine Bc (fun hlt => ?_) (fun hge => ?_)
  · have hkl : k < os.length := by omega
    have hok := hos _ (List.getElem_mem hkl)
    have hsk := hso _ (List.getElem_mem hkl)
    have htk : os.take (k + 1) = os.take k ++ [os[k]] := List.take_succ_eq_append_getElem hkl
    refine Ai fun J17 h17 => ?_
    have k17 : ∀ y : Int, (y = if xs.length = 0 then geI ar os[k] else max (geI ar os[k]) (geI xs ((xs.length - 1 : Nat) : Int) + g)) → J17 (xs ++ [y]) τ := by
      intro y hy
      rw [h17]
      intro _
      refine AU (by omega) (Bs _ (by omega) ⟨k + 1, rfl, rfl, by omega, rfl, ?_⟩)
      rw [htk]
      exact hx.add hy
    clear h17
    refine Ea ho (by omega) (by simpa using hkl) ?_
    simp only [Int.toNat_natCast]
    refine Ea hr hok.1 (by omega) ?_
    rw [← Nb (xs := ar) (by omega)]
    refine Ai fun J33 h33 => ?_
    have k33 : ∀ y : Int, (y = if xs.length = 0 then geI ar os[k] else max (geI ar os[k]) (geI xs ((xs.length - 1 : Nat) : Int) + g)) → J33 y τ := by
      intro y hy
      rw [h33]
      intro _
      exact Bn (by show xs.length + 1 ≤ _; omega) (k17 y hy)
    clear h33
    refine Bc (fun gk => ?_) (fun gk => k33 _ (by rw [if_pos (by omega)]))
    have e1 : ((k : Int) - 1) = ((k - 1 : Nat) : Int) := by omega
    refine AU (by omega) ?_
    rw [e1]
    refine ⟨by omega, by omega, LN (show (((k - 1 : Nat) : Int)).toNat < xs.length by rw [Int.toNat_natCast]; omega) ?_⟩
    simp only [Int.toNat_natCast]
    have hbn := hx.bnd hg.1 (M := 1000000000) (fun x hx2 => hso x (List.mem_of_mem_take hx2)) (k - 1) (by omega)
    have hgm : g * ((k - 1 : Nat) : Int) ≤ 1000000 * 1000000 := Int.mul_le_mul hg.2 (by omega) (by omega) (by omega)
    refine AU (by omega) (k33 _ ?_)
    have e2 : geI xs ((xs.length - 1 : Nat) : Int) = xs[k - 1]'(by omega) := by
      rw [FP (by omega)]
      congr 1
      omega
    have hne : ¬ xs.length = 0 := by omega
    rw [if_neg hne, e2]
    generalize geI ar os[k] = p
    generalize xs[k - 1]'(by omega) = q2
    by_cases c : q2 + g > p
    · rw [if_pos c]; omega
    · rw [if_neg c]; omega
  · obtain rfl : k = os.length := by omega
    rw [List.take_length] at hx
    rw [h3]
    intro _ A3 n3 c3 σ6 ho3
    exact Ay ⟨A3, n3, c3, xs, rfl, ho3, hx⟩
theorem EM.zero {m : Mp} {t : Int} : EM m [] t [] [] := ⟨rfl, rfl, fun i hi => absurd hi (Nat.not_lt_zero _)⟩
theorem EM.add {m : Mp} {ls : List Lry} {t a : Int} {js : List (List Leg)} {ar : List Int} {l : Lry} {j : List Leg} (h : EM m ls t js ar) (hb : Bst m l t (a, j)) : EM m (ls ++ [l]) t (js ++ [j]) (ar ++ [a]) := by
  refine ⟨by simp [h.1], by simp [h.2.1], fun i h1 h2 h3 => ?_⟩
  by_cases c : i < ls.length
  · have := h.2.2 i c (by rw [h.1]; exact c) (by rw [h.2.1]; exact c)
    rw [List.getElem_append_left c, List.getElem_append_left (by rw [h.2.1]; exact c), List.getElem_append_left (by rw [h.1]; exact c)]
    exact this
  · have e : i = ls.length := by
      have : i < ls.length + 1 := by simpa using h1
      omega
    subst e
    have e1 : (ls ++ [l])[ls.length]'h1 = l := by rw [List.getElem_append_right (Nat.le_refl _)]; simp
    have e2 : (js ++ [j])[ls.length]'h2 = j := by rw [List.getElem_append_right (by rw [h.1]; exact Nat.le_refl _)]; simp [h.1]
    have e3 : (ar ++ [a])[ls.length]'h3 = a := by rw [List.getElem_append_right (by rw [h.2.1]; exact Nat.le_refl _)]; simp [h.2.1]
    rw [e1, e2, e3]
    exact hb
set_option maxRecDepth 100000 in
theorem PG {w : MW} {m : Mp} {t : Int} {A : Option Addr} {n c : Nat} {ls : List LrT} (h : MIn σ w m) (hm : BD m) (hl : RdS sL σ A n ls) (hlo : ∀ l ∈ ls.map AM, Bj m l) (hll : ls.length ≤ 1000000) :
    Ah Try.prog KP #[w.v, .slice A n c, .int .i64 t] σ fun v σ' => ∃ A' n' c' b js ar, v = .tuple #[.slice A' n' c', .bool b] ∧ Hp.Sub σ σ' ∧ (b = true → RdS [.int .i64] σ' A' n' ar ∧ EM m (ls.map AM) t js ar) ∧ (b = false → Nc m (ls.map AM) t) := by
  refine IC _ _ _ _ _ _ _ _ _ _ _ _ ?_
  unfold DU
  have hn := hl.lenL
  refine Ai fun J3 h3 => ?_
  refine ⟨fun q (xs : List Int) i τ => ∃ (k : Nat) (js : List (List Leg)), q = ls.length - k ∧ i = k ∧ k ≤ ls.length ∧ Hp.Sub σ τ ∧ EM m ((ls.map AM).take k) t js xs, ⟨ls.length, [], σ, Av.nil .., 0, [], rfl, rfl, Nat.zero_le _, Hp.Sub.refl _, EM.zero⟩, ?_⟩
  rintro q xs i τ ⟨k, js, rfl, rfl, hk, hs, hfl⟩ _
  have hxl : xs.length = k := by rw [hfl.2.1, List.length_take, List.length_map]; omega
  refine Bc (fun hlt => ?_) (fun hge => ?_)
  · have hkl : k < ls.length := by omega
    have hkm : k < (ls.map AM).length := by rw [List.length_map]; exact hkl
    have hlk : Bj m (AM ls[k]) := hlo _ (List.mem_map_of_mem (List.getElem_mem hkl))
    have htk : (ls.map AM).take (k + 1) = (ls.map AM).take k ++ [AM ls[k]] := by
      rw [List.take_succ_eq_append_getElem hkm, List.getElem_map]
    refine Ai fun J17 h17 => ?_
    have k17 : ∀ s A n c (b : Bool) bb τ1, Hp.Sub τ τ1 → τ1 bb = some (tkO s A n c, true) → (b = true → ∃ js, Bst m (AM ls[k]) t (s.sn, js)) → (b = false → Non m (AM ls[k]) t) → J17 (some ⟨bb, 0, none⟩) b τ1 := by
      intro s A n c b bb τ1 hs1 gb h1 h2
      rw [h17]
      intro _
      refine GZ (fun eb => Ay ⟨_, _, _, false, [], [], rfl, hs.trans hs1, fun e => (by cases e), fun _ => ⟨_, List.mem_map_of_mem (List.getElem_mem hkl), h2 eb⟩⟩) (fun eb => ?_)
      obtain ⟨j, hb⟩ := h1 eb
      refine Bg (Bp gb rfl (Bn (by show xs.length + 1 ≤ _; omega) (AU (by omega) (Bs _ (by omega) ⟨k + 1, js ++ [j], rfl, rfl, by omega, hs.trans hs1, ?_⟩))))
      rw [htk]
      exact hfl.add hb
    clear h17
    refine NY (hl.sub hs) (by omega) (by simpa using hkl) ?_
    simp only [Int.toNat_natCast]
    have one := N8 (l := AM ls[k]) (t := t) (h.up hs) hm hlk
    constructor
    · refine Bf BZ one ?_
      rintro v σ35 ⟨s, A1, n1, c1, b, rfl, hs2, h1, h2⟩
      refine ⟨_, _, _, _, _, _, _, rfl, fun bb nb => k17 s A1 n1 c1 b bb _ (hs2.trans (Blk.sub (b := bb) (o := tkO s A1 n1 c1) ⟨nb, rfl⟩)) (Blk.get (b := bb) (o := tkO s A1 n1 c1) (σ := σ35) ⟨nb, rfl⟩) (fun e => ?_) h2⟩
      obtain ⟨js, _, hb⟩ := h1 e
      exact ⟨js, hb⟩
    · refine Bf BZ one ?_
      rintro v σ35 ⟨s, A1, n1, c1, b, rfl, hs2, h1, h2⟩
      refine ⟨_, _, _, _, _, _, _, rfl, fun bb nb => k17 s A1 n1 c1 b bb _ (hs2.trans (Blk.sub (b := bb) (o := tkO s A1 n1 c1) ⟨nb, rfl⟩)) (Blk.get (b := bb) (o := tkO s A1 n1 c1) (σ := σ35) ⟨nb, rfl⟩) (fun e => ?_) h2⟩
      obtain ⟨js, _, hb⟩ := h1 e
      exact ⟨js, hb⟩
  · obtain rfl : k = ls.length := by omega
    rw [List.take_of_length_le (by rw [List.length_map]; exact Nat.le_refl _)] at hfl
    rw [h3]
    intro _ A5 n5 c5 σ6 ho
    exact Ay ⟨_, _, _, true, js, xs, rfl, hs.trans (Av.sub ho), fun _ => ⟨Av.rd ho, hfl⟩, fun e => by cases e⟩
set_option maxRecDepth 100000 in
theorem Ks {w : MW} {m : Mp} {t g : Int} {A : Option Addr} {n c : Nat} {ls : List LrT} (h : MIn σ w m) (hp : m.pk.length ≤ 4294967296) (hr : m.rs.length ≤ 4294967296) (hl : RdS sL σ A n ls) :
    Ah Try.prog Fw #[w.v, .slice A n c, .int .i64 t, .int .i64 g] σ fun v σ' => Hp.Sub σ σ' ∧
      ((¬ cE m (ls.map AM) t g = 0 ∧ v = .tuple #[.slice none 0 0, .int .i64 (cE m (ls.map AM) t g)]) ∨ (cE m (ls.map AM) t g = 0 ∧ ((Nc m (ls.map AM) t ∧ v = .tuple #[.slice none 0 0, .int .i64 3]) ∨
        ∃ A' n' c' js ar out, v = .tuple #[.slice A' n' c', .int .i64 0] ∧ RdS [.int .i64] σ' A' n' out ∧ EM m (ls.map AM) t js ar ∧ Ez ar g (ED ls.length) out))) := by
  refine HP _ _ _ _ _ _ _ _ _ _ _ _ _ ?_
  unfold Dx
  have hn := hl.lenL
  refine clI EI (Ms (t := t) (g := g) h hp hr hl) (Bl (fun e => Ay ⟨Hp.Sub.refl _, .inl ⟨e, rfl⟩⟩) (fun e0 => ?_))
  obtain ⟨e1, hg⟩ := Oj e0
  obtain ⟨hm, h8, hlo, ht⟩ := L6 e1
  rw [List.length_map] at h8
  refine Bf GN (PG (t := t) h hm.ok hl hlo (by omega)) ?_
  rintro v σ5 ⟨A6, n6, c6, b, js, ar, rfl, hs5, h1, h2⟩
  refine ⟨_, _, _, _, rfl, GZ (fun eb => Ay ⟨hs5, .inr ⟨e0, .inl ⟨h2 eb, rfl⟩⟩⟩) (fun eb => ?_)⟩
  obtain ⟨hra, hfl⟩ := h1 eb
  have hal : List.length (α := Int) ar = ls.length := by rw [hfl.2.1, List.length_map]
  have hjl : js.length = ls.length := by rw [hfl.1, List.length_map]
  rw [hn]
  refine Bf F9 (PR (n := ls.length) (by omega)) ?_
  rintro v σ9 ⟨A10, l10, c10, rfl, ho⟩
  refine ⟨_, _, _, rfl, ?_⟩
  have hs9 : Hp.Sub σ5 σ9 := Av.sub ho
  refine Bf HV (TF (g := g) (hra.sub hs9) (Av.rd ho) (fun x hx => ?_) (by rw [DE]; omega) (fun x hx => ?_) ⟨hg.1, by omega⟩) ?_
  · unfold ED at hx
    obtain ⟨i, hi, rfl⟩ := List.mem_map.1 hx
    have := List.mem_range.1 hi
    show 0 ≤ (i : Int) ∧ (i : Int) < _
    omega
  · obtain ⟨i, hi, rfl⟩ := List.mem_iff_getElem.1 hx
    have := ((hfl.2.2 i (by rw [List.length_map]; omega) (by omega) hi).sml hm.ok (hlo _ (List.getElem_mem _))).1
    omega
  rintro v σ12 ⟨A13, l13, c13, (out : List Int), rfl, ho13, harr⟩
  exact ⟨_, _, _, rfl, Ay ⟨hs5.trans (hs9.trans (Av.sub ho13)), .inr ⟨e0, .inr ⟨_, _, _, js, ar, out, rfl, Av.rd ho13, hfl, harr⟩⟩⟩⟩
set_option maxRecDepth 100000 in
theorem OF {w : MW} {m : Mp} {t g : Int} {A : Option Addr} {n c : Nat} {ls : List LrT} (h : MIn σ w m) (hp : m.pk.length ≤ 4294967296) (hr : m.rs.length ≤ 4294967296) (hl : RdS sL σ A n ls) :
    Ah Try.prog Fs #[w.v, .slice A n c, .int .i64 t, .int .i64 g] σ fun v σ' => Hp.Sub σ σ' ∧
      ((¬ cE m (ls.map AM) t g = 0 ∧ v = .tuple #[.slice none 0 0, .int .i64 (cE m (ls.map AM) t g)]) ∨ (cE m (ls.map AM) t g = 0 ∧ ((Nc m (ls.map AM) t ∧ v = .tuple #[.slice none 0 0, .int .i64 3]) ∨
        ∃ A' n' c' js ar out js', v = .tuple #[.slice A' n' c', .int .i64 0] ∧ GT σ' A' n' js' ∧ EM m (ls.map AM) t js ar ∧ Ez ar g (ED ls.length) out ∧ Pt js ar out js'))) := by
  refine HK _ _ _ _ _ _ _ _ _ _ _ _ _ ?_
  unfold Dl
  have hn := hl.lenL
  refine Bf C3 (Ks (t := t) (g := g) h hp hr hl) ?_
  rintro v σ2 ⟨hs2, (⟨e, rfl⟩ | ⟨e0, (⟨hno, rfl⟩ | ⟨A3, n3, c3, js, ar, (out : List Int), rfl, hro, hfl, harr⟩)⟩)⟩
  · exact ⟨_, _, _, _, rfl, Bl (fun _ => Ay ⟨hs2, .inl ⟨e, rfl⟩⟩) (fun g => absurd g e)⟩
  · exact ⟨_, _, _, _, rfl, Bl (fun _ => Ay ⟨hs2, .inr ⟨e0, .inl ⟨hno, rfl⟩⟩⟩) (fun g => by cases g)⟩
  refine ⟨_, _, _, _, rfl, Bl (fun g => absurd rfl g) (fun _ => ?_)⟩
  obtain ⟨e1, hg⟩ := Oj e0
  obtain ⟨hm, h8, hlo, ht⟩ := L6 e1
  rw [List.length_map] at h8
  have hjl : js.length = ls.length := by rw [hfl.1, List.length_map]
  have hal : ar.length = ls.length := by rw [hfl.2.1, List.length_map]
  have hol : out.length = ls.length := by rw [harr.1, DE]
  have hbi : ∀ i (h1 : i < ls.length), Bst m (AM ls[i]) t (ar[i]'(by omega), js[i]'(by omega)) := fun i h1 => by
    have := hfl.2.2 i (by rw [List.length_map]; exact h1) (by omega) (by omega)
    rw [List.getElem_map] at this
    exact this
  have hsm : ∀ i (h1 : i < ls.length), (0 ≤ ar[i]'(by omega) ∧ ar[i]'(by omega) ≤ 158000) ∧ (js[i]'(by omega)).length ≤ 156 ∧ ∀ x ∈ js[i]'(by omega), Gv m x ∧ 0 ≤ x.2 ∧ x.2 ≤ ar[i]'(by omega) := fun i h1 =>
    (hbi i h1).sml hm.ok (hlo _ (List.mem_map_of_mem (List.getElem_mem h1)))
  have hbo := harr.bnd hg.1 (M := 158000) (fun x hx => by
    unfold ED at hx
    obtain ⟨i, hi, rfl⟩ := List.mem_map.1 hx
    have hi := List.mem_range.1 hi
    have e : geI ar (Int.ofNat i) = ar[i]'(by omega) := FP (i := i) (by omega)
    rw [e]
    exact (hsm i hi).1)
  refine Ai fun J7 h7 => ?_
  refine ⟨fun q (xs : List (Option Addr × Nat × Nat)) i τ => ∃ k : Nat, q = ls.length - k ∧ i = k ∧ k ≤ ls.length ∧ Hp.Sub σ2 τ ∧ xs.length = k ∧ ∀ z (h1 : z < xs.length) (h2 : z < js.length), RdS sJ τ xs[z].1 xs[z].2.1 (shf (geI out z - geI ar z) js[z]), ⟨ls.length, [], σ2, Av.nil .., 0, rfl, rfl, Nat.zero_le _, Hp.Sub.refl _, rfl, fun z h1 => absurd h1 (Nat.not_lt_zero _)⟩, ?_⟩
  rintro q xs i τ ⟨i, rfl, rfl, hi, hs, hxl, hx⟩ _
  refine Bc (fun hlt => ?_) (fun hge => ?_)
  · have hil : i < ls.length := by omega
    have hij : i < js.length := by omega
    obtain ⟨⟨ha0, ha1⟩, hj156, hjx⟩ := hsm i hil
    have hoi := hbo i (by omega)
    have hgi : g * (i : Int) ≤ 100 * 8 := Int.mul_le_mul hg.2 (by omega) (by omega) (by omega)
    have eo : geI out (i : Int) = out[i]'(by omega) := FP (by omega)
    have ea : geI ar (i : Int) = ar[i]'(by omega) := FP (by omega)
    have hlk : Bj m (AM ls[i]) := hlo _ (List.mem_map_of_mem (List.getElem_mem hil))
    refine Ai fun J21 h21 => ?_
    have k21 : ∀ A2 n2 c2 τ', Hp.Sub τ τ' → RdS sJ τ' A2 n2 (shf (geI out i - geI ar i) js[i]) → J21 (xs ++ [(A2, n2, c2)]) τ' := by
      intro A2 n2 c2 τ' hs' hrd
      rw [h21]
      intro _
      refine AU (by omega) (Bs _ (by omega) ⟨i + 1, rfl, rfl, by omega, hs.trans hs', by simp [hxl], fun z h1 h2 => ?_⟩)
      by_cases ez : z < xs.length
      · have := (hx z ez h2).sub hs'
        rw [List.getElem_append_left ez]
        exact this
      · have e1 : z = i := by
          have : z < xs.length + 1 := by simpa using h1
          omega
        subst e1
        have e2 : (xs ++ [((A2, n2, c2) : Option Addr × Nat × Nat)])[z]'h1 = (A2, n2, c2) := by
          rw [List.getElem_append_right (by omega)]
          simp [hxl]
        rw [e2]
        exact hrd
    clear h21
    refine Ai fun J28 h28 => ?_
    have k28 : ∀ s A1 n1 c1 bb τ1, Hp.Sub τ τ1 → τ1 bb = some (tkO s A1 n1 c1, true) → RdS sJ τ1 A1 n1 js[i] → s.sn = ar[i]'(by omega) → J28 (some ⟨bb, 0, none⟩) τ1 := by
      intro s A1 n1 c1 bb τ1 hs1 gb hrd hsn
      rw [h28]
      intro _
      refine Bg (Df gb rfl ?_)
      refine ⟨js[i], hrd, Bn (by show 0 + js[i].length ≤ _; omega) ?_⟩
      refine Ai fun J36 h36 => ?_
      refine ⟨fun q p (ys : List Leg) τ2 => ∃ k : Nat, q = js[i].length - k ∧ p = k ∧ k ≤ js[i].length ∧ τ2 = τ1 ∧ ys = shk (geI out i - geI ar i) js[i] k, ⟨_, 0, rfl, rfl, Nat.zero_le _, rfl, by rw [L5]; rfl⟩, ?_⟩
      rintro q p ys τ2 ⟨k, rfl, rfl, hk, rfl, rfl⟩ _
      refine Bc (fun hlt2 => ?_) (fun hge2 => ?_)
      · have hkl : k < js[i].length := by rw [D4] at hlt2; omega
        have hks : ((k : Int)).toNat < (shk (geI out i - geI ar i) js[i] k).length := by rw [Int.toNat_natCast, D4]; exact hkl
        refine ⟨by omega, hlt2, LN hks ?_⟩
        have e2 : (shk (geI out i - geI ar i) js[i] k)[((k : Int)).toNat]'hks = js[i][k] := by
          simp only [Int.toNat_natCast]
          exact P2 hkl
        rw [e2]
        refine Ea (hro.sub (hs.trans hs1)) (by omega) (by simp; omega) ?_
        simp only [Int.toNat_natCast]
        have hxk := (hjx _ (List.getElem_mem hkl)).2
        refine Bg (Bp gb rfl ?_)
        rw [hsn]
        refine AU (by omega) (AU (by omega) ⟨by omega, hlt2, LN hks ?_⟩)
        simp only [Int.toNat_natCast] at e2 ⊢
        rw [e2]
        refine AU (by omega) (Bs _ (by omega) ⟨k + 1, rfl, rfl, by omega, rfl, ?_⟩)
        rw [← QG hkl, eo, ea]
      · have hke : k = js[i].length := by rw [D4] at hge2; omega
        subst hke
        rw [QH, h36]
        intro _ A2 n2 c2 σ39 ho b40 nb
        have hB : Blk b40 (.cells #[.slice A2 n2 c2] 32 (0, 0)) σ39 (σ39.ins b40 (.cells #[.slice A2 n2 c2] 32 (0, 0))) := ⟨nb, rfl⟩
        generalize σ39.ins b40 _ = σ41 at hB ⊢
        have hrd1 : RdS [.slc] σ41 (some ⟨b40, 0, none⟩) 1 [((A2, n2, c2) : Option Addr × Nat × Nat)] := by
          refine ⟨rfl, .inr ⟨b40, 0, _, _, _, _, rfl, hB.get, fun i j hi hj => ?_⟩⟩
          have e1 : i = 0 := by
            have : i < 1 := hi
            omega
          have e2 : j = 0 := by
            have : j < 1 := hj
            omega
          subst e1 e2
          rfl
        exact ⟨([((A2, n2, c2) : Option Addr × Nat × Nat)] : List (Option Addr × Nat × Nat)), hrd1, Bn (by show List.length xs + 1 ≤ _; omega) (k21 A2 n2 c2 σ41 (hs1.trans ((Av.sub ho).trans hB.sub)) ((Av.rd ho).sub hB.sub))⟩
    clear h28
    refine NY (hl.sub (hs2.trans hs)) (by omega) (by simpa using hil) ?_
    simp only [Int.toNat_natCast]
    have one := N8 (l := AM ls[i]) (t := t) (h.up (hs2.trans hs)) hm.ok hlk
    have two : ∀ (s : Std) (A1 : Option Addr) (n1 c1 : Nat) (b : Bool) (σ35 : Hp), Hp.Sub τ σ35 → (b = true → ∃ js, RdS sJ σ35 A1 n1 js ∧ Bst m (AM ls[i]) t (s.sn, js)) → (b = false → Non m (AM ls[i]) t) → ∀ bb, σ35 bb = none → J28 (some ⟨bb, 0, none⟩) (σ35.ins bb (tkO s A1 n1 c1)) := by
      intro s A1 n1 c1 b σ35 hs3 h1 h2 bb nb
      have hB : Blk bb (tkO s A1 n1 c1) σ35 (σ35.ins bb (tkO s A1 n1 c1)) := ⟨nb, rfl⟩
      cases b with
      | false => exact absurd (h2 rfl) (hbi i hil).nn
      | true =>
        obtain ⟨j2, hrd, hb⟩ := h1 rfl
        have := hb.uniq (hbi i hil)
        have e1 : s.sn = ar[i]'(by omega) := congrArg Prod.fst this
        have e2 : j2 = js[i] := congrArg Prod.snd this
        subst e2
        exact k28 s A1 n1 c1 bb _ (hs3.trans hB.sub) hB.get (hrd.sub hB.sub) e1
    constructor
    · refine Bf BZ one ?_
      rintro v σ35 ⟨s, A1, n1, c1, b, rfl, hs3, h1, h2⟩
      exact ⟨_, _, _, _, _, _, _, rfl, two s A1 n1 c1 b σ35 hs3 h1 h2⟩
    · refine Bf BZ one ?_
      rintro v σ35 ⟨s, A1, n1, c1, b, rfl, hs3, h1, h2⟩
      exact ⟨_, _, _, _, _, _, _, rfl, two s A1 n1 c1 b σ35 hs3 h1 h2⟩
  · obtain rfl : i = ls.length := by omega
    rw [h7]
    intro _ A9 n9 c9 σ10 ho
    refine Ay ⟨hs2.trans (hs.trans (Av.sub ho)), .inr ⟨e0, .inr ⟨_, _, _, js, ar, out, js.mapIdx fun z j => shf (geI out z - geI ar z) j, rfl, ⟨xs, Av.rd ho, by simp [hxl, hjl], fun z h1 h2 => ?_⟩, hfl, harr, by simp, fun z h1 h2 => ?_⟩⟩⟩
    · have hz : z < js.length := by simpa using h2
      rw [List.getElem_mapIdx]
      exact (hx z h1 hz).sub (Av.sub ho)
    · rw [List.getElem_mapIdx]
end
end Go.Proofs.Ytkdjkkimngeloaa
