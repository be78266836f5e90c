/- Trimmed by wip/trim.py to what this claim rests on. -/
import Derived.Test.YtkdjkkimngeloaaZVg1
import Derived.Test.YtkdjkkimngeloaaZVe7
import Derived.Test.YtkdjkkimngeloaaZVd3
namespace Go.Proofs.Ytkdjkkimngeloaa
open Go.RowKit
def PV (m : Mp) (ls : List Lry) (t g : Int) (P : List Int) (e : Int) : Prop :=
  (¬ cE m ls t g = 0 ∧ e = cE m ls t g ∧ P = []) ∨ (cE m ls t g = 0 ∧ ((OU m ls t ∧ e = 3 ∧ P = []) ∨ (e = 0 ∧ ∃ js ar, D0 m ls t js ar ∧ J0 ar g ls.length P)))
theorem PV.uniq {m : Mp} {ls : List Lry} {t g e e' : Int} {x x' : List Int} (h : PV m ls t g x e) (h' : PV m ls t g x' e') : x = x' ∧ e = e' := by
  rcases h with ⟨c, rfl, rfl⟩ | ⟨c, h⟩
  · rcases h' with ⟨_, rfl, rfl⟩ | ⟨c', _⟩
    · exact ⟨rfl, rfl⟩
    · exact absurd c' c
  · rcases h' with ⟨c', _⟩ | ⟨_, h'⟩
    · exact absurd c c'
    · rcases h with ⟨n, rfl, rfl⟩ | ⟨rfl, js, ar, f, a⟩
      · rcases h' with ⟨_, rfl, rfl⟩ | ⟨_, js, ar, f, _⟩
        · exact ⟨rfl, rfl⟩
        · exact absurd n f.nn
      · rcases h' with ⟨n, _⟩ | ⟨rfl, js', ar', f', a'⟩
        · exact absurd n f.nn
        · obtain ⟨rfl, rfl⟩ := f.uniq f'
          exact ⟨a.uniq a', rfl⟩
theorem J0.mem {ar : List Int} {g : Int} {n : Nat} {P : List Int} (h : J0 ar g n P) : P ∈ EY n n [] := by
  obtain ⟨v, h1, _⟩ := h
  exact List.mem_of_find?_eq_some h1
theorem J0.le {ar : List Int} {g : Int} {n : Nat} {P o : List Int} (h : J0 ar g n P) (ho : o ∈ EY n n []) : vO ar g P ≤ vO ar g o := by
  obtain ⟨v, h1, h2⟩ := h
  rw [N1 h1]
  exact h2 _ ho
theorem PV.len {m : Mp} {ls : List Lry} {t g e : Int} {x : List Int} (h : PV m ls t g x e) : x.length ≤ ls.length := by
  rcases h with ⟨_, _, rfl⟩ | ⟨_, (⟨_, _, rfl⟩ | ⟨_, js, ar, f, a⟩)⟩
  · exact Nat.zero_le _
  · exact Nat.zero_le _
  · rw [(JR a.mem).1]
    exact Nat.le_refl _
abbrev geL (ls : List LrT) (x : Int) : LrT := ls.getD x.toNat (0, 0, 0, 0, 0, 0)
theorem U3 {ls : List LrT} {x : Int} (h : 0 ≤ x ∧ x < ls.length) : geL ls x ∈ ls := by
  have h1 : x.toNat < ls.length := by omega
  have : geL ls x = ls[x.toNat] := by simp [geL, List.getD, h1]
  rw [this]
  exact List.getElem_mem _
theorem Vr {m : Mp} {ls ls' : List Lry} {t g : Int} (h : cE m ls t g = 0) (hs : ∀ l ∈ ls', l ∈ ls) (hl : ls'.length ≤ 8) : cE m ls' t g = 0 := by
  obtain ⟨e1, hg⟩ := O4 h
  obtain ⟨hm, h8, hlo, ht⟩ := ML e1
  have : eT m ls' t = 0 := by
    unfold eT
    rw [if_pos (Mp.okB_iff.2 hm), if_neg (by omega), if_pos (List.all_eq_true.2 fun l hl => Kk.2 (hlo l (hs l hl))), if_pos ht]
  unfold cE
  rw [if_pos this, if_pos hg]
theorem D0.sort {m : Mp} {ls : List LrT} {t : Int} {js : List (List Leg)} {ar os : List Int} (h : D0 m (ls.map AJ) t js ar) (hos : ∀ x ∈ os, 0 ≤ x ∧ x < ls.length) : D0 m ((os.map (geL ls)).map AJ) t (os.map fun x => js.getD x.toNat []) (os.map (geI ar)) := by
  obtain ⟨h1, h2, h3⟩ := h
  rw [List.length_map] at h1 h2
  refine ⟨by simp, by simp, fun i g1 g2 g3 => ?_⟩
  have hi : i < os.length := by simpa using g2
  obtain ⟨q1, q2⟩ := hos _ (List.getElem_mem hi)
  have q3 : os[i].toNat < ls.length := by omega
  have := h3 os[i].toNat (by rw [List.length_map]; exact q3) (by omega) (by omega)
  simp only [List.getElem_map] at this ⊢
  have e1 : geL ls os[i] = ls[os[i].toNat] := by simp [geL, List.getD, q3]
  have e2 : js.getD os[i].toNat [] = js[os[i].toNat]'(by omega) := by
    have : os[i].toNat < js.length := by omega
    simp [List.getD, this]
  rw [e1, e2, D6 (by omega)]
  exact this
theorem Ez.sort {ar os out : List Int} {g : Int} (h : Ez (os.map (geI ar)) g (Eg os.length) out) : Ez ar g os out := by
  obtain ⟨h1, h2⟩ := h
  rw [Dj] at h1
  refine ⟨h1, fun i g1 g2 => ?_⟩
  have := h2 i g1 (by rw [Dj]; exact g2)
  rw [UQ, Gz (by rw [List.length_map]; exact g2), List.getElem_map] at this
  exact this
theorem VO.sort {m : Mp} {ls : List LrT} {t g e : Int} {js : List (List Leg)} {ar os out : List Int} (hc : cE m (ls.map AJ) t g = 0) (h : D0 m (ls.map AJ) t js ar) (hos : ∀ x ∈ os, 0 ≤ x ∧ x < ls.length) (hl : os.length ≤ 8)
    (ha : VO m ((os.map (geL ls)).map AJ) t g out e) : e = 0 ∧ Ez ar g os out := by
  have hc2 : cE m ((os.map (geL ls)).map AJ) t g = 0 := Vr hc (fun l hl => by
    obtain ⟨x, hx, rfl⟩ := List.mem_map.1 hl
    obtain ⟨z, hz, rfl⟩ := List.mem_map.1 hx
    exact List.mem_map_of_mem (U3 (hos z hz))) (by simpa using hl)
  have hf := h.sort hos
  rcases ha with ⟨c, _⟩ | ⟨_, (⟨c, _⟩ | ⟨rfl, js', ar', f, a⟩)⟩
  · exact absurd hc2 c
  · exact absurd c hf.nn
  · obtain ⟨_, rfl⟩ := f.uniq hf
    rw [List.length_map, List.length_map] at a
    exact ⟨rfl, a.sort⟩
section
variable {σ : Hp}
theorem Ts {w : MW} {m : Mp} {t g : Int} {A : Option Addr} {n c : Nat} {ls : List LrT} (h : MIn σ w m) (hp : m.pk.length ≤ 4294967296) (hr : m.rs.length ≤ 4294967296) (hl : RdS sL σ A n ls) (hll : ls.length ≤ 4294967296) :
    Ag Try.prog EI #[w.v, .slice A n c, .int .i64 t, .int .i64 g] σ fun v σ' => Hp.Sub σ σ' ∧ ∃ A' n' c' e, ∃ P : List Int, v = .tuple #[.slice A' n' c', .int .i64 e] ∧ RdS [.int .i64] σ' A' n' P ∧ PV m (ls.map AJ) t g P e := by
  refine (Tz (c := c) (t := t) (g := g) h hp hr hl hll).mono ?_
  rintro v σ' ⟨hs, (⟨e, rfl⟩ | ⟨e0, (⟨hno, rfl⟩ | ⟨A', n', c', js, ar, P, rfl, hj, hf, ha⟩)⟩)⟩
  · exact ⟨hs, _, _, _, _, [], rfl, ⟨rfl, .inl rfl⟩, .inl ⟨e, rfl, rfl⟩⟩
  · exact ⟨hs, _, _, _, _, [], rfl, ⟨rfl, .inl rfl⟩, .inr ⟨e0, .inl ⟨hno, rfl, rfl⟩⟩⟩
  · exact ⟨hs, _, _, _, _, P, rfl, hj, .inr ⟨e0, .inr ⟨rfl, js, ar, hf, by rw [List.length_map]; exact ha⟩⟩⟩
theorem T3 {w : MW} {m : Mp} {t g : Int} {A : Option Addr} {n c : Nat} {ls : List LrT} (h : MIn σ w m) (hp : m.pk.length ≤ 4294967296) (hr : m.rs.length ≤ 4294967296) (hl : RdS sL σ A n ls) :
    Ag Try.prog IL #[w.v, .slice A n c, .int .i64 t, .int .i64 g] σ fun v σ' => Hp.Sub σ σ' ∧ ∃ A' n' c' e, ∃ P : List Int, v = .tuple #[.slice A' n' c', .int .i64 e] ∧ RdS [.int .i64] σ' A' n' P ∧ PV m (ls.map AJ) t g P e := by
  refine (TY (c := c) (t := t) (g := g) h hp hr hl).mono ?_
  rintro v σ' ⟨hs, (⟨e, rfl⟩ | ⟨e0, (⟨hno, rfl⟩ | ⟨A', n', c', js, ar, P, rfl, hj, hf, ha⟩)⟩)⟩
  · exact ⟨hs, _, _, _, _, [], rfl, ⟨rfl, .inl rfl⟩, .inl ⟨e, rfl, rfl⟩⟩
  · exact ⟨hs, _, _, _, _, [], rfl, ⟨rfl, .inl rfl⟩, .inr ⟨e0, .inl ⟨hno, rfl, rfl⟩⟩⟩
  · exact ⟨hs, _, _, _, _, P, rfl, hj, .inr ⟨e0, .inr ⟨rfl, js, ar, hf, by rw [List.length_map]; exact ha⟩⟩⟩
set_option maxRecDepth 20000 in
theorem Wb {A : Option Addr} {n c N : Nat} {os : List Int} (h : RdS [.int .i64] σ A n os) (hl : os.length ≤ 1000000) (hN : N ≤ 1000000) : Ag Try.prog PT #[.slice A n c, .int .i64 (N : Int)] σ fun v σ' => ∃ t, v = .bool t ∧ σ' = σ ∧ (t = true → os.length = N ∧ os.Nodup ∧ ∀ x ∈ os, 0 ≤ x ∧ x < N) := by
  refine L6 _ _ _ _ _ _ ?_
  unfold Ht
  have hn : n = os.length := h.1
  refine Bj (fun _ => Av ⟨_, rfl, rfl, fun e => by cases e⟩) (fun en => ?_)
  have hln : os.length = N := by omega
  refine Ad fun J3 h3 => ?_
  refine ⟨fun q i τ => ∃ k : Nat, q = N - k ∧ i = k ∧ k ≤ N ∧ τ = σ ∧ ∀ j (_ : j < os.length), j < k → (0 ≤ os[j] ∧ os[j] < N) ∧ ∀ z (_ : z < os.length), z < j → os[z] ≠ os[j], ⟨_, 0, rfl, rfl, Nat.zero_le _, rfl, fun j _ hj => absurd hj (Nat.not_lt_zero _)⟩, ?_⟩
  rintro q i τ ⟨k, rfl, rfl, hk, rfl, hx⟩ _
  refine AK (fun hlt => ?_) (fun hge => ?_)
  · have hkl : k < os.length := by omega
    refine Ad fun J11 h11 => Ad fun J17 h17 => Ad fun J34 h34 => ?_
    have kf : (0 ≤ os[k] ∧ os[k] < N) → J34 false τ := by
      intro hr
      rw [h34]
      clear h34
      intro _
      refine Dw ?_
      rw [h17]
      clear h17
      intro _
      refine ⟨fun q p τ' => ∃ z : Nat, q = k - z ∧ p = z ∧ z ≤ k ∧ τ' = τ ∧ ∀ y (_ : y < os.length), y < z → os[y] ≠ os[k], ⟨_, 0, rfl, rfl, Nat.zero_le _, rfl, fun y _ hy => absurd hy (Nat.not_lt_zero _)⟩, ?_⟩
      rintro q p τ' ⟨z, rfl, rfl, hz, rfl, hy⟩ _
      refine AK (fun hlt2 => ?_) (fun hge2 => ?_)
      · have hzl : z < os.length := by omega
        refine BP h (by omega) (by simpa using hzl) (BP h (by omega) (by simpa using hkl) ?_)
        simp only [Int.toNat_natCast]
        refine AK (fun _ => Av ⟨_, rfl, rfl, fun e => by cases e⟩) (fun ne => AL (by omega) (Bf _ (by omega) ⟨z + 1, rfl, rfl, by omega, rfl, fun y h1 h2 => ?_⟩))
        by_cases ey : y = z
        · subst ey
          exact ne
        · exact hy y h1 (by omega)
      · obtain rfl : z = k := by omega
        rw [h11]
        intro _
        refine AL (by omega) (Bf _ (by omega) ⟨z + 1, rfl, rfl, by omega, rfl, fun j h1 h2 => ?_⟩)
        by_cases ej : j = z
        · subst ej
          exact ⟨hr, hy⟩
        · exact hx j h1 (by omega)
    have kt : J34 true τ := by
      rw [h34]
      intro _
      exact Ef (Av ⟨_, rfl, rfl, fun e => by cases e⟩)
    clear h34 h17 h11
    refine BP h (by omega) (by simpa using hkl) ?_
    simp only [Int.toNat_natCast]
    refine AK (fun _ => kt) (fun g1 => BP h (by omega) (by simpa using hkl) ?_)
    simp only [Int.toNat_natCast]
    by_cases g2 : (N : Int) ≤ os[k]
    · rw [decide_eq_true g2]
      exact kt
    · rw [decide_eq_false g2]
      exact kf ⟨by omega, by omega⟩
  · rw [h3]
    intro _
    refine Av ⟨_, rfl, rfl, fun _ => ⟨hln, ?_, fun x hx2 => ?_⟩⟩
    · refine List.pairwise_iff_getElem.2 fun i j hi hj hij => ?_
      exact (hx j hj (by omega)).2 i hi hij
    · obtain ⟨j, hj, rfl⟩ := List.mem_iff_getElem.1 hx2
      exact (hx j hj (by omega)).1
set_option maxRecDepth 20000 in
theorem PF {A oA : Option Addr} {n c on oc : Nat} {ls : List LrT} {os : List Int} (hl : RdS sL σ A n ls) (h : RdS [.int .i64] σ oA on os) (hos : ∀ x ∈ os, 0 ≤ x ∧ x < ls.length) (hb : os.length ≤ 1000000) :
    Ag Try.prog M1 #[.slice A n c, .slice oA on oc] σ fun v σ' => ∃ A' n' c', v = .slice A' n' c' ∧ Aj 27 sL σ A' n' c' (os.map (geL ls)) σ' := by
  refine Ks _ _ _ _ _ _ _ _ ?_
  unfold EF
  have hn : on = os.length := h.1
  refine Ad fun J3 h3 => ?_
  refine ⟨fun q (xs : List LrT) i τ => ∃ k : Nat, q = os.length - k ∧ i = k ∧ k ≤ os.length ∧ τ = σ ∧ xs = (os.take k).map (geL ls), ⟨os.length, [], σ, Aj.nil .., 0, rfl, rfl, Nat.zero_le _, rfl, rfl⟩, ?_⟩
  rintro q xs i τ ⟨k, rfl, rfl, hk, rfl, rfl⟩ _
  refine AK (fun hlt => ?_) (fun hge => ?_)
  · have hkl : k < os.length := by omega
    obtain ⟨q1, q2⟩ := hos _ (List.getElem_mem hkl)
    have q3 : os[k].toNat < ls.length := by omega
    refine BP h (by omega) (by simpa using hkl) ?_
    simp only [Int.toNat_natCast]
    refine Py hl q1 q3 ?_
    refine Bb (by show (List.map (geL ls) (os.take k)).length + 1 ≤ _; rw [List.length_map, List.length_take]; omega) (AL (by omega) (Bf _ (by omega) ⟨k + 1, rfl, rfl, by omega, rfl, ?_⟩))
    rw [List.take_succ_eq_append_getElem hkl, List.map_append, List.map_singleton]
    congr 2
    have e1 : geL ls os[k] = ls[os[k].toNat] := by simp [geL, List.getD, q3]
    rw [e1]
  · obtain rfl : k = os.length := by omega
    rw [List.take_length, h3]
    intro _ A5 n5 c5 σ6 ho
    exact Av ⟨_, _, _, rfl, ho⟩
end
end Go.Proofs.Ytkdjkkimngeloaa
