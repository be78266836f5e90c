/- Trimmed by wip/trim.py to what this claim rests on. -/
import Derived.Test.YtkdjkkimngeloaaZVg1
namespace Go.Proofs.Ytkdjkkimngeloaa
open Go.RowKit
theorem PJ {k : Nat} {pre : List Int} : rem (k + 1) pre = rem k pre ++ if (k : Int) ∈ pre then [] else [(k : Int)] := by
  unfold rem
  rw [Nz, List.filter_append]
  congr 1
  by_cases h : (k : Int) ∈ pre
  · rw [if_pos h]; simp [h]
  · rw [if_neg h]; simp [h]
theorem D1.zero {ar pre : List Int} : D1 ar 0 pre [] := ⟨List.Perm.refl _, List.Pairwise.nil⟩
theorem D1.skip {ar pre r : List Int} {k : Nat} (h : D1 ar k pre r) (hk : (k : Int) ∈ pre) : D1 ar (k + 1) pre r := by
  refine ⟨?_, h.2⟩
  rw [PJ, if_pos hk, List.append_nil]
  exact h.1
theorem D1.put {ar pre l1 l2 : List Int} {k : Nat} (h : D1 ar k pre (l1 ++ l2)) (hk : ¬ (k : Int) ∈ pre) (h1 : ∀ y ∈ l1, geI ar y ≤ geI ar k) (h2 : ∀ y ∈ l2, geI ar k ≤ geI ar y) : D1 ar (k + 1) pre (l1 ++ (k : Int) :: l2) := by
  refine ⟨?_, ?_⟩
  · rw [PJ, if_neg hk]
    exact (List.perm_middle.trans (List.Perm.cons _ h.1)).trans (List.perm_append_singleton ..).symm
  · have hs := h.2
    rw [List.map_append, List.pairwise_append] at hs
    obtain ⟨q1, q2, q3⟩ := hs
    rw [List.map_append, List.map_cons, List.pairwise_append]
    refine ⟨q1, List.pairwise_cons.2 ⟨fun y hy => ?_, q2⟩, fun a ha b hb => ?_⟩
    · obtain ⟨z, hz, rfl⟩ := List.mem_map.1 hy
      exact h2 z hz
    · rcases List.mem_cons.1 hb with rfl | hb
      · obtain ⟨z, hz, rfl⟩ := List.mem_map.1 ha
        exact h1 z hz
      · exact q3 a ha b hb
theorem D1.low {ar pre l1 l2 : List Int} {k : Nat} {y : Int} (h : D1 ar k pre ((l1 ++ [y]) ++ l2)) : ∀ z ∈ l1 ++ [y], geI ar z ≤ geI ar y := by
  intro z hz
  have hs := h.2
  rw [List.map_append, List.pairwise_append] at hs
  have hs := hs.1
  rw [List.map_append, List.pairwise_append] at hs
  rcases List.mem_append.1 hz with hz | hz
  · exact hs.2.2 _ (List.mem_map_of_mem hz) _ (List.mem_singleton.2 rfl)
  · obtain rfl := List.mem_singleton.1 hz
    exact Int.le_refl _
theorem TA {l1 l2 : List Int} {x y : Int} : ((l1 ++ y :: x :: l2).set (l1.length + 1) y).set l1.length x = l1 ++ x :: y :: l2 := by
  have e1 : (l1 ++ y :: x :: l2).set (l1.length + 1) y = l1 ++ y :: y :: l2 := by
    rw [List.set_append_right _ _ (by omega)]
    simp
  rw [e1, List.set_append_right _ _ (Nat.le_refl _)]
  simp
def Gd (n : Nat) (pre : List Int) : Prop := (pre ++ rem n pre).Perm (Eg n)
theorem Gd.nil {n : Nat} : Gd n [] := by
  unfold Gd
  rw [Kr]
  exact List.Perm.refl _
theorem Gd.len {n : Nat} {pre : List Int} (h : Gd n pre) : pre.length + (rem n pre).length = n := by
  have := h.length_eq
  rw [List.length_append, Dj] at this
  exact this
theorem Gd.add {n i : Nat} {pre : List Int} (h : Gd n pre) (hi : i < n) (hp : ¬ (i : Int) ∈ pre) : Gd n (pre ++ [(i : Int)]) := by
  have hx : (i : Int) ∈ rem n pre := Gu.2 ⟨⟨by omega, by omega⟩, hp⟩
  unfold Gd
  rw [List.append_assoc]
  exact (List.Perm.append_left pre (HC hx).symm).trans h
theorem Gd.mem {n : Nat} {pre r : List Int} (h : Gd n pre) (hr : r.Perm (rem n pre)) : pre ++ r ∈ EY n n [] := (Dl Cq).2 ⟨pre ++ r, rfl, by
  rw [Kr]
  exact (List.Perm.append_left pre hr).trans h⟩
section
variable {σ : Hp}
theorem RK {A A' : Option Addr} {n' c' on oc : Nat} {ar os : List Int} {g : Int} (hr : RdS [.int .i64] σ A' n' ar) (ho : RdS [.int .i64] σ A on os) (hos : ∀ x ∈ os, 0 ≤ x ∧ x < ar.length) (hl : os.length ≤ 1000000)
    (ha : ∀ x ∈ ar, 0 ≤ x ∧ x ≤ 1000000000) (hg : 0 ≤ g ∧ g ≤ 1000000) (hne : 0 < os.length) : Ag Try.prog N3 #[.slice A' n' c', .slice A on oc, .int .i64 g] σ fun v σ' => v = .int .i64 (fO ar g os) ∧ Hp.Sub σ σ' := by
  refine Lu _ _ _ _ _ _ _ _ _ ?_
  unfold Gf
  refine AV Iw (Ug hr ho hos hl ha hg) ?_
  rintro v σ2 ⟨A3, n3, c3, (out : List Int), rfl, ho3, harr⟩
  have hn3 : n3 = out.length := Aj.len ho3
  have hol := harr.1
  refine ⟨_, _, _, rfl, AL (by omega) ?_⟩
  have e1 : ((n3 : Nat) : Int) - 1 = ((out.length - 1 : Nat) : Int) := by omega
  rw [e1]
  refine BP (Aj.rd ho3) (by omega) (by rw [Int.toNat_natCast]; show out.length - 1 < out.length; omega) ?_
  refine Av ⟨?_, Aj.sub ho3⟩
  have hge : ∀ x ∈ os, 0 ≤ geI ar x := fun x hx => by
    obtain ⟨h1, h2⟩ := hos x hx
    rw [D6 (by omega)]
    exact (ha _ (List.getElem_mem _)).1
  have := harr.last hge
  unfold lsA vO at this
  rw [if_neg (by intro e; subst e; exact absurd hne (Nat.lt_irrefl _)), D6 (by rw [Int.toNat_natCast]; omega)] at this
  exact congrArg (Value.int .i64) this
set_option maxRecDepth 20000 in
theorem T5 {A A' : Option Addr} {n' c' on oc : Nat} {ar pre : List Int} (hr : RdS [.int .i64] σ A' n' ar) (ho : RdS [.int .i64] σ A on pre) (hl : pre.length ≤ 1000000) (hal : ar.length ≤ 1000000) :
    Ag Try.prog N7 #[.slice A' n' c', .slice A on oc] σ fun v σ' => ∃ A n c r, v = .slice A n c ∧ Aj 3 [.int .i64] σ A n c r σ' ∧ D1 ar ar.length pre r := by
  refine LF _ _ _ _ _ _ _ _ ?_
  unfold Gi
  have hn : n' = ar.length := hr.1
  have hon : on = pre.length := ho.1
  refine Ad fun J3 h3 => ?_
  refine ⟨fun q A9 l9 c9 i τ => ∃ (k : Nat) (xs : List Int), q = ar.length - k ∧ i = k ∧ k ≤ ar.length ∧ Aj 3 [.int .i64] σ A9 l9 c9 xs τ ∧ D1 ar k pre xs, ⟨_, 0, [], rfl, rfl, Nat.zero_le _, Aj.nil .., D1.zero⟩, ?_⟩
  rintro q A9 l9 c9 i τ ⟨k, xs, rfl, rfl, hk, hown, hrr⟩ _
  have hsτ : Hp.Sub σ τ := Aj.sub hown
  have hxl : xs.length ≤ ar.length := by
    rw [hrr.1.length_eq]
    unfold rem
    refine Nat.le_trans (List.length_filter_le _ _) ?_
    rw [Dj]
    exact hk
  refine AK (fun hlt => ?_) (fun hge => ?_)
  · have hkl : k < ar.length := by omega
    refine Ad fun J13 h13 => ?_
    have k13 : ∀ A l c r τ', Aj 3 [.int .i64] σ A l c r τ' → D1 ar (k + 1) pre r → J13 A l c τ' := by
      intro A l c r τ' h1 h2
      rw [h13]
      intro _
      exact AL (by omega) (Bf _ (by omega) ⟨k + 1, r, rfl, rfl, by omega, h1, h2⟩)
    clear h13
    refine Ad fun J20 h20 => ?_
    have k20 : J20 (decide ((k : Int) ∈ pre)) τ := by
      rw [h20]
      intro _
      refine AK (fun hin => k13 _ _ _ xs _ hown (hrr.skip hin)) (fun hin => ?_)
      refine J4 hown (Bb (by show xs.length + 1 ≤ _; omega) (AL (by simp; omega) ?_))
      have e1 : (((xs ++ [(k : Int)]).length : Nat) : Int) - 1 = (xs.length : Nat) := by simp
      rw [e1]
      refine ⟨fun q p zs τ' => ∃ l1 l2 : List Int, q = l1.length ∧ p = l1.length ∧ zs = l1 ++ (k : Int) :: l2 ∧ l1 ++ l2 = xs ∧ τ' = σ ∧ ∀ y ∈ l2, geI ar k ≤ geI ar y, ⟨_, xs, [], rfl, rfl, rfl, List.append_nil _, rfl, fun y hy => by cases hy⟩, ?_⟩
      rintro q p zs τ' ⟨l1, l2, rfl, rfl, rfl, rfl, rfl, h2⟩ _
      have hlen : l1.length ≤ ar.length := by
        have : (l1 ++ l2).length ≤ ar.length := hxl
        rw [List.length_append] at this
        omega
      have hzl : (l1 ++ (k : Int) :: l2).length = l1.length + l2.length + 1 := by simp; omega
      refine Ad fun J33 h33 => ?_
      have k33 : ∀ l0 y, l1 = l0 ++ [y] → geI ar k < geI ar y → J33 τ' := by
        rintro l0 y rfl hlt2
        rw [h33]
        intro _
        have hl1 : (l0 ++ [y]).length = l0.length + 1 := by simp
        rw [hl1] at hzl hlen
        have ez : (l0 ++ [y]) ++ (k : Int) :: l2 = l0 ++ y :: (k : Int) :: l2 := by simp
        rw [hl1, ez]
        rw [ez] at hzl
        have ep : ((l0.length + 1 : Nat) : Int) - 1 = (l0.length : Nat) := by omega
        refine AL (by omega) (AL (by omega) ?_)
        rw [ep]
        refine ⟨by omega, by omega, GP (by rw [Int.toNat_natCast]; omega) ⟨by omega, by omega, GP (by rw [Int.toNat_natCast]; omega) ⟨by omega, by omega, GP (by rw [Int.toNat_natCast]; omega) ⟨by omega, by rw [List.length_set]; omega, GP (by rw [List.length_set, Int.toNat_natCast]; omega) ?_⟩⟩⟩⟩
        refine AL (by omega) (Bf _ (by omega) ⟨l0, y :: l2, rfl, by omega, ?_, by simp, rfl, fun z hz => ?_⟩)
        · simp only [Int.toNat_natCast]
          have e2 : (l0 ++ y :: (k : Int) :: l2)[l0.length]'(by omega) = y := by simp
          have e3 : (l0 ++ y :: (k : Int) :: l2)[l0.length + 1]'(by omega) = (k : Int) := by
            rw [List.getElem_append_right (by omega)]
            simp
          rw [e2, e3]
          exact TA
        · rcases List.mem_cons.1 hz with rfl | hz
          · omega
          · exact h2 z hz
      clear h33
      refine Ad fun J45 h45 => ?_
      have kf : (∀ y ∈ l1, geI ar y ≤ geI ar k) → J45 false τ' := by
        intro h1
        rw [h45]
        intro _
        refine Dw ?_
        intro A47 l47 c47 σ48 ho48
        exact k13 _ _ _ _ _ ho48 (hrr.put hin h1 h2)
      have kt : ∀ l0 y, l1 = l0 ++ [y] → geI ar k < geI ar y → J45 true τ' := by
        intro l0 y e h
        rw [h45]
        intro _
        exact Ef (k33 l0 y e h)
      refine AK (fun hpos => ?_) (fun hpos => kf fun y hy => ?_)
      · have hp1 : 0 < l1.length := by omega
        refine ⟨by omega, by omega, GP (by rw [Int.toNat_natCast]; omega) ?_⟩
        have e2 : (l1 ++ (k : Int) :: l2)[((l1.length : Nat) : Int).toNat]'(by rw [Int.toNat_natCast]; omega) = (k : Int) := by
          simp
        rw [e2]
        refine BP hr (by omega) (by simpa using hkl) ?_
        refine AL (by omega) ⟨by omega, by omega, GP (show (((l1.length : Nat) : Int) - 1).toNat < _ by omega) ?_⟩
        obtain ⟨l0, y, rfl⟩ : ∃ l0 y, l1 = l0 ++ [y] := ⟨l1.dropLast, l1.getLast (List.length_pos_iff.1 hp1), (List.dropLast_concat_getLast _).symm⟩
        have hl1 : (l0 ++ [y]).length = l0.length + 1 := by simp
        have e3 : ((l0 ++ [y]) ++ (k : Int) :: l2)[((((l0 ++ [y]).length : Nat) : Int) - 1).toNat]'(by omega) = y := by
          have : ((((l0 ++ [y]).length : Nat) : Int) - 1).toNat = l0.length := by omega
          simp only [this]
          simp
        rw [e3]
        have hy : 0 ≤ y ∧ y < k := by
          have hm : y ∈ rem k pre := hrr.1.mem_iff.1 (by simp)
          exact (Gu.1 hm).1
        refine BP hr hy.1 (by omega) ?_
        have g1 : ar[((k : Nat) : Int).toNat]'(by simpa using hkl) = geI ar k := (D6 (by simpa using hkl)).symm
        have g2 : ar[y.toNat]'(by omega) = geI ar y := (D6 (by omega)).symm
        rw [g1, g2]
        by_cases e4 : geI ar k < geI ar y
        · rw [decide_eq_true e4]
          exact kt l0 y rfl e4
        · rw [decide_eq_false e4]
          exact kf fun z hz => by
            have := hrr.low z hz
            omega
      · have : l1 = [] := List.length_eq_zero_iff.1 (by omega)
        subst this
        cases hy
    clear h20
    refine ⟨fun q t p τ' => ∃ j : Nat, q = pre.length - j ∧ p = j ∧ j ≤ pre.length ∧ τ' = τ ∧ t = decide ((k : Int) ∈ pre.take j), ⟨_, 0, rfl, rfl, Nat.zero_le _, rfl, rfl⟩, ?_⟩
    rintro q t p τ' ⟨j, rfl, rfl, hj, rfl, rfl⟩ _
    refine AK (fun hlt2 => ?_) (fun hge2 => ?_)
    · have hjl : j < pre.length := by omega
      refine Ad fun J66 h66 => ?_
      have k66 : J66 (decide ((k : Int) ∈ pre.take (j + 1))) τ' := by
        rw [h66]
        intro _
        exact AL (by omega) (Bf _ (by omega) ⟨j + 1, rfl, rfl, by omega, rfl, rfl⟩)
      have etk : pre.take (j + 1) = pre.take j ++ [pre[j]] := List.take_succ_eq_append_getElem hjl
      rw [etk] at k66
      refine AK (fun hin => ?_) (fun hin => ?_)
      · rw [decide_eq_true (List.mem_append_left _ hin)] at k66
        exact k66
      · refine BP (ho.sub hsτ) (by omega) (by simpa using hjl) ?_
        simp only [Int.toNat_natCast]
        have : (decide (pre[j] = (k : Int))) = decide ((k : Int) ∈ pre.take j ++ [pre[j]]) := by
          rw [decide_eq_decide, List.mem_append, List.mem_singleton]
          exact ⟨fun e => .inr e.symm, fun h => h.elim (fun h => absurd h hin) Eq.symm⟩
        rw [this]
        exact k66
    · obtain rfl : j = pre.length := by omega
      rw [List.take_length]
      exact k20
  · obtain rfl : k = ar.length := by omega
    rw [h3]
    intro _
    exact Av ⟨_, _, _, xs, rfl, hown, hrr⟩
set_option maxRecDepth 100000 in
theorem TY {w : MW} {m : Mp} {t g : Int} {A : Option Addr} {n c : Nat} {ls : List LrT} (h : MIn σ w m) (hp : m.pk.length ≤ 4294967296) (hr : m.rs.length ≤ 4294967296) (hl : RdS sL σ A n ls) :
    Ag Try.prog IL #[w.v, .slice A n c, .int .i64 t, .int .i64 g] σ fun v σ' => Hp.Sub σ σ' ∧
      ((¬ cE m (ls.map AJ) t g = 0 ∧ v = .tuple #[.slice none 0 0, .int .i64 (cE m (ls.map AJ) t g)]) ∨ (cE m (ls.map AJ) t g = 0 ∧ ((OU m (ls.map AJ) t ∧ v = .tuple #[.slice none 0 0, .int .i64 3]) ∨
        ∃ A' n' c' js ar, ∃ P : List Int, v = .tuple #[.slice A' n' c', .int .i64 0] ∧ RdS [.int .i64] σ' A' n' P ∧ D0 m (ls.map AJ) t js ar ∧ J0 ar g ls.length P))) := by
  refine Ky _ _ _ _ _ _ _ _ _ _ _ _ _ ?_
  unfold Fh
  have hn := hl.lenL
  refine clI E3 (Ni (t := t) (g := g) h hp hr hl) (Bj (fun e => Av ⟨Hp.Sub.refl _, .inl ⟨e, rfl⟩⟩) (fun e0 => ?_))
  obtain ⟨e1, hg⟩ := O4 e0
  obtain ⟨hm, h8, hlo, ht⟩ := ML e1
  rw [List.length_map] at h8
  refine AV Hc (P8 (t := t) h hm.ok hl hlo (by omega)) ?_
  rintro v σ5 ⟨A6, n6, c6, b, js, (ar : List Int), rfl, hs5, h1, h2⟩
  refine ⟨_, _, _, _, rfl, Hn (fun eb => Av ⟨hs5, .inr ⟨e0, .inl ⟨h2 eb, rfl⟩⟩⟩) (fun eb => ?_)⟩
  obtain ⟨hra, hfl⟩ := h1 eb
  clear h1 h2
  have hal : List.length (α := Int) ar = ls.length := by rw [hfl.2.1, List.length_map]
  have hjl : js.length = ls.length := by rw [hfl.1, List.length_map]
  have har : ∀ x ∈ ar, 0 ≤ x ∧ x ≤ 1000000000 := fun x hx => by
    obtain ⟨i, hi, rfl⟩ := List.mem_iff_getElem.1 hx
    have := ((hfl.2.2 i (by rw [List.length_map]; omega) (by omega) hi).sml hm.ok (hlo _ (List.getElem_mem _))).1
    omega
  refine AK (fun en => Av ⟨hs5, .inr ⟨e0, .inr ⟨_, _, _, js, ar, [], rfl, ⟨rfl, .inl rfl⟩, hfl, ?_⟩⟩⟩) (fun en => ?_)
  · have : ls.length = 0 := by omega
    rw [this]
    refine ⟨0, rfl, fun o ho => ?_⟩
    obtain rfl := List.mem_singleton.1 ho
    exact Int.le_refl _
  have hN : 0 < ls.length := by omega
  refine AV EJ (T5 (pre := []) (A := none) (on := 0) hra ⟨rfl, .inl rfl⟩ (Nat.zero_le _) (by omega)) ?_
  rintro v σ9 ⟨A10, n10, c10, (r0 : List Int), rfl, ho10, hr0⟩
  rw [hal] at hr0
  refine ⟨_, _, _, rfl, ?_⟩
  have hs9 : Hp.Sub σ5 σ9 := Aj.sub ho10
  have hmem0 : [] ++ r0 ∈ EY ls.length ls.length [] := Gd.nil.mem hr0.1
  have hord : ∀ o ∈ EY ls.length ls.length [], o.length = ls.length ∧ ∀ x ∈ o, 0 ≤ x ∧ x < ar.length := fun o ho => by
    rw [hal]
    exact JR ho
  have hl0 := hord _ hmem0
  have hl0 : r0.length = ls.length ∧ ∀ x ∈ r0, 0 ≤ x ∧ x < ar.length := hl0
  refine AV Eo (RK (g := g) (hra.sub hs9) (Aj.rd ho10) hl0.2 (by omega) har ⟨hg.1, by omega⟩ (by omega)) ?_
  rintro v σ12 ⟨rfl, hs12⟩
  refine ⟨_, rfl, ?_⟩
  have hs0 : Hp.Sub σ5 σ12 := hs9.trans hs12
  have hbest : ∀ o ∈ EY ls.length ls.length [], fO ar g r0 ≤ fO ar g o := fun o ho => by
    obtain ⟨q, rfl, hq⟩ := (Dl Cq).1 ho
    exact hr0.best (pre := []) hg.1 hq
  have hex : ∃ P, GC ar g (fO ar g r0) ls.length ls.length [] = some P := by
    cases e : GC ar g (fO ar g r0) ls.length ls.length [] with
    | none => exact absurd rfl ((NL hg.1 Cq hr0 (Int.le_refl _)).1 e)
    | some P => exact ⟨P, rfl⟩
  obtain ⟨P, hP⟩ := hex
  generalize hbv : fO ar g r0 = best at *
  refine Ad fun J16 h16 => ?_
  refine ⟨fun q A22 l22 c22 τ => ∃ (pre : List Int) (sb : Hp), q = ls.length - pre.length ∧ Hp.Sub σ12 sb ∧ Aj 3 [.int .i64] sb A22 l22 c22 pre τ ∧ Gd ls.length pre ∧ GC ar g best ls.length (ls.length - pre.length) pre = some P, ⟨_, [], σ12, rfl, Hp.Sub.refl _, Aj.nil .., Gd.nil, hP⟩, ?_⟩
  rintro q A22 l22 c22 τ ⟨pre, sb, rfl, hsb, hown, hgd, hhb⟩ _
  have hgl := hgd.len
  have hl22 : l22 = pre.length := Aj.len hown
  refine AK (fun hlt => ?_) (fun hge => ?_)
  · obtain ⟨k, hk⟩ : ∃ k, ls.length - pre.length = k + 1 := ⟨ls.length - pre.length - 1, by omega⟩
    rw [hk] at hhb ⊢
    refine ⟨fun q A27 l27 c27 i τ' => ∃ (j : Nat) (sb : Hp), q = ls.length - j ∧ i = j ∧ j ≤ ls.length ∧ Hp.Sub σ12 sb ∧ Aj 3 [.int .i64] sb A27 l27 c27 pre τ' ∧ ∀ x : Nat, x < j → (x : Int) ∈ pre ∨ GC ar g best ls.length k (pre ++ [(x : Int)]) = none, ⟨_, 0, sb, rfl, rfl, Nat.zero_le _, hsb, hown, fun x hx => absurd hx (Nat.not_lt_zero _)⟩, ?_⟩
    clear hown hsb hl22 hlt sb τ A22 l22 c22
    rintro q A27 l27 c27 i τ ⟨j, sb, rfl, rfl, hj, hsb, hown, hno⟩ _
    have hl27 : l27 = pre.length := Aj.len hown
    have hτ : Hp.Sub σ5 τ := hs0.trans (hsb.trans (Aj.sub hown))
    refine AK (fun hlt => ?_) (fun hge => ?_)
    · have hjl' : j < ls.length := by omega
      refine Ad fun J31 h31 => ?_
      have k31 : ∀ sb' τ', Hp.Sub σ12 sb' → Aj 3 [.int .i64] sb' A27 l27 c27 pre τ' → ((j : Int) ∈ pre ∨ GC ar g best ls.length k (pre ++ [(j : Int)]) = none) → J31 A27 l27 c27 τ' := by
        intro sb' τ' h1 h2 h3
        rw [h31]
        intro _
        refine AL (by omega) (Bf _ (by omega) ⟨j + 1, sb', rfl, rfl, by omega, h1, h2, fun x hx => ?_⟩)
        by_cases ex : x = j
        · subst ex
          exact h3
        · exact hno x (by omega)
      clear h31
      refine Ad fun J38 h38 => ?_
      have k38 : J38 (decide ((j : Int) ∈ pre)) τ := by
        rw [h38]
        intro _
        refine ⟨pre, Aj.rd hown, Bb (by show 0 + pre.length ≤ _; omega) (Bb (by show pre.length + 1 ≤ _; omega) ?_)⟩
        refine Ad fun J43 h43 => ?_
        have kt : ∀ τ', Hp.Sub τ τ' → ¬ (j : Int) ∈ pre → GC ar g best ls.length k (pre ++ [(j : Int)]) = some P → J43 true τ' := by
          intro τ' hs' hin hh
          rw [h43]
          intro _
          refine Ef ?_
          obtain ⟨sb', q1, q2⟩ := Aj.junk hown hs'
          refine J4 q1 (Bb (by show pre.length + 1 ≤ _; omega) (Bf (ls.length - (pre.length + 1)) (by omega) ?_))
          intro A49 l49 c49 σ50 ho50
          refine ⟨pre ++ [(j : Int)], sb', by rw [List.length_append]; rfl, hsb.trans q2, ho50, hgd.add hjl' hin, ?_⟩
          have e9 : ls.length - (pre ++ [(j : Int)]).length = k := by
            rw [List.length_append, List.length_singleton]
            omega
          rw [e9]
          exact hh
        have kf : ∀ τ', Hp.Sub τ τ' → ((j : Int) ∈ pre ∨ GC ar g best ls.length k (pre ++ [(j : Int)]) = none) → J43 false τ' := by
          intro τ' hs' hh
          rw [h43]
          intro _
          refine Dw ?_
          obtain ⟨sb', q1, q2⟩ := Aj.junk hown hs'
          exact k31 sb' _ (hsb.trans q2) q1 hh
        clear h43
        refine Bj (fun hin => ?_) (fun hin => kf _ (Hp.Sub.refl _) (.inl hin))
        intro A51 l51 c51 σ52 ho51
        have ho51 : Aj 3 [.int .i64] τ A51 l51 c51 (pre ++ [(j : Int)]) σ52 := ho51
        have hgd2 := hgd.add hjl' hin
        have hgl2 := hgd2.len
        have hpl : (pre ++ [(j : Int)]).length = pre.length + 1 := by simp
        refine AV EJ (T5 (hra.sub (hτ.trans (Aj.sub ho51))) (Aj.rd ho51) (by omega) (by omega)) ?_
        rintro v σ54 ⟨A55, n55, c55, (r : List Int), rfl, ho55, hrr⟩
        rw [hal] at hrr
        refine ⟨_, _, _, rfl, ?_⟩
        obtain ⟨s', q1, q2⟩ := Aj.swap ho51 ho55
        refine J4 q2 ⟨r, Aj.rd q1, Bb ?_ ?_⟩
        · show (pre ++ [(j : Int)]).length + r.length ≤ _
          have := hrr.1.length_eq
          omega
        intro A59 l59 c59 σ60 ho59
        have ho59 : Aj 3 [.int .i64] s' A59 l59 c59 ((pre ++ [(j : Int)]) ++ r) σ60 := ho59
        have hmem := hgd2.mem hrr.1
        have hlo2 := hord _ hmem
        have hsτ60 : Hp.Sub τ σ60 := (Aj.sub q1).trans (Aj.sub ho59)
        refine AV Eo (RK (g := g) (hra.sub (hτ.trans hsτ60)) (Aj.rd ho59) hlo2.2 (by omega) har ⟨hg.1, by omega⟩ (by omega)) ?_
        rintro v σ62 ⟨rfl, hs62⟩
        refine ⟨_, rfl, ?_⟩
        have hkk : k = (rem ls.length (pre ++ [(j : Int)])).length := by omega
        have hiff := NL hg.1 hkk hrr (hbest _ hmem)
        by_cases ev : fO ar g ((pre ++ [(j : Int)]) ++ r) = best
        · rw [decide_eq_true ev]
          refine kt _ (hsτ60.trans hs62) hin ?_
          cases eh : GC ar g best ls.length k (pre ++ [(j : Int)]) with
          | none => exact absurd ev (hiff.1 eh)
          | some Q =>
            have := RY hjl' hin hno eh
            rw [hhb] at this
            exact this.symm
        · rw [decide_eq_false ev]
          exact kf _ (hsτ60.trans hs62) (.inr (hiff.2 ev))
      clear h38
      refine ⟨fun q t p τ' => ∃ y : Nat, q = pre.length - y ∧ p = y ∧ y ≤ pre.length ∧ τ' = τ ∧ t = decide ((j : Int) ∈ pre.take y), ⟨_, 0, rfl, rfl, Nat.zero_le _, rfl, rfl⟩, ?_⟩
      rintro q t p τ' ⟨y, rfl, rfl, hy, rfl, rfl⟩ _
      refine AK (fun hlt2 => ?_) (fun hge2 => ?_)
      · have hjl : y < pre.length := by omega
        refine Ad fun J66 h66 => ?_
        have k66 : J66 (decide ((j : Int) ∈ pre.take (y + 1))) τ' := by
          rw [h66]
          intro _
          exact AL (by omega) (Bf _ (by omega) ⟨y + 1, rfl, rfl, by omega, rfl, rfl⟩)
        have etk : pre.take (y + 1) = pre.take y ++ [pre[y]] := List.take_succ_eq_append_getElem hjl
        rw [etk] at k66
        refine AK (fun hin => ?_) (fun hin => ?_)
        · rw [decide_eq_true (List.mem_append_left _ hin)] at k66
          exact k66
        · refine BP (Aj.rd hown) (by omega) (by simpa using hjl) ?_
          simp only [Int.toNat_natCast]
          have : (decide (pre[y] = (j : Int))) = decide ((j : Int) ∈ pre.take y ++ [pre[y]]) := by
            rw [decide_eq_decide, List.mem_append, List.mem_singleton]
            exact ⟨fun e => .inr e.symm, fun h => h.elim (fun h => absurd h hin) Eq.symm⟩
          rw [this]
          exact k66
      · obtain rfl : y = pre.length := by omega
        rw [List.take_length]
        exact k38
    · obtain rfl : j = ls.length := by omega
      rw [Qz hno] at hhb
      cases hhb
  · have ek : ls.length - pre.length = 0 := by omega
    rw [ek] at hhb
    rw [h16]
    intro _
    have hPp : P = pre := by
      have := List.mem_of_find?_eq_some hhb
      exact List.mem_singleton.1 this
    subst hPp
    exact Av ⟨hs5.trans (hs0.trans (hsb.trans (Aj.sub hown))), .inr ⟨e0, .inr ⟨_, _, _, js, ar, P, rfl, Aj.rd hown, hfl, Th hN hP hbest⟩⟩⟩
end
end Go.Proofs.Ytkdjkkimngeloaa
