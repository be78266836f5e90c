/- Trimmed by wip/trim.py to what this claim rests on. -/
import Derived.Test.YtecodlefcmjihaaGreatWTk1
namespace Go.Proofs.YtecodlefcmjihaaGreat
open Go.RowKit
abbrev s2 : List Sh := [.int .i64, .int .i64]
theorem Qu {σ : Hp} {A : Option Addr} {n : Nat} {xs : List (Int × Int)} {K : Nat → Nat → Prop} (h : RdS s2 σ A n xs) {i : Nat} (hi : i < xs.length) (hk : ∀ b o, σ.cell? ⟨b, o, none⟩ = some (.int .i64 xs[i].1) → σ.cell? ⟨b, o + 1, none⟩ = some (.int .i64 xs[i].2) → K b o) : ix A n i 2 K := by
  have hk' : ((i : Nat) : Int).toNat < (xs : List (TyR s2)).length := by rw [Int.toNat_natCast]; exact hi
  refine NS (ss := s2) h rfl (by omega) hk' fun b o hc => ?_
  exact hk b o (hc 0 (by show 0 < 2; omega)) (hc 1 (by show 1 < 2; omega))
def BN (m : Nat) (xs : List (Int × Int)) (i : Int) (t : Nat) : List (List Int) := (List.range (xs.length + 1)).map fun j : Nat => if i < j then Aw m (xs.drop j) else if (j : Int) = i then Ee (xs.getD j (0, 0)) (Aw m (xs.drop (j + 1))) t else List.replicate m none60
theorem OT {m : Nat} {xs : List (Int × Int)} {i : Int} {t : Nat} : (BN m xs i t).length = xs.length + 1 := by simp [BN]
theorem Js {m : Nat} {xs : List (Int × Int)} {i : Int} {t j : Nat} (h : j < xs.length + 1) : (BN m xs i t).getD j [] = if i < j then Aw m (xs.drop j) else if (j : Int) = i then Ee (xs.getD j (0, 0)) (Aw m (xs.drop (j + 1))) t else List.replicate m none60 := by
  unfold BN
  simp [List.getD, h]
theorem QA {m : Nat} {xs : List (Int × Int)} {i : Int} {t j : Nat} (h : j < xs.length + 1) : ((BN m xs i t).getD j []).length = m := by
  rw [Js h]
  split
  · exact Ba _
  · split
    · rw [Cm, Ba]
    · simp
theorem RO {m : Nat} {xs : List (Int × Int)} {i t : Nat} (_hi : i < xs.length) : (BN m xs i t).set i (Ee (xs.getD i (0, 0)) (Aw m (xs.drop (i + 1))) (t + 1)) = BN m xs i (t + 1) := by
  apply List.ext_getElem
  · simp [BN]
  · intro j h1 h2
    rw [List.getElem_set]
    split
    · rename_i e
      subst e
      simp [BN]
    · rename_i e
      have e' : ¬ (j : Int) = (i : Int) := by omega
      simp [BN, e']
theorem RT {m : Nat} {xs : List (Int × Int)} {i : Nat} (hi : i < xs.length) : BN m xs i m = BN m xs ((i : Int) - 1) 0 := by
  apply List.ext_getElem
  · simp [BN]
  · intro j h1 h2
    have hj : j < xs.length + 1 := by simpa [BN] using h1
    simp only [BN, List.getElem_map, List.getElem_range]
    by_cases c1 : (i : Int) < j
    · rw [if_pos c1, if_pos (by omega)]
    · rw [if_neg c1]
      by_cases c2 : (j : Int) = i
      · have e : j = i := by omega
        subst e
        rw [if_pos rfl, if_pos (by omega)]
        have e1 : xs.drop j = xs[j] :: xs.drop (j + 1) := List.drop_eq_getElem_cons hi
        have e2 : xs.getD j (0, 0) = xs[j] := by simp [List.getD, hi]
        rw [e1, e2, Aw, M7, Ba]
      · rw [if_neg c2, if_neg (by omega)]
        by_cases c3 : (j : Int) = (i : Int) - 1
        · rw [if_pos c3, Ee, Ba]
        · rw [if_neg c3]
theorem Qp {m : Nat} {xs : List (Int × Int)} : (List.replicate (xs.length + 1) (List.replicate m none60)).set xs.length ((List.replicate m none60).set 0 0) = BN m xs ((xs.length : Int) - 1) 0 := by
  apply List.ext_getElem
  · simp [BN]
  · intro j h1 h2
    have hj : j < xs.length + 1 := by simpa using h1
    simp only [BN, List.getElem_map, List.getElem_range]
    rw [List.getElem_set]
    split
    · rename_i e
      subst e
      rw [if_pos (by omega), List.drop_length]
      rfl
    · rename_i e
      rw [if_neg (by omega), List.getElem_replicate]
      split
      · rw [Ee, Ba]
      · rfl
theorem R4 {m : Nat} {xs : List (Int × Int)} {j : Nat} (h : j < xs.length + 1) : (BN m xs (-1) 0).getD j [] = Aw m (xs.drop j) := by
  rw [Js h, if_pos (by omega)]
theorem Ve {m : Nat} {xs : List (Int × Int)} (hb : ∀ b ∈ xs, bOK b) {i t : Nat} (hi : i < xs.length) (ht : t ≤ m) : Oa (Ee (xs.getD i (0, 0)) (Aw m (xs.drop (i + 1))) t) := by
  have e2 : xs.getD i (0, 0) = xs[i] := by simp [List.getD, hi]
  rw [e2]
  exact Pn (hb _ (List.getElem_mem hi)) (FQ _ fun b h => hb b (List.mem_of_mem_drop h)) t (by rw [Ba]; exact ht)
def L6 (m : Nat) (xs : List (Int × Int)) (t : Int) (k : Nat) (c : Int) : List Int := (Bk m xs t).take k ++ c :: List.replicate (xs.length - k - 1) 0
theorem Ue {m : Nat} {xs : List (Int × Int)} {t : Int} {k : Nat} {c : Int} (h : k < xs.length) : (L6 m xs t k c).length = xs.length := by
  unfold L6
  rw [List.length_append, List.length_take, Cr, List.length_cons, List.length_replicate]
  omega
theorem VV {m : Nat} {xs : List (Int × Int)} {t : Int} {k : Nat} {c : Int} (h : k < xs.length) : gt (L6 m xs t k c) k = c := by
  have h1 : ((Bk m xs t).take k).length = k := by rw [List.length_take, Cr]; omega
  unfold gt L6
  simp only [Int.toNat_natCast, List.getD]
  rw [List.getElem?_append_right (by omega), h1, Nat.sub_self]
  rfl
theorem UF {m : Nat} {xs : List (Int × Int)} {t : Int} {k : Nat} {c d : Int} (h : k < xs.length) : (L6 m xs t k c).set k d = L6 m xs t k d := by
  have h1 : ((Bk m xs t).take k).length = k := by rw [List.length_take, Cr]; omega
  unfold L6
  rw [List.set_append_right _ _ (by omega), h1, Nat.sub_self]
  rfl
theorem Tt {m : Nat} {xs : List (Int × Int)} {t : Int} {k : Nat} (h : k < xs.length) : (Bk m xs t).take k ++ List.replicate (xs.length - k) 0 = L6 m xs t k 0 := by
  unfold L6
  have e : xs.length - k = xs.length - k - 1 + 1 := by omega
  rw [e, List.replicate_succ]
  simp
theorem Tw {m : Nat} {xs : List (Int × Int)} {t : Int} {k : Nat} (h : k < xs.length) : L6 m xs t k ((Bk m xs t)[k]'(by rw [Cr]; exact h)) = (Bk m xs t).take (k + 1) ++ List.replicate (xs.length - (k + 1)) 0 := by
  unfold L6
  rw [List.take_succ_eq_append_getElem (by rw [Cr]; exact h), List.append_assoc]
  rfl
def Xp (σ : Hp) (m : Nat) (xs : List (Int × Int)) (n : Int) : Value → Hp → Prop := fun v σ' => ∃ (s : SL) (p : Int), v = .tuple #[s.v, .int .i64 p] ∧ Hp.Sub σ σ' ∧ (gt (Aw m xs) (BW (Aw m xs) n 1001) = none60 → s.A = none ∧ p = 0) ∧
  (¬ gt (Aw m xs) (BW (Aw m xs) n 1001) = none60 → p = gt (Aw m xs) (BW (Aw m xs) n 1001) ∧ RdS [.int .i64] σ' s.A s.n (Bk m xs (BW (Aw m xs) n 1001)))
section
variable {σ : Hp}
set_option maxRecDepth 20000 in
theorem XU {A : Option Addr} {an ac : Nat} {xs : List (Int × Int)} {n : Int} (hx : RdS s2 σ A an xs) (hl : xs.length ≤ 1000) (hb : ∀ b ∈ xs, bOK b) (hn : 0 ≤ n ∧ n ≤ 1000) : Al Tryz.prog KX #[.slice A an ac, .int .i64 n] σ (Xp σ (n + 1001).toNat xs n) := by
  refine Nc _ _ _ _ _ _ ?_
  unfold Hq
  have han : an = xs.length := hx.1
  subst han
  obtain ⟨m, hm⟩ : ∃ m, m = (n + 1001).toNat := ⟨_, rfl⟩
  rw [← hm]
  have hmi : (m : Int) = n + 1001 := by omega
  refine AJ (by omega) (AJ (by omega) ⟨by omega, Int.le_refl _, by omega, ?_⟩)
  have en2 : (((xs.length : Nat) : Int) + 1).toNat = xs.length + 1 := by omega
  rw [en2]
  refine Aj fun J5 h5 => ?_
  have k5 : ∀ (s : SL) τ, BM s (List.replicate (xs.length + 1) (List.replicate m none60)) σ τ → J5 s.A s.n s.c τ := by
    intro s τ hR
    rw [h5]
    intro _
    have hg0 : (List.replicate (xs.length + 1) (List.replicate m none60)).getD xs.length [] = List.replicate m none60 := by simp [List.getD]
    obtain ⟨s', q1, q2, q3⟩ := hR.st (r := xs.length) (t := 0) (v := 0) (by simp) (by omega) (by rw [hg0, List.length_replicate]; omega)
    refine q1 _ (q3 _ fun τ hR => ?_)
    rw [hg0, show (0 : Int).toNat = 0 from rfl, Qp] at hR
    clear q1 q2 q3
    refine Aj fun J15 h15 => ?_
    have k15 : ∀ τ, BM s (BN m xs (-1) 0) σ τ → J15 τ := by
      intro τ hR
      rw [h15]
      intro _
      have hg : ∀ j : Nat, j < xs.length + 1 → (BN m xs (-1) 0).getD j [] = Aw m (xs.drop j) := fun j hj => R4 hj
      have hgl : ∀ j : Nat, j < xs.length + 1 → ((BN m xs (-1) 0).getD j []).length = m := fun j hj => QA hj
      have hql : (BN m xs (-1) 0).length = xs.length + 1 := OT
      have h0 := hg 0 (by omega)
      rw [List.drop_zero] at h0
      have get0 : ∀ {t : Int} {K : Int → Prop}, 0 ≤ t → t < m → K (gt (Aw m xs) t) → ix s.A s.n 0 1 fun b a => ldS τ b a fun A n _ => ix A n t 1 fun b a => ldI τ .i64 b a K := fun {t K} t0 t1 hk => hR.get (r := 0) (by omega) t0 (by rw [hgl 0 (by omega)]; exact t1) (by rw [h0]; exact hk)
      have hsub := hR.sub
      have hx' := hx.sub hsub
      have hin0 := FQ (m := m) xs hb
      have hsel : ∀ k : Nat, n ≤ BW (Aw m xs) n k ∧ BW (Aw m xs) n k ≤ n + k := fun k => PM k
      refine Aj fun J18 h18 => ?_
      have k18 : J18 (BW (Aw m xs) n 1001) τ := by
        rw [h18]
        intro _
        have hs := hsel 1001
        have hsm : BW (Aw m xs) n 1001 < m ∨ BW (Aw m xs) n 1001 = m := by omega
        have hslt : BW (Aw m xs) n 1001 < m := by
          have h1 := hsel 1000
          have e : BW (Aw m xs) n 1001 = if gt (Aw m xs) (n + (1000 : Nat)) < gt (Aw m xs) (BW (Aw m xs) n 1000) then n + (1000 : Nat) else BW (Aw m xs) n 1000 := rfl
          rw [e]
          split <;> omega
        refine get0 (by omega) hslt ?_
        obtain ⟨tk, htk⟩ : ∃ tk, tk = BW (Aw m xs) n 1001 := ⟨_, rfl⟩
        have goal' : ∀ v σ', Xp σ m xs n v σ' = ∃ (s : SL) (p : Int), v = .tuple #[s.v, .int .i64 p] ∧ Hp.Sub σ σ' ∧ (gt (Aw m xs) tk = none60 → s.A = none ∧ p = 0) ∧ (¬ gt (Aw m xs) tk = none60 → p = gt (Aw m xs) tk ∧ RdS [.int .i64] σ' s.A s.n (Bk m xs tk)) := fun v σ' => by rw [htk]; rfl
        rw [← htk] at hs hslt ⊢
        have hrt : ∀ v σ1, (∃ (s : SL) (p : Int), v = .tuple #[s.v, .int .i64 p] ∧ Hp.Sub σ σ1 ∧ (gt (Aw m xs) tk = none60 → s.A = none ∧ p = 0) ∧ (¬ gt (Aw m xs) tk = none60 → p = gt (Aw m xs) tk ∧ RdS [.int .i64] σ1 s.A s.n (Bk m xs tk))) → rt σ1 (Xp σ m xs n) v := fun v σ1 h => Az (by rw [goal']; exact h)
        clear goal' htk
        refine AK (fun hp => hrt _ _ ⟨⟨none, 0, 0⟩, 0, rfl, hsub, fun _ => ⟨rfl, rfl⟩, fun h => absurd hp h⟩) (fun hp => ?_)
        refine ⟨by omega, Int.le_refl _, by omega, ?_⟩
        refine Aj fun J28 h28 => ?_
        have k28 : J28 (Bk m xs tk) τ := by
          rw [h28]
          intro _
          intro A30 l30 c30 σ31 ho
          exact hrt _ _ ⟨⟨A30, l30, c30⟩, _, rfl, hsub.trans ho.sub, fun h => absurd h hp, fun _ => ⟨rfl, ho.rd⟩⟩
        have hml := Cr (m := m) xs tk
        have hrest := fun k => Qq (m := m) xs tk k hb (by omega)
        refine ⟨fun q t i ys τ' => ∃ k : Nat, q = xs.length - k ∧ t = E2 m xs tk k ∧ i = k ∧ k ≤ xs.length ∧ ys = (Bk m xs tk).take k ++ List.replicate (xs.length - k) 0 ∧ τ' = τ, ⟨_, 0, rfl, Rv.symm, rfl, by omega, by simp, rfl⟩, ?_⟩
        rintro q t i ys τ' ⟨k, rfl, rfl, rfl, hk, rfl, rfl⟩ _
        refine AK (fun hlt => ?_) (fun hge => ?_)
        · have hkl : k < xs.length := by omega
          obtain ⟨hr1, hr2⟩ := NQ (m := m) xs tk k hkl
          have hbk := hb _ (List.getElem_mem hkl)
          have hrk := hrest k
          have gk := hg k (by omega)
          have getk : ∀ {t : Int} {K : Int → Prop}, 0 ≤ t → t < m → K (gt (Aw m (xs.drop k)) t) → ix s.A s.n k 1 fun b a => ldS τ' b a fun A n _ => ix A n t 1 fun b a => ldI τ' .i64 b a K := fun {t K} t0 t1 hk => hR.get (r := k) (by omega) t0 (by rw [hgl k (by omega)]; exact t1) (by rw [gk]; exact hk)
          have hink := FQ (m := m) (xs.drop k) fun b h => hb b (List.mem_of_mem_drop h)
          have hlk := Ba (m := m) (xs.drop k)
          have hzero := Tt (m := m) (t := tk) hkl
          have hpl := fun c => Ue (m := m) (t := tk) (c := c) hkl
          have hpg := fun c => VV (m := m) (t := tk) (c := c) hkl
          have hps := fun c d => UF (m := m) (t := tk) (c := c) (d := d) hkl
          refine Aj fun J41 h41 => ?_
          have k41 : J41 (E2 m xs tk (k + 1)) ((Bk m xs tk).take (k + 1) ++ List.replicate (xs.length - (k + 1)) 0) τ' := by
            rw [h41]
            intro _
            exact AJ (by omega) (Bb _ (by omega) ⟨k + 1, rfl, rfl, by omega, by omega, rfl, rfl⟩)
          have hnext := Tw (m := m) (t := tk) hkl
          rw [← hnext, hr1, hr2] at k41
          refine Qu hx' hkl fun b a d0 d1 => Bs d0 (Bs d1 ?_)
          have hdk : ∀ {K : Option Addr → Nat → Nat → Prop}, (∀ s' : SL, RdS [.int .i64] τ' s'.A s'.n (Aw m (xs.drop k)) → K s'.A s'.n s'.c) → ix s.A s.n k 1 fun b a => ldS τ' b a K := fun {K} hk => hR.hd (r := k) (by omega) fun s' h => hk s' (by rw [← gk]; exact h)
          clear hr1 hr2 hnext d0 d1
          generalize E2 m xs tk k = tok0 at *
          generalize Aw m (xs.drop k) = row at *
          generalize xs[k] = bb at *
          have hb1 := hbk.1
          have hb2 := hbk.2
          refine getk (by omega) (by omega) ?_
          refine ⟨fun q t lf ys τ2 => ∃ c : Int, q = t.toNat ∧ 0 ≤ t ∧ t ≤ tok0 ∧ 0 ≤ c ∧ c ≤ tok0 - t ∧ lf = gt row t ∧ ys = L6 m xs tk k c ∧ τ2 = τ' ∧ AR row bb tok0.toNat tok0 = ((AR row bb t.toNat t).1, (AR row bb t.toNat t).2 + c), ⟨_, 0, rfl, hrk.1, Int.le_refl _, Int.le_refl _, by omega, rfl, hzero, rfl, by rw [Int.add_zero]⟩, ?_⟩
          rintro q t lf ys τ2 ⟨c, rfl, t0, t1, c0, c1, rfl, rfl, rfl, hti⟩ _
          refine Aj fun J66 h66 => ?_
          have k66 : (bb.1 ≤ t ∧ gt row (t - bb.1) < none60 ∧ gt row (t - bb.1) + bb.2 = gt row t) → J66 τ2 := by
            intro hc
            rw [h66]
            intro _
            have hll : (k : Int) < ((L6 m xs tk k c).length : Int) := by rw [hpl]; omega
            refine AJ (by omega) ⟨by omega, hll, Pb (by omega) hll ?_⟩
            rw [hpg]
            refine AJ (by omega) ⟨by omega, hll, Pb (by omega) hll ?_⟩
            refine getk (by omega) (by omega) (Bb (t - bb.1).toNat (by omega) ⟨c + 1, rfl, by omega, by omega, by omega, by omega, rfl, hps c (c + 1), rfl, ?_⟩)
            rw [hti, Jk hb1.1 hc]
            exact Prod.ext rfl (by show _ + 1 + c = _ + (c + 1); omega)
          refine Aj fun J81 h81 => ?_
          have k81 : ∀ tt : Bool, (tt = true → (bb.1 ≤ t ∧ gt row (t - bb.1) < none60 ∧ gt row (t - bb.1) + bb.2 = gt row t)) → (tt = false → ¬ (bb.1 ≤ t ∧ gt row (t - bb.1) < none60 ∧ gt row (t - bb.1) + bb.2 = gt row t)) → J81 tt τ2 := by
            intro tt a1 a2
            rw [h81]
            intro _
            refine El (fun e => k66 (a1 e)) (fun e => ?_)
            rw [IS (a2 e), Int.zero_add] at hti
            rw [hti] at k41
            exact k41
          refine AK (fun hle => ?_) (fun hle => k81 false (fun h => by cases h) fun _ h => hle h.1)
          have hv := hink (t - bb.1) (by omega) (by omega)
          refine hdk fun s1 hr1 => AJ (by omega) (Gr hr1 (by omega) (by omega) (AK (fun hnn => ?_) (fun hnn => k81 false (fun h => by cases h) fun _ h => hnn h.2.1)))
          refine hdk fun s1 hr1 => AJ (by omega) (Gr hr1 (by omega) (by omega) (AJ (by omega) (k81 _ (fun h => ⟨hle, hnn, of_decide_eq_true h⟩) fun h h' => of_decide_eq_false h h'.2.2)))
        · have : k = xs.length := by omega
          subst this
          have e : (Bk m xs tk).take xs.length = Bk m xs tk := List.take_of_length_le (by omega)
          rw [e, Nat.sub_self, List.replicate_zero, List.append_nil]
          exact k28
      refine ⟨fun q t i τ' => ∃ k : Nat, q = 1001 - k ∧ t = BW (Aw m xs) n k ∧ i = n + (k : Int) ∧ k ≤ 1001 ∧ τ' = τ, ⟨_, 0, rfl, rfl, by omega, by omega, rfl⟩, ?_⟩
      rintro q t i τ' ⟨k, rfl, rfl, rfl, hk, rfl⟩ _
      refine AK (fun hlt => ?_) (fun hge => ?_)
      · have hkl : k ≤ 1000 := by omega
        refine Aj fun J106 h106 => ?_
        have k106 : J106 (BW (Aw m xs) n (k + 1)) τ' := by
          rw [h106]
          intro _
          exact AJ (by omega) (Bb _ (by omega) ⟨k + 1, rfl, rfl, by omega, by omega, rfl⟩)
        have hsk := hsel k
        have hskm : BW (Aw m xs) n k < m := by omega
        have e : BW (Aw m xs) n (k + 1) = if gt (Aw m xs) (n + k) < gt (Aw m xs) (BW (Aw m xs) n k) then n + k else BW (Aw m xs) n k := rfl
        rw [e] at k106
        refine get0 (by omega) (by omega) (get0 (by omega) hskm (AK (fun h => ?_) (fun h => ?_)))
        · rw [if_pos h] at k106
          exact k106
        · rw [if_neg h] at k106
          exact k106
      · have : k = 1001 := by omega
        subst this
        exact k18
    refine AJ (by omega) ?_
    refine ⟨fun q i τ' => q = (i + 1).toNat ∧ -1 ≤ i ∧ i < xs.length ∧ BM s (BN m xs i 0) σ τ', ⟨_, rfl, by omega, by omega, hR⟩, ?_⟩
    rintro q i τ1 ⟨rfl, i0, i1, hR⟩ _
    refine AK (fun hi => ?_) (fun hi => ?_)
    · obtain ⟨k, rfl⟩ : ∃ k : Nat, i = (k : Int) := ⟨i.toNat, by omega⟩
      have hkl : k < xs.length := by omega
      refine Aj fun J131 h131 => ?_
      have k131 : ∀ τ', BM s (BN m xs ((k : Int) - 1) 0) σ τ' → J131 τ' := by
        intro τ' h'
        rw [h131]
        intro _
        exact AJ (by omega) (Bb ((k : Int) - 1 + 1).toNat (by omega) ⟨rfl, by omega, by omega, h'⟩)
      have hql : ∀ t, (BN m xs (k : Int) t).length = xs.length + 1 := fun t => OT
      have hgl : ∀ (t j : Nat), j < xs.length + 1 → ((BN m xs (k : Int) t).getD j []).length = m := fun t j hj => QA hj
      have hcur : ∀ t, (BN m xs (k : Int) t).getD k [] = Ee (xs.getD k (0, 0)) (Aw m (xs.drop (k + 1))) t := fun t => by rw [Js (by omega), if_neg (by omega), if_pos rfl]
      have hnx : ∀ t, (BN m xs (k : Int) t).getD (k + 1) [] = Aw m (xs.drop (k + 1)) := fun t => by rw [Js (by omega), if_pos (by omega)]
      have hstep : ∀ t, (BN m xs (k : Int) t).set k (Ee (xs.getD k (0, 0)) (Aw m (xs.drop (k + 1))) (t + 1)) = BN m xs k (t + 1) := fun t => RO hkl
      have hnext := RT (m := m) hkl
      have hinc : ∀ t, t ≤ m → Oa (Ee (xs.getD k (0, 0)) (Aw m (xs.drop (k + 1))) t) := fun t ht => Ve hb hkl ht
      have hinp := FQ (m := m) (xs.drop (k + 1)) fun b h => hb b (List.mem_of_mem_drop h)
      have hPl := Ba (m := m) (xs.drop (k + 1))
      have hcl : ∀ t, (Ee (xs.getD k (0, 0)) (Aw m (xs.drop (k + 1))) t).length = m := fun t => by rw [Cm, hPl]
      have hkb : xs.getD k (0, 0) = xs[k] := by simp [List.getD, hkl]
      have hbk := hb _ (List.getElem_mem hkl)
      rw [← hkb] at hbk
      have hb1 := hbk.1
      have hb2 := hbk.2
      refine hR.hd (r := k) (by rw [hql]; omega) fun s1 hr1 => ?_
      have hs1 : s1.n = m := by rw [hr1.lenI, hgl 0 k (by omega)]
      refine ⟨fun q t τ' => ∃ u : Nat, q = m - u ∧ t = u ∧ u ≤ m ∧ BM s (BN m xs (k : Int) u) σ τ', ⟨_, 0, rfl, rfl, by omega, hR⟩, ?_⟩
      rintro q t τ2 ⟨u, rfl, rfl, hu, hR⟩ _
      refine AK (fun hlt => ?_) (fun hge => ?_)
      · have hul : u < m := by omega
        refine Aj fun J145 h145 => ?_
        have k145 : ∀ τ', BM s (BN m xs (k : Int) (u + 1)) σ τ' → J145 τ' := by
          intro τ' h'
          rw [h145]
          intro _
          exact AJ (by omega) (Bb _ (by omega) ⟨u + 1, rfl, by omega, by omega, h'⟩)
        rw [← hstep u] at k145
        have hrowK : Ee (xs.getD k (0, 0)) (Aw m (xs.drop (k + 1))) (u + 1) = (Ee (xs.getD k (0, 0)) (Aw m (xs.drop (k + 1))) u).set u (GB (xs.getD k (0, 0)) (Aw m (xs.drop (k + 1))) (Ee (xs.getD k (0, 0)) (Aw m (xs.drop (k + 1))) u) u) := rfl
        rw [hrowK] at k145
        have hcu := hcur u
        have hnu := hnx u
        have hqu := hql u
        have hcin := hinc u hu
        have hclu := hcl u
        clear hrowK hcur hnx hql hgl hstep hnext hinc hcl hr1
        generalize Aw m (xs.drop (k + 1)) = P at *
        generalize Ee (xs.getD k (0, 0)) P u = cur at *
        generalize BN m xs (k : Int) u = rows at *
        generalize hbb : xs.getD k (0, 0) = bb at *
        obtain ⟨s', q1, _, q3⟩ := hR.st (r := k) (t := (u : Int)) (v := gt P u) (by omega) (by omega) (by rw [hcu, hclu]; omega)
        refine q1 _ (AJ (by omega) ?_)
        refine hR.get (r := k + 1) (by omega) (by omega) (by rw [hnu, hPl]; omega) ?_
        rw [hnu]
        refine q3 _ fun τ3 hR3 => ?_
        rw [hcu, Int.toNat_natCast] at hR3
        clear q1 q3 hR
        have hx3 := hx.sub hR3.sub
        have hl3 : (rows.set k (cur.set u (gt P u))).length = xs.length + 1 := by rw [List.length_set]; exact hqu
        have hg3 : (rows.set k (cur.set u (gt P u))).getD k [] = cur.set u (gt P u) := by
          have : k < rows.length := by omega
          simp [List.getD, this]
        refine Qu hx3 hkl fun b a d0 d1 => Bs d0 ?_
        rw [← hkb]
        refine AJ (by omega) ?_
        refine Aj fun J168 h168 => ?_
        have k168 : ∀ tt : Bool, (tt = true → 0 ≤ (u : Int) - bb.1 ∧ gt cur ((u : Int) - bb.1) < none60) → (tt = false → ¬ (0 ≤ (u : Int) - bb.1 ∧ gt cur ((u : Int) - bb.1) < none60)) → J168 tt τ3 := by
          intro tt a1 a2
          rw [h168]
          intro _
          refine El (fun e => ?_) (fun e => ?_)
          · obtain ⟨c1, c2⟩ := a1 e
            have hN : none60 = 1152921504606846976 := rfl
            have hv := hcin _ c1 (by omega)
            have hvp := hinp (u : Int) (by omega) (by omega)
            obtain ⟨s5, q1, _, q3⟩ := hR3.st (r := k) (t := (u : Int)) (v := if gt cur ((u : Int) - bb.1) + bb.2 < gt P u then gt cur ((u : Int) - bb.1) + bb.2 else gt P u) (by omega) (by omega) (by rw [hg3, List.length_set]; omega)
            refine q1 _ (hR3.get (r := k) (by omega) (by omega) (by rw [hg3, List.length_set]; omega) (hR3.get (r := k) (by omega) c1 (by rw [hg3, List.length_set]; omega) ?_))
            have g1 : gt (cur.set u (gt P u)) u = gt P u := by rw [AQ (by omega) (by omega), if_pos rfl]
            have g2 : gt (cur.set u (gt P u)) ((u : Int) - bb.1) = gt cur ((u : Int) - bb.1) := by rw [AQ (by omega) c1, if_neg (by omega)]
            rw [hg3, g1, g2]
            refine Qu hx3 hkl fun b a _ d1 => Bs d1 ?_
            rw [← hkb]
            refine AJ (by omega) (q3 _ fun τ4 hR4 => k145 τ4 ?_)
            rw [hg3, Int.toNat_natCast, List.set_set, List.set_set] at hR4
            unfold GB
            rw [if_pos ⟨c1, c2⟩]
            exact hR4
          · have a2 := a2 e
            refine k145 τ3 ?_
            unfold GB
            rw [if_neg a2]
            exact hR3
        refine AK (fun hle => ?_) (fun hle => k168 false (fun h => by cases h) fun _ h => hle h.1)
        refine hR3.get (r := k) (by omega) hle (by rw [hg3, List.length_set]; omega) ?_
        rw [hg3, AQ (by omega) hle, if_neg (by omega)]
        exact k168 _ (fun h => ⟨hle, of_decide_eq_true h⟩) fun h h' => of_decide_eq_false h h'.2
      · have : u = m := by omega
        subst this
        rw [hnext] at hR
        exact k131 _ hR
    · have : i = -1 := by omega
      subst this
      exact k15 _ hR
  refine ⟨fun q A l c i τ => ∃ k : Nat, q = xs.length + 1 - k ∧ i = k ∧ k ≤ xs.length + 1 ∧ BM ⟨A, l, c⟩ (List.replicate k (List.replicate m none60) ++ List.replicate (xs.length + 1 - k) []) σ τ, ⟨_, fun A202 l202 c202 σ203 ho => ⟨0, rfl, rfl, by omega, by simpa using BM.init (s := ⟨A202, l202, c202⟩) ho⟩⟩, ?_⟩
  rintro q A6 l6 c6 i τ ⟨k, rfl, rfl, hk, hR⟩ _
  rw [List.length_replicate]
  refine AK (fun hlt => AJ (by omega) ?_) (fun hge => ?_)
  · have hkl : k < xs.length + 1 := by omega
    intro A207 l207 c207 σ208 ho
    have hl1 : l207 = 1 := ho.len
    subst hl1
    refine AM CS (Lb (a := none60) ho.rd ⟨by omega, by omega⟩) ?_
    rintro v σ210 ⟨A, l, c, rfl, ho2⟩
    refine ⟨_, _, _, rfl, CA ho2 ?_⟩
    have em : (n + 1000 + 1).toNat = m := by omega
    rw [em]
    have hlen : k < (List.replicate k (List.replicate m none60) ++ List.replicate (xs.length + 1 - k) ([] : List Int)).length := by simp; omega
    have hll : (List.replicate k (List.replicate m none60) ++ List.replicate (xs.length + 1 - k) ([] : List Int)).length = xs.length + 1 := by simp; omega
    obtain ⟨b, off, _, _, hA, hn', _⟩ := (hR.up ho.sub).at_ hlen
    have hn' : l6 = xs.length + 1 := by rw [← hll]; exact hn'
    refine Rg hA (by omega) (by omega) ?_
    simp only [Int.toNat_natCast, Nat.mul_one]
    intro A216 l216 c216 σ217 ho3
    obtain ⟨b', off', hA', _, w1, w2⟩ := hR.new ho.sub hlen (s'' := ⟨A216, l216, c216⟩) (xs := (List.replicate m none60 : List Int)) ho3
    rw [hA] at hA'
    cases hA'
    refine ⟨w1, AJ (by omega) (Bb _ (by omega) ⟨k + 1, rfl, by omega, by omega, ?_⟩)⟩
    have e : (List.replicate k (List.replicate m none60) ++ List.replicate (xs.length + 1 - k) ([] : List Int)).set k (List.replicate m none60) = List.replicate (k + 1) (List.replicate m none60) ++ List.replicate (xs.length + 1 - (k + 1)) [] := by
      have e1 : xs.length + 1 - k = xs.length + 1 - (k + 1) + 1 := by omega
      rw [List.set_append_right _ _ (by simp), List.length_replicate, Nat.sub_self, e1, List.replicate_succ, List.set_cons_zero, List.replicate_succ', List.append_assoc]
      rfl
    rw [e] at w2
    exact w2
  · have : k = xs.length + 1 := by omega
    subst this
    rw [Nat.sub_self, List.replicate_zero, List.append_nil] at hR
    exact k5 ⟨A6, l6, c6⟩ τ hR
end
end Go.Proofs.YtecodlefcmjihaaGreat
