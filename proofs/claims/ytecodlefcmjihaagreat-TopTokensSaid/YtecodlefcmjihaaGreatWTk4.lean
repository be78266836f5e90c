/- Trimmed by wip/trim.py to what this claim rests on. -/
import Derived.Test.YtecodlefcmjihaaGreatWTk3
import Derived.Test.YtecodlefcmjihaaGreatWT1
namespace Go.Proofs.YtecodlefcmjihaaGreat
open Go.RowKit
structure Fai where
  purses : Int
  boxes : Int
  stock : List Int
  cash : List Int
  bundles : List (Int × Int)
  refund : Int
  band : Int
  hours : Int
abbrev bqF (F : Fai) (u : Int × Int) : Prop := (1 ≤ u.1 ∧ u.1 ≤ 1000) ∧ (1 ≤ u.2 ∧ u.2 ≤ 1000000) ∧ F.refund * u.1 ≤ u.2
structure FOK (F : Fai) : Prop where
  sl : 1 ≤ F.stock.length ∧ F.stock.length ≤ 8
  cl : F.cash.length = F.stock.length
  p : 0 ≤ F.purses ∧ F.purses ≤ 20
  x : 0 ≤ F.boxes ∧ F.boxes ≤ 12
  bl : F.bundles.length ≤ 6
  s : ∀ k < F.stock.length, 0 ≤ gt F.stock k ∧ gt F.stock k ≤ 100000
  c : ∀ k < F.cash.length, 0 ≤ gt F.cash k ∧ gt F.cash k ≤ 1000000
  r : 0 ≤ F.refund ∧ F.refund ≤ 1000
  b : 0 ≤ F.band ∧ F.band ≤ 1000000
  h : 1 ≤ F.hours ∧ F.hours ≤ 1440
  u : ∀ k < F.bundles.length, bqF F (F.bundles.getD k (0, 0))
theorem FOK.bOK {F : Fai} (h : FOK F) : ∀ b ∈ F.bundles, bOK b := fun b hb => by
  obtain ⟨k, hk, rfl⟩ := List.getElem_of_mem hb
  have := h.u k hk
  have e : F.bundles.getD k (0, 0) = F.bundles[k] := by simp [List.getD, hk]
  rw [e] at this
  exact ⟨this.1, this.2.1⟩
structure FaiW where
  s : SL
  c : SL
  b : SL
structure FaiR (W : FaiW) (σ : Hp) (F : Fai) : Prop where
  s : RdS [.int .i64] σ W.s.A W.s.n F.stock
  c : RdS [.int .i64] σ W.c.A W.c.n F.cash
  b : RdS s2 σ W.b.A W.b.n F.bundles
theorem FaiR.sub {W : FaiW} {σ σ' : Hp} {F : Fai} (h : FaiR W σ F) (hs : Hp.Sub σ σ') : FaiR W σ' F := ⟨h.s.sub hs, h.c.sub hs, h.b.sub hs⟩
def fcells (W : FaiW) (F : Fai) : Array Value := #[.int .i64 F.purses, .int .i64 F.boxes, W.s.v, W.c.v, W.b.v, .int .i64 F.refund, .int .i64 F.band, .int .i64 F.hours]
section
variable {σ : Hp} {W : FaiW} {F : Fai}
theorem ct_within {n lo hi : Int} : FCalls Tryz.prog N_tokens_within #[.int .i64 n, .int .i64 lo, .int .i64 hi] σ fun v σ' => v = .bool (decide (lo ≤ n ∧ n ≤ hi)) ∧ σ' = σ := by
  refine M_tokens_within_ok _ _ _ _ _ ?_
  unfold M_tokens_within
  refine bc_d (fun h => rt_of ⟨?_, rfl⟩) (fun h => rt_of ⟨?_, rfl⟩)
  · rw [decide_eq_decide.2 (show n ≤ hi ↔ lo ≤ n ∧ n ≤ hi from ⟨fun h' => ⟨h, h'⟩, fun h' => h'.2⟩)]
  · rw [decide_eq_false fun h' => h h'.1]
theorem lt_in {n lo hi : Int} {K : Bool → Hp → Prop} (h : K (decide (lo ≤ n ∧ n ≤ hi)) σ) : cl Tryz.prog (.func (.func N_tokens_within) #[] #[]) #[.int .i64 n, .int .i64 lo, .int .i64 hi] σ fun v σ' => ∃ t : Bool, (v = .bool t ∧ K t σ') := clB M_tokens_within_enter ct_within h
theorem c_Contains_bundle {A : Option Addr} {n c : Nat} {xs : List (Int × Int)} {f : Value} {p : Nat → Bool} (hx : RdS s2 σ A n xs) (hl : xs.length ≤ 4294967296)
    (hf : ∀ k, (hk : k < xs.length) → cl Tryz.prog f #[.agg #[.int .i64 xs[k].1, .int .i64 xs[k].2]] σ fun v σ' => v = .bool (p k) ∧ σ' = σ) :
    FCalls Tryz.prog N_slices_ContainsFunc_api_Bundle #[.slice A n c, f] σ fun v σ' => v = .bool ((List.range xs.length).any p) ∧ σ' = σ := by
  refine M_slices_ContainsFunc_api_Bundle_ok _ _ _ _ _ _ ?_
  unfold M_slices_ContainsFunc_api_Bundle
  have hn : n = xs.length := hx.1
  have : FCalls Tryz.prog N_slices_IndexFunc_api_Bundle #[.slice A n c, f] σ fun v σ' => ∃ j : Int, v = .int .i64 j ∧ decide (0 ≤ j) = (List.range xs.length).any p ∧ σ' = σ := by
    refine M_slices_IndexFunc_api_Bundle_ok _ _ _ _ _ _ ?_
    unfold M_slices_IndexFunc_api_Bundle
    refine cut_intro fun J3 h3 => ?_
    refine ⟨fun m i τ => ∃ k : Nat, m = xs.length - k ∧ i = k ∧ k ≤ xs.length ∧ τ = σ ∧ ∀ j, j < k → p j = false, ⟨_, 0, rfl, rfl, by omega, rfl, fun j h => by omega⟩, ?_⟩
    rintro m i τ ⟨k, rfl, rfl, hk, rfl, hj⟩ _
    refine bc_d (fun hlt => ?_) (fun hlt => ?_)
    · have hkl : k < xs.length := by omega
      refine pix2 hx hkl fun b o c0 c1 => ldI_of c0 (ldI_of c1 (FFun.mono (hf k hkl) ?_))
      rintro _ _ ⟨rfl, rfl⟩
      refine ⟨_, rfl, bc_b (fun hp => rt_of ⟨k, rfl, ?_, rfl⟩) (fun hp => wk_i (by omega) (bk_of _ (by omega) ⟨k + 1, rfl, by omega, by omega, rfl, fun j hjk => ?_⟩))⟩
      · rw [any_true hkl hp, decide_eq_true (by omega)]
      · rcases Nat.lt_or_ge j k with h1 | h1
        · exact hj j h1
        · have : j = k := by omega
          subst this; exact hp
    · have : k = xs.length := by omega
      subst this
      rw [h3]
      intro _
      refine rt_of ⟨-1, rfl, ?_, rfl⟩
      rw [any_false fun j h => hj j h]
      rfl
  refine cl_of M_slices_IndexFunc_api_Bundle_enter this ?_
  rintro _ _ ⟨j, rfl, hj, rfl⟩
  exact ⟨_, rfl, rt_of ⟨by rw [hj], rfl⟩⟩
theorem ct_Check_1 {lo hi : Int} : FCalls Tryz.prog N_tokens_Check_1 #[.int .i64 lo, .int .i64 hi] σ fun v σ' => ∃ b1 b3, v = .func (.func N_tokens_Check_1_1) #[] #[.pointer (some ⟨b1, 0, none⟩), .pointer (some ⟨b3, 0, none⟩)] ∧ Hp.Sub σ σ' ∧ σ' b1 = some (.cells #[.int .i64 lo] 3 (0, 0), true) ∧ σ' b3 = some (.cells #[.int .i64 hi] 3 (0, 0), true) := by
  refine M_tokens_Check_1_ok _ _ _ _ ?_
  unfold M_tokens_Check_1
  intro b1 n1 b3 n3
  exact rt_of ⟨b1, b3, rfl, (Hp.Sub.ins _ n1).trans (Hp.Sub.ins _ n3), Hp.Sub.ins _ n3 _ _ (Hp.ins_same ..), Hp.ins_same ..⟩
theorem ct_Check_1_1 {n lo hi : Int} {b1 b3 : Nat} {w1 w3 : Bool} (h1 : σ b1 = some (.cells #[.int .i64 lo] 3 (0, 0), w1)) (h3 : σ b3 = some (.cells #[.int .i64 hi] 3 (0, 0), w3)) : FCalls Tryz.prog N_tokens_Check_1_1 #[.int .i64 n, .pointer (some ⟨b1, 0, none⟩), .pointer (some ⟨b3, 0, none⟩)] σ fun v σ' => v = .bool (!decide (lo ≤ n ∧ n ≤ hi)) ∧ σ' = σ := by
  refine M_tokens_Check_1_1_ok _ _ _ _ _ ?_
  unfold M_tokens_Check_1_1
  exact dr_i (bldI h1 rfl (dr_i (bldI h3 rfl (lt_in (rt_of ⟨rfl, rfl⟩)))))
theorem in_dec {p : Prop} [Decidable p] {t : Bool} (h : t = !decide p) : (t = true → ¬ p) ∧ (t = false → p) := by
  subst h
  constructor
  · intro h h'
    rw [decide_eq_true h'] at h
    cases h
  · intro h
    by_cases c : p
    · exact c
    · rw [decide_eq_false c] at h
      cases h
theorem any_ndec {n : Nat} {p : Nat → Prop} [DecidablePred p] {t : Bool} (h : t = (List.range n).any fun k => !decide (p k)) : (t = true → ¬ ∀ k < n, p k) ∧ (t = false → ∀ k < n, p k) := by
  subst h
  constructor
  · intro h hall
    obtain ⟨k, hk, hp⟩ := List.any_eq_true.1 h
    rw [decide_eq_true (hall k (List.mem_range.1 hk))] at hp
    cases hp
  · intro h k hk
    by_cases c : p k
    · exact c
    · rw [any_true hk (by rw [decide_eq_false c]; rfl)] at h
      cases h
set_option maxRecDepth 20000 in
theorem ct_Check (hF : FaiR W σ F) (hl : F.stock.length ≤ 4294967296 ∧ F.cash.length ≤ 4294967296 ∧ F.bundles.length ≤ 4294967296) : FCalls Tryz.prog N_tokens_Check #[.agg (fcells W F)] σ fun v σ' => Hp.Sub σ σ' ∧ ((v = .int .i64 0 ∧ FOK F) ∨ (v = .int .i64 10 ∧ ¬ FOK F)) := by
  refine M_tokens_Check_ok _ _ _ _ _ _ _ _ _ _ _ _ _ _ _ _ ?_
  unfold M_tokens_Check
  have hsn := hF.s.lenI
  have hcn := hF.c.lenI
  have hbn : W.b.n = F.bundles.length := hF.b.1
  refine cut_intro fun J3 h3 => ?_
  have k3 : ∀ t : Bool, (t = true → ¬ FOK F) → (t = false → (1 ≤ F.stock.length ∧ F.stock.length ≤ 8) ∧ F.cash.length = F.stock.length ∧ (0 ≤ F.purses ∧ F.purses ≤ 20) ∧ (0 ≤ F.boxes ∧ F.boxes ≤ 12) ∧ F.bundles.length ≤ 6) → J3 t σ := by
    intro t a1 a2
    rw [h3]
    intro _
    refine cut_intro fun J7 h7 => ?_
    have k7 : ∀ (t : Bool) (τ : Hp), Hp.Sub σ τ → (t = true → ¬ FOK F) → (t = false → ((1 ≤ F.stock.length ∧ F.stock.length ≤ 8) ∧ F.cash.length = F.stock.length ∧ (0 ≤ F.purses ∧ F.purses ≤ 20) ∧ (0 ≤ F.boxes ∧ F.boxes ≤ 12) ∧ F.bundles.length ≤ 6) ∧
        (∀ k < F.stock.length, 0 ≤ gt F.stock k ∧ gt F.stock k ≤ 100000) ∧ (∀ k < F.cash.length, 0 ≤ gt F.cash k ∧ gt F.cash k ≤ 1000000) ∧ (0 ≤ F.refund ∧ F.refund ≤ 1000) ∧ (0 ≤ F.band ∧ F.band ≤ 1000000) ∧ (1 ≤ F.hours ∧ F.hours ≤ 1440)) → J7 t τ := by
      intro t τ hs a1 a2
      rw [h7]
      intro _
      refine cut_intro fun J11 h11 => ?_
      have k11 : ∀ (t : Bool) (τ : Hp), Hp.Sub σ τ → (t = true → ¬ FOK F) → (t = false → FOK F) → J11 t τ := by
        intro t τ hs a1 a2
        rw [h11]
        intro _
        exact bc_b (fun e => rt_of ⟨hs, .inr ⟨rfl, a1 e⟩⟩) (fun e => rt_of ⟨hs, .inl ⟨rfl, a2 e⟩⟩)
      refine bc_b (fun e => k11 true τ hs (fun _ => a1 e) fun h => by cases h) (fun e => ?_)
      obtain ⟨⟨p1, p2, p3, p4, p5⟩, p6, p7, p8, p9, p10⟩ := a2 e
      intro b13 n13
      have hc13 : (τ.ins b13 (.cells (fcells W F) 37 (0, 0))) b13 = some (.cells (fcells W F) 37 (0, 0), true) := Hp.ins_same ..
      have hs13 := Hp.Sub.ins (.cells (fcells W F) 37 (0, 0)) n13
      show cl _ _ _ (τ.ins b13 (.cells (fcells W F) 37 (0, 0))) _
      generalize τ.ins b13 (.cells (fcells W F) 37 (0, 0)) = σ14 at *
      refine clB M_slices_ContainsFunc_api_Bundle_enter (c_Contains_bundle (p := fun k => !decide (bqF F (F.bundles.getD k (0, 0)))) (hF.b.sub (hs.trans hs13)) hl.2.2 fun k hk => ?_) ?_
      · refine FFun.func M_tokens_Check_2_enter ?_
        refine M_tokens_Check_2_ok _ _ _ _ _ ?_
        unfold M_tokens_Check_2
        have e : F.bundles.getD k (0, 0) = F.bundles[k] := by simp [List.getD, hk]
        rw [e]
        generalize F.bundles[k] = u
        have key : ∀ t : Bool, (t = true ↔ ¬ bqF F u) → (Value.bool t = Value.bool (!decide (bqF F u)) ∧ σ14 = σ14) := fun t ht => by
          refine ⟨congrArg Value.bool (Bool.eq_iff_iff.2 ?_), rfl⟩
          rw [ht, Bool.not_eq_true', decide_eq_false_iff_not]
        refine lt_in (bc_nd (fun h => rt_of (key true ⟨fun _ h' => h h'.1, fun _ => rfl⟩)) (fun h => lt_in (bc_nd (fun h2 => rt_of (key true ⟨fun _ h' => h2 h'.2.1, fun _ => rfl⟩)) (fun h2 => dr_i (bldI hc13 rfl ?_)))))
        have hm := mulle p8.1 p8.2 (show 0 ≤ u.1 by omega) h.2
        refine wk_i (by omega) (rt_of (key _ ?_))
        rw [decide_eq_true_eq]
        exact ⟨fun h3 h' => by have := h'.2.2; omega, fun h3 => by
          by_cases c : u.2 < F.refund * u.1
          · exact c
          · exact absurd ⟨h, h2, by omega⟩ h3⟩
      · obtain ⟨q1, q2⟩ := any_ndec (n := F.bundles.length) (p := fun k => bqF F (F.bundles.getD k (0, 0))) rfl
        exact k11 _ σ14 (hs.trans hs13) (fun e h => q1 e h.u) fun e => ⟨p1, p2, p3, p4, p5, p6, p7, p8, p9, p10, q2 e⟩
    refine bc_b (fun e => k7 true σ (Hp.Sub.refl _) (fun _ => a1 e) fun h => by cases h) (fun e => ?_)
    have hp := a2 e
    refine cl_of M_tokens_Check_1_enter ct_Check_1 ?_
    rintro v σ19 ⟨b1, b3, rfl, hs19, c1, c3⟩
    refine ⟨_, rfl, hs19, ?_⟩
    refine clB M_slices_ContainsFunc_int_enter (c_Contains_int (p := fun k => !decide (0 ≤ gt F.stock k ∧ gt F.stock k ≤ 100000)) (hF.s.sub hs19) hl.1 fun k hk => ?_) ?_
    · exact FFun.func M_tokens_Check_1_1_enter (ct_Check_1_1 c1 c3)
    obtain ⟨q1, q2⟩ := any_ndec (n := F.stock.length) (p := fun k => 0 ≤ gt F.stock k ∧ gt F.stock k ≤ 100000) rfl
    refine bc_b (fun e => k7 true _ hs19 (fun _ h => q1 e h.s) fun h => by cases h) (fun e => ?_)
    have hp1 := q2 e
    refine cl_of M_tokens_Check_1_enter ct_Check_1 ?_
    rintro v σ25 ⟨b1, b3, rfl, hs25, c1, c3⟩
    refine ⟨_, rfl, hs25, ?_⟩
    have hs25 := hs19.trans hs25
    refine clB M_slices_ContainsFunc_int_enter (c_Contains_int (p := fun k => !decide (0 ≤ gt F.cash k ∧ gt F.cash k ≤ 1000000)) (hF.c.sub hs25) hl.2.1 fun k hk => ?_) ?_
    · exact FFun.func M_tokens_Check_1_1_enter (ct_Check_1_1 c1 c3)
    obtain ⟨q3, q4⟩ := any_ndec (n := F.cash.length) (p := fun k => 0 ≤ gt F.cash k ∧ gt F.cash k ≤ 1000000) rfl
    refine bc_b (fun e => k7 true _ hs25 (fun _ h => q3 e h.c) fun h => by cases h) (fun e => ?_)
    have hp2 := q4 e
    refine lt_in (bc_nd (fun h => k7 true _ hs25 (fun _ h' => h h'.r) fun h => by cases h) (fun hr => ?_))
    refine lt_in (bc_nd (fun h => k7 true _ hs25 (fun _ h' => h h'.b) fun h => by cases h) (fun hb => ?_))
    refine lt_in (k7 _ _ hs25 (fun e h' => (in_dec rfl).1 e h'.h) fun e => ⟨hp, hp1, hp2, hr, hb, (in_dec rfl).2 e⟩)
  refine lt_in (bc_nd (fun h => k3 true (fun _ h' => h (by have := h'.sl; omega)) fun h => by cases h) (fun h1 => ?_))
  refine bc_nd (fun h => k3 true (fun _ h' => h (by have := h'.cl; omega)) fun h => by cases h) (fun h2 => ?_)
  refine lt_in (bc_nd (fun h => k3 true (fun _ h' => h h'.p) fun h => by cases h) (fun h3' => ?_))
  refine lt_in (bc_nd (fun h => k3 true (fun _ h' => h h'.x) fun h => by cases h) (fun h4 => ?_))
  exact k3 _ (fun e h' => by have := of_decide_eq_true e; have := h'.bl; omega) fun e => by
    have := of_decide_eq_false e
    exact ⟨by omega, by omega, h3', h4, by omega⟩
def BuR (σ : Hp) (F : Fai) (n : Int) : Value → Hp → Prop := fun v σ' => ∃ (s : SL) (p e : Int), v = .tuple #[s.v, .int .i64 p, .int .i64 e] ∧ Hp.Sub σ σ' ∧
  (e = 0 → FOK F ∧ (0 ≤ n ∧ n ≤ 1000) ∧ ¬ gt (rowsF (n + 1001).toNat F.bundles) (selK (rowsF (n + 1001).toNat F.bundles) n 1001) = none60 ∧ p = gt (rowsF (n + 1001).toNat F.bundles) (selK (rowsF (n + 1001).toNat F.bundles) n 1001) ∧ RdS [.int .i64] σ' s.A s.n (manyF (n + 1001).toNat F.bundles (selK (rowsF (n + 1001).toNat F.bundles) n 1001))) ∧
  (FOK F → (0 ≤ n ∧ n ≤ 1000) → ¬ gt (rowsF (n + 1001).toNat F.bundles) (selK (rowsF (n + 1001).toNat F.bundles) n 1001) = none60 → F.bundles ≠ [] → e = 0)
theorem ct_bought {n : Int} (hF : FaiR W σ F) (hok : FOK F) (hn : 0 ≤ n ∧ n ≤ 1000) : FCalls Tryz.prog N_tokens_bought #[.agg (fcells W F), .int .i64 n] σ (BuR σ F n) := by
  refine M_tokens_bought_ok _ _ _ _ _ _ _ _ _ _ _ _ _ _ _ _ _ ?_
  unfold M_tokens_bought
  refine cl_of M_tokens_buy_enter (c_buy hF.b (by have := hok.bl; omega) hok.bOK hn) ?_
  rintro v σ2 ⟨s, p, rfl, hs, h1, h2⟩
  have hml := manyF_len (m := (n + 1001).toNat) F.bundles (selK (rowsF (n + 1001).toNat F.bundles) n 1001)
  refine ⟨_, _, _, _, rfl, bc_b (fun e => rt_of ⟨⟨none, 0, 0⟩, 0, 3, rfl, hs, fun h => (by cases h), fun _ _ hp hne => ?_⟩) (fun e => rt_of ⟨s, p, 0, rfl, hs, fun _ => ?_, fun _ _ _ _ => rfl⟩)⟩
  · exfalso
    obtain ⟨_, hrd⟩ := h2 hp
    have hA : s.A = none := by
      cases h : s.A with
      | none => rfl
      | some a => rw [h] at e; simp at e
    rw [hA] at hrd
    rcases hrd.2 with h' | ⟨b, off, c', el, f, rw, h', _⟩
    · have h3 : s.n = F.bundles.length := hrd.1.trans hml
      exact hne (List.length_eq_zero_iff.1 (by omega))
    · cases h'
  · have hp : ¬ gt (rowsF (n + 1001).toNat F.bundles) (selK (rowsF (n + 1001).toNat F.bundles) n 1001) = none60 := fun h => by
      rw [(h1 h).1] at e
      simp at e
    exact ⟨hok, hn, hp, h2 hp⟩
theorem ct_Buy {n : Int} (hF : FaiR W σ F) (hl : F.stock.length ≤ 4294967296 ∧ F.cash.length ≤ 4294967296 ∧ F.bundles.length ≤ 4294967296) : FCalls Tryz.prog N_tokens_Buy #[.agg (fcells W F), .int .i64 n] σ (BuR σ F n) := by
  refine M_tokens_Buy_ok _ _ _ _ _ _ _ _ _ _ _ _ _ _ _ _ _ ?_
  unfold M_tokens_Buy
  refine cl_of M_tokens_Check_enter (ct_Check hF hl) ?_
  rintro v σ2 ⟨hs, ⟨rfl, hok⟩ | ⟨rfl, hno⟩⟩
  · refine ⟨_, rfl, ?_⟩
    refine bc_nd (fun h => absurd rfl h) (fun _ => lt_in (bc_nd (fun h => rt_of ⟨⟨none, 0, 0⟩, 0, 1, rfl, hs, fun h => (by cases h), fun _ h' _ _ => absurd h' h⟩) (fun hn => ?_)))
    refine cl_of M_tokens_bought_enter (ct_bought (hF.sub hs) hok hn) ?_
    rintro v σ8 ⟨s, p, e, rfl, hs8, h1, h2⟩
    exact ⟨_, _, _, _, _, rfl, rt_of ⟨s, p, e, rfl, hs.trans hs8, h1, h2⟩⟩
  · exact ⟨_, rfl, bc_nd (fun _ => rt_of ⟨⟨none, 0, 0⟩, 0, 10, rfl, hs, fun h => (by cases h), fun h' => absurd h' hno⟩) (fun h => by cases h)⟩
theorem ct_sameInts {A A' : Option Addr} {n n' c c' : Nat} {xs ys : List Int} (h : RdS [.int .i64] σ A n xs) (h' : RdS [.int .i64] σ A' n' ys) (hl : xs.length ≤ 4294967296) : FCalls Tryz.prog N_top_sameInts #[.slice A n c, .slice A' n' c'] σ fun v σ' => v = .bool (decide (xs = ys)) ∧ σ' = σ := by
  refine M_top_sameInts_ok _ _ _ _ _ _ _ _ ?_
  unfold M_top_sameInts
  have hn := h.lenI
  have hn' := h'.lenI
  refine bc_b (fun e => ?_) (fun e => ?_)
  · have e : ¬ (n : Int) = n' := by simpa using e
    refine rt_of ⟨?_, rfl⟩
    rw [decide_eq_false fun e' => e (by rw [hn, hn', e'])]
  · have e : (n : Int) = n' := by simpa using e
    refine cut_intro fun J3 h3 => ?_
    refine ⟨fun m i τ => ∃ k : Nat, m = xs.length - k ∧ i = k ∧ k ≤ xs.length ∧ τ = σ ∧ xs.take k = ys.take k, ⟨_, 0, rfl, rfl, by omega, rfl, rfl⟩, ?_⟩
    rintro m i τ ⟨k, rfl, rfl, hk, rfl, hj⟩ _
    refine bc_d (fun hlt => ?_) (fun hlt => ?_)
    · have hkl : k < xs.length := by omega
      have hkl' : k < ys.length := by omega
      refine gixg h (by omega) (by omega) (gixg h' (by omega) (by omega) ?_)
      rw [gt_nat hkl, gt_nat hkl']
      refine bc_b (fun e2 => ?_) (fun e2 => ?_)
      · have e2 : ¬ xs[k] = ys[k] := by simpa using e2
        refine rt_of ⟨?_, rfl⟩
        rw [decide_eq_false fun e' => e2 (by subst e'; rfl)]
      · have e2 : xs[k] = ys[k] := by simpa using e2
        refine wk_i (by omega) (bk_of _ (by omega) ⟨k + 1, rfl, by omega, by omega, rfl, ?_⟩)
        rw [List.take_succ_eq_append_getElem hkl, List.take_succ_eq_append_getElem hkl', hj, e2]
    · have : k = xs.length := by omega
      subst this
      rw [h3]
      intro _
      refine rt_of ⟨?_, rfl⟩
      rw [List.take_length] at hj
      have e3 : ys.take xs.length = ys := List.take_of_length_le (by omega)
      rw [decide_eq_true (hj.trans e3)]
end
end Go.Proofs.YtecodlefcmjihaaGreat
