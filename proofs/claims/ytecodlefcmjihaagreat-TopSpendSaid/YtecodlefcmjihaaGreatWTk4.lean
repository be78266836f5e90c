/- Trimmed by wip/trim.py to what this claim rests on. -/
import Derived.Test.YtecodlefcmjihaaGreatWTk3
import Derived.Test.YtecodlefcmjihaaGreatWT1
namespace Go.Proofs.YtecodlefcmjihaaGreat
open Go.RowKit
structure Fai where
  purses : Int
  boxes : Int
  stock : List Int
  cash : List Int
  bundles : List (Int × Int)
  refund : Int
  band : Int
  hours : Int
abbrev bqF (F : Fai) (u : Int × Int) : Prop := (1 ≤ u.1 ∧ u.1 ≤ 1000) ∧ (1 ≤ u.2 ∧ u.2 ≤ 1000000) ∧ F.refund * u.1 ≤ u.2
structure FOK (F : Fai) : Prop where
  sl : 1 ≤ F.stock.length ∧ F.stock.length ≤ 8
  cl : F.cash.length = F.stock.length
  p : 0 ≤ F.purses ∧ F.purses ≤ 20
  x : 0 ≤ F.boxes ∧ F.boxes ≤ 12
  bl : F.bundles.length ≤ 6
  s : ∀ k < F.stock.length, 0 ≤ gt F.stock k ∧ gt F.stock k ≤ 100000
  c : ∀ k < F.cash.length, 0 ≤ gt F.cash k ∧ gt F.cash k ≤ 1000000
  r : 0 ≤ F.refund ∧ F.refund ≤ 1000
  b : 0 ≤ F.band ∧ F.band ≤ 1000000
  h : 1 ≤ F.hours ∧ F.hours ≤ 1440
  u : ∀ k < F.bundles.length, bqF F (F.bundles.getD k (0, 0))
theorem FOK.bOK {F : Fai} (h : FOK F) : ∀ b ∈ F.bundles, bOK b := fun b hb => by
  obtain ⟨k, hk, rfl⟩ := List.getElem_of_mem hb
  have := h.u k hk
  have e : F.bundles.getD k (0, 0) = F.bundles[k] := by simp [List.getD, hk]
  rw [e] at this
  exact ⟨this.1, this.2.1⟩
structure Oh where
  s : SL
  c : SL
  b : SL
structure GW (W : Oh) (σ : Hp) (F : Fai) : Prop where
  s : RdS [.int .i64] σ W.s.A W.s.n F.stock
  c : RdS [.int .i64] σ W.c.A W.c.n F.cash
  b : RdS s2 σ W.b.A W.b.n F.bundles
theorem GW.sub {W : Oh} {σ σ' : Hp} {F : Fai} (h : GW W σ F) (hs : Hp.Sub σ σ') : GW W σ' F := ⟨h.s.sub hs, h.c.sub hs, h.b.sub hs⟩
def B3 (W : Oh) (F : Fai) : Array Value := #[.int .i64 F.purses, .int .i64 F.boxes, W.s.v, W.c.v, W.b.v, .int .i64 F.refund, .int .i64 F.band, .int .i64 F.hours]
section
variable {σ : Hp} {W : Oh} {F : Fai}
theorem TF {n lo hi : Int} : Al Tryz.prog HZ #[.int .i64 n, .int .i64 lo, .int .i64 hi] σ fun v σ' => v = .bool (decide (lo ≤ n ∧ n ≤ hi)) ∧ σ' = σ := by
  refine Kr _ _ _ _ _ ?_
  unfold EL
  refine AK (fun h => Az ⟨?_, rfl⟩) (fun h => Az ⟨?_, rfl⟩)
  · rw [decide_eq_decide.2 (show n ≤ hi ↔ lo ≤ n ∧ n ≤ hi from ⟨fun h' => ⟨h, h'⟩, fun h' => h'.2⟩)]
  · rw [decide_eq_false fun h' => h h'.1]
theorem DY {n lo hi : Int} {K : Bool → Hp → Prop} (h : K (decide (lo ≤ n ∧ n ≤ hi)) σ) : cl Tryz.prog (.func (.func HZ) #[] #[]) #[.int .i64 n, .int .i64 lo, .int .i64 hi] σ fun v σ' => ∃ t : Bool, (v = .bool t ∧ K t σ') := clB H1 TF h
theorem Ly {A : Option Addr} {n c : Nat} {xs : List (Int × Int)} {f : Value} {p : Nat → Bool} (hx : RdS s2 σ A n xs) (hl : xs.length ≤ 4294967296)
    (hf : ∀ k, (hk : k < xs.length) → cl Tryz.prog f #[.agg #[.int .i64 xs[k].1, .int .i64 xs[k].2]] σ fun v σ' => v = .bool (p k) ∧ σ' = σ) :
    Al Tryz.prog DT #[.slice A n c, f] σ fun v σ' => v = .bool ((List.range xs.length).any p) ∧ σ' = σ := by
  refine C8 _ _ _ _ _ _ ?_
  unfold Bj
  have hn : n = xs.length := hx.1
  have : Al Tryz.prog Ez #[.slice A n c, f] σ fun v σ' => ∃ j : Int, v = .int .i64 j ∧ decide (0 ≤ j) = (List.range xs.length).any p ∧ σ' = σ := by
    refine DL _ _ _ _ _ _ ?_
    unfold BJ
    refine Aj fun J3 h3 => ?_
    refine ⟨fun m i τ => ∃ k : Nat, m = xs.length - k ∧ i = k ∧ k ≤ xs.length ∧ τ = σ ∧ ∀ j, j < k → p j = false, ⟨_, 0, rfl, rfl, by omega, rfl, fun j h => by omega⟩, ?_⟩
    rintro m i τ ⟨k, rfl, rfl, hk, rfl, hj⟩ _
    refine AK (fun hlt => ?_) (fun hlt => ?_)
    · have hkl : k < xs.length := by omega
      refine Qu hx hkl fun b o c0 c1 => Bs c0 (Bs c1 (D2.mono (hf k hkl) ?_))
      rintro _ _ ⟨rfl, rfl⟩
      refine ⟨_, rfl, El (fun hp => Az ⟨k, rfl, ?_, rfl⟩) (fun hp => AJ (by omega) (Bb _ (by omega) ⟨k + 1, rfl, by omega, by omega, rfl, fun j hjk => ?_⟩))⟩
      · rw [FA hkl hp, decide_eq_true (by omega)]
      · rcases Nat.lt_or_ge j k with h1 | h1
        · exact hj j h1
        · have : j = k := by omega
          subst this; exact hp
    · have : k = xs.length := by omega
      subst this
      rw [h3]
      intro _
      refine Az ⟨-1, rfl, ?_, rfl⟩
      rw [GS fun j h => hj j h]
      rfl
  refine AM C7 this ?_
  rintro _ _ ⟨j, rfl, hj, rfl⟩
  exact ⟨_, rfl, Az ⟨by rw [hj], rfl⟩⟩
theorem Oc {lo hi : Int} : Al Tryz.prog LU #[.int .i64 lo, .int .i64 hi] σ fun v σ' => ∃ b1 b3, v = .func (.func FT) #[] #[.pointer (some ⟨b1, 0, none⟩), .pointer (some ⟨b3, 0, none⟩)] ∧ Hp.Sub σ σ' ∧ σ' b1 = some (.cells #[.int .i64 lo] 3 (0, 0), true) ∧ σ' b3 = some (.cells #[.int .i64 hi] 3 (0, 0), true) := by
  refine JI _ _ _ _ ?_
  unfold Ej
  intro b1 n1 b3 n3
  exact Az ⟨b1, b3, rfl, (Hp.Sub.ins _ n1).trans (Hp.Sub.ins _ n3), Hp.Sub.ins _ n3 _ _ (Hp.ins_same ..), Hp.ins_same ..⟩
theorem La {n lo hi : Int} {b1 b3 : Nat} {w1 w3 : Bool} (h1 : σ b1 = some (.cells #[.int .i64 lo] 3 (0, 0), w1)) (h3 : σ b3 = some (.cells #[.int .i64 hi] 3 (0, 0), w3)) : Al Tryz.prog FT #[.int .i64 n, .pointer (some ⟨b1, 0, none⟩), .pointer (some ⟨b3, 0, none⟩)] σ fun v σ' => v = .bool (!decide (lo ≤ n ∧ n ≤ hi)) ∧ σ' = σ := by
  refine Ig _ _ _ _ _ ?_
  unfold Dg
  exact AD (Bl h1 rfl (AD (Bl h3 rfl (DY (Az ⟨rfl, rfl⟩)))))
theorem UI {p : Prop} [Decidable p] {t : Bool} (h : t = !decide p) : (t = true → ¬ p) ∧ (t = false → p) := by
  subst h
  constructor
  · intro h h'
    rw [decide_eq_true h'] at h
    cases h
  · intro h
    by_cases c : p
    · exact c
    · rw [decide_eq_false c] at h
      cases h
theorem Ot {n : Nat} {p : Nat → Prop} [DecidablePred p] {t : Bool} (h : t = (List.range n).any fun k => !decide (p k)) : (t = true → ¬ ∀ k < n, p k) ∧ (t = false → ∀ k < n, p k) := by
  subst h
  constructor
  · intro h hall
    obtain ⟨k, hk, hp⟩ := List.any_eq_true.1 h
    rw [decide_eq_true (hall k (List.mem_range.1 hk))] at hp
    cases hp
  · intro h k hk
    by_cases c : p k
    · exact c
    · rw [FA hk (by rw [decide_eq_false c]; rfl)] at h
      cases h
set_option maxRecDepth 20000 in
theorem II (hF : GW W σ F) (hl : F.stock.length ≤ 4294967296 ∧ F.cash.length ≤ 4294967296 ∧ F.bundles.length ≤ 4294967296) : Al Tryz.prog IC #[.agg (B3 W F)] σ fun v σ' => Hp.Sub σ σ' ∧ ((v = .int .i64 0 ∧ FOK F) ∨ (v = .int .i64 10 ∧ ¬ FOK F)) := by
  refine KQ _ _ _ _ _ _ _ _ _ _ _ _ _ _ _ _ ?_
  unfold Fh
  have hsn := hF.s.lenI
  have hcn := hF.c.lenI
  have hbn : W.b.n = F.bundles.length := hF.b.1
  refine Aj fun J3 h3 => ?_
  have k3 : ∀ t : Bool, (t = true → ¬ FOK F) → (t = false → (1 ≤ F.stock.length ∧ F.stock.length ≤ 8) ∧ F.cash.length = F.stock.length ∧ (0 ≤ F.purses ∧ F.purses ≤ 20) ∧ (0 ≤ F.boxes ∧ F.boxes ≤ 12) ∧ F.bundles.length ≤ 6) → J3 t σ := by
    intro t a1 a2
    rw [h3]
    intro _
    refine Aj fun J7 h7 => ?_
    have k7 : ∀ (t : Bool) (τ : Hp), Hp.Sub σ τ → (t = true → ¬ FOK F) → (t = false → ((1 ≤ F.stock.length ∧ F.stock.length ≤ 8) ∧ F.cash.length = F.stock.length ∧ (0 ≤ F.purses ∧ F.purses ≤ 20) ∧ (0 ≤ F.boxes ∧ F.boxes ≤ 12) ∧ F.bundles.length ≤ 6) ∧
        (∀ k < F.stock.length, 0 ≤ gt F.stock k ∧ gt F.stock k ≤ 100000) ∧ (∀ k < F.cash.length, 0 ≤ gt F.cash k ∧ gt F.cash k ≤ 1000000) ∧ (0 ≤ F.refund ∧ F.refund ≤ 1000) ∧ (0 ≤ F.band ∧ F.band ≤ 1000000) ∧ (1 ≤ F.hours ∧ F.hours ≤ 1440)) → J7 t τ := by
      intro t τ hs a1 a2
      rw [h7]
      intro _
      refine Aj fun J11 h11 => ?_
      have k11 : ∀ (t : Bool) (τ : Hp), Hp.Sub σ τ → (t = true → ¬ FOK F) → (t = false → FOK F) → J11 t τ := by
        intro t τ hs a1 a2
        rw [h11]
        intro _
        exact El (fun e => Az ⟨hs, .inr ⟨rfl, a1 e⟩⟩) (fun e => Az ⟨hs, .inl ⟨rfl, a2 e⟩⟩)
      refine El (fun e => k11 true τ hs (fun _ => a1 e) fun h => by cases h) (fun e => ?_)
      obtain ⟨⟨p1, p2, p3, p4, p5⟩, p6, p7, p8, p9, p10⟩ := a2 e
      intro b13 n13
      have hc13 : (τ.ins b13 (.cells (B3 W F) 37 (0, 0))) b13 = some (.cells (B3 W F) 37 (0, 0), true) := Hp.ins_same ..
      have hs13 := Hp.Sub.ins (.cells (B3 W F) 37 (0, 0)) n13
      show cl _ _ _ (τ.ins b13 (.cells (B3 W F) 37 (0, 0))) _
      generalize τ.ins b13 (.cells (B3 W F) 37 (0, 0)) = σ14 at *
      refine clB CH (Ly (p := fun k => !decide (bqF F (F.bundles.getD k (0, 0)))) (hF.b.sub (hs.trans hs13)) hl.2.2 fun k hk => ?_) ?_
      · refine D2.func Hj ?_
        refine JF _ _ _ _ _ ?_
        unfold Em
        have e : F.bundles.getD k (0, 0) = F.bundles[k] := by simp [List.getD, hk]
        rw [e]
        generalize F.bundles[k] = u
        have key : ∀ t : Bool, (t = true ↔ ¬ bqF F u) → (Value.bool t = Value.bool (!decide (bqF F u)) ∧ σ14 = σ14) := fun t ht => by
          refine ⟨congrArg Value.bool (Bool.eq_iff_iff.2 ?_), rfl⟩
          rw [ht, Bool.not_eq_true', decide_eq_false_iff_not]
        refine DY (BA (fun h => Az (key true ⟨fun _ h' => h h'.1, fun _ => rfl⟩)) (fun h => DY (BA (fun h2 => Az (key true ⟨fun _ h' => h2 h'.2.1, fun _ => rfl⟩)) (fun h2 => AD (Bl hc13 rfl ?_)))))
        have hm := WA p8.1 p8.2 (show 0 ≤ u.1 by omega) h.2
        refine AJ (by omega) (Az (key _ ?_))
        rw [decide_eq_true_eq]
        exact ⟨fun h3 h' => by have := h'.2.2; omega, fun h3 => by
          by_cases c : u.2 < F.refund * u.1
          · exact c
          · exact absurd ⟨h, h2, by omega⟩ h3⟩
      · obtain ⟨q1, q2⟩ := Ot (n := F.bundles.length) (p := fun k => bqF F (F.bundles.getD k (0, 0))) rfl
        exact k11 _ σ14 (hs.trans hs13) (fun e h => q1 e h.u) fun e => ⟨p1, p2, p3, p4, p5, p6, p7, p8, p9, p10, q2 e⟩
    refine El (fun e => k7 true σ (Hp.Sub.refl _) (fun _ => a1 e) fun h => by cases h) (fun e => ?_)
    have hp := a2 e
    refine AM DP Oc ?_
    rintro v σ19 ⟨b1, b3, rfl, hs19, c1, c3⟩
    refine ⟨_, rfl, hs19, ?_⟩
    refine clB Bw (Ff (p := fun k => !decide (0 ≤ gt F.stock k ∧ gt F.stock k ≤ 100000)) (hF.s.sub hs19) hl.1 fun k hk => ?_) ?_
    · exact D2.func C3 (La c1 c3)
    obtain ⟨q1, q2⟩ := Ot (n := F.stock.length) (p := fun k => 0 ≤ gt F.stock k ∧ gt F.stock k ≤ 100000) rfl
    refine El (fun e => k7 true _ hs19 (fun _ h => q1 e h.s) fun h => by cases h) (fun e => ?_)
    have hp1 := q2 e
    refine AM DP Oc ?_
    rintro v σ25 ⟨b1, b3, rfl, hs25, c1, c3⟩
    refine ⟨_, rfl, hs25, ?_⟩
    have hs25 := hs19.trans hs25
    refine clB Bw (Ff (p := fun k => !decide (0 ≤ gt F.cash k ∧ gt F.cash k ≤ 1000000)) (hF.c.sub hs25) hl.2.1 fun k hk => ?_) ?_
    · exact D2.func C3 (La c1 c3)
    obtain ⟨q3, q4⟩ := Ot (n := F.cash.length) (p := fun k => 0 ≤ gt F.cash k ∧ gt F.cash k ≤ 1000000) rfl
    refine El (fun e => k7 true _ hs25 (fun _ h => q3 e h.c) fun h => by cases h) (fun e => ?_)
    have hp2 := q4 e
    refine DY (BA (fun h => k7 true _ hs25 (fun _ h' => h h'.r) fun h => by cases h) (fun hr => ?_))
    refine DY (BA (fun h => k7 true _ hs25 (fun _ h' => h h'.b) fun h => by cases h) (fun hb => ?_))
    refine DY (k7 _ _ hs25 (fun e h' => (UI rfl).1 e h'.h) fun e => ⟨hp, hp1, hp2, hr, hb, (UI rfl).2 e⟩)
  refine DY (BA (fun h => k3 true (fun _ h' => h (by have := h'.sl; omega)) fun h => by cases h) (fun h1 => ?_))
  refine BA (fun h => k3 true (fun _ h' => h (by have := h'.cl; omega)) fun h => by cases h) (fun h2 => ?_)
  refine DY (BA (fun h => k3 true (fun _ h' => h h'.p) fun h => by cases h) (fun h3' => ?_))
  refine DY (BA (fun h => k3 true (fun _ h' => h h'.x) fun h => by cases h) (fun h4 => ?_))
  exact k3 _ (fun e h' => by have := of_decide_eq_true e; have := h'.bl; omega) fun e => by
    have := of_decide_eq_false e
    exact ⟨by omega, by omega, h3', h4, by omega⟩
def BuR (σ : Hp) (F : Fai) (n : Int) : Value → Hp → Prop := fun v σ' => ∃ (s : SL) (p e : Int), v = .tuple #[s.v, .int .i64 p, .int .i64 e] ∧ Hp.Sub σ σ' ∧
  (e = 0 → FOK F ∧ (0 ≤ n ∧ n ≤ 1000) ∧ ¬ gt (Aw (n + 1001).toNat F.bundles) (BW (Aw (n + 1001).toNat F.bundles) n 1001) = none60 ∧ p = gt (Aw (n + 1001).toNat F.bundles) (BW (Aw (n + 1001).toNat F.bundles) n 1001) ∧ RdS [.int .i64] σ' s.A s.n (Bk (n + 1001).toNat F.bundles (BW (Aw (n + 1001).toNat F.bundles) n 1001))) ∧
  (FOK F → (0 ≤ n ∧ n ≤ 1000) → ¬ gt (Aw (n + 1001).toNat F.bundles) (BW (Aw (n + 1001).toNat F.bundles) n 1001) = none60 → F.bundles ≠ [] → e = 0)
theorem LX {n : Int} (hF : GW W σ F) (hok : FOK F) (hn : 0 ≤ n ∧ n ≤ 1000) : Al Tryz.prog EO #[.agg (B3 W F), .int .i64 n] σ (BuR σ F n) := by
  refine Fx _ _ _ _ _ _ _ _ _ _ _ _ _ _ _ _ _ ?_
  unfold Da
  refine AM FU (XU hF.b (by have := hok.bl; omega) hok.bOK hn) ?_
  rintro v σ2 ⟨s, p, rfl, hs, h1, h2⟩
  have hml := Cr (m := (n + 1001).toNat) F.bundles (BW (Aw (n + 1001).toNat F.bundles) n 1001)
  refine ⟨_, _, _, _, rfl, El (fun e => Az ⟨⟨none, 0, 0⟩, 0, 3, rfl, hs, fun h => (by cases h), fun _ _ hp hne => ?_⟩) (fun e => Az ⟨s, p, 0, rfl, hs, fun _ => ?_, fun _ _ _ _ => rfl⟩)⟩
  · exfalso
    obtain ⟨_, hrd⟩ := h2 hp
    have hA : s.A = none := by
      cases h : s.A with
      | none => rfl
      | some a => rw [h] at e; simp at e
    rw [hA] at hrd
    rcases hrd.2 with h' | ⟨b, off, c', el, f, rw, h', _⟩
    · have h3 : s.n = F.bundles.length := hrd.1.trans hml
      exact hne (List.length_eq_zero_iff.1 (by omega))
    · cases h'
  · have hp : ¬ gt (Aw (n + 1001).toNat F.bundles) (BW (Aw (n + 1001).toNat F.bundles) n 1001) = none60 := fun h => by
      rw [(h1 h).1] at e
      simp at e
    exact ⟨hok, hn, hp, h2 hp⟩
theorem Xc {n : Int} (hF : GW W σ F) (hl : F.stock.length ≤ 4294967296 ∧ F.cash.length ≤ 4294967296 ∧ F.bundles.length ≤ 4294967296) : Al Tryz.prog E8 #[.agg (B3 W F), .int .i64 n] σ (BuR σ F n) := by
  refine HY _ _ _ _ _ _ _ _ _ _ _ _ _ _ _ _ _ ?_
  unfold E6
  refine AM BI (II hF hl) ?_
  rintro v σ2 ⟨hs, ⟨rfl, hok⟩ | ⟨rfl, hno⟩⟩
  · refine ⟨_, rfl, ?_⟩
    refine BA (fun h => absurd rfl h) (fun _ => DY (BA (fun h => Az ⟨⟨none, 0, 0⟩, 0, 1, rfl, hs, fun h => (by cases h), fun _ h' _ _ => absurd h' h⟩) (fun hn => ?_)))
    refine AM Cu (LX (hF.sub hs) hok hn) ?_
    rintro v σ8 ⟨s, p, e, rfl, hs8, h1, h2⟩
    exact ⟨_, _, _, _, _, rfl, Az ⟨s, p, e, rfl, hs.trans hs8, h1, h2⟩⟩
  · exact ⟨_, rfl, BA (fun _ => Az ⟨⟨none, 0, 0⟩, 0, 10, rfl, hs, fun h => (by cases h), fun h' => absurd h' hno⟩) (fun h => by cases h)⟩
theorem MJ {A A' : Option Addr} {n n' c c' : Nat} {xs ys : List Int} (h : RdS [.int .i64] σ A n xs) (h' : RdS [.int .i64] σ A' n' ys) (hl : xs.length ≤ 4294967296) : Al Tryz.prog Oo #[.slice A n c, .slice A' n' c'] σ fun v σ' => v = .bool (decide (xs = ys)) ∧ σ' = σ := by
  refine Lc _ _ _ _ _ _ _ _ ?_
  unfold Fs
  have hn := h.lenI
  have hn' := h'.lenI
  refine El (fun e => ?_) (fun e => ?_)
  · have e : ¬ (n : Int) = n' := by simpa using e
    refine Az ⟨?_, rfl⟩
    rw [decide_eq_false fun e' => e (by rw [hn, hn', e'])]
  · have e : (n : Int) = n' := by simpa using e
    refine Aj fun J3 h3 => ?_
    refine ⟨fun m i τ => ∃ k : Nat, m = xs.length - k ∧ i = k ∧ k ≤ xs.length ∧ τ = σ ∧ xs.take k = ys.take k, ⟨_, 0, rfl, rfl, by omega, rfl, rfl⟩, ?_⟩
    rintro m i τ ⟨k, rfl, rfl, hk, rfl, hj⟩ _
    refine AK (fun hlt => ?_) (fun hlt => ?_)
    · have hkl : k < xs.length := by omega
      have hkl' : k < ys.length := by omega
      refine Gr h (by omega) (by omega) (Gr h' (by omega) (by omega) ?_)
      rw [Cd hkl, Cd hkl']
      refine El (fun e2 => ?_) (fun e2 => ?_)
      · have e2 : ¬ xs[k] = ys[k] := by simpa using e2
        refine Az ⟨?_, rfl⟩
        rw [decide_eq_false fun e' => e2 (by subst e'; rfl)]
      · have e2 : xs[k] = ys[k] := by simpa using e2
        refine AJ (by omega) (Bb _ (by omega) ⟨k + 1, rfl, by omega, by omega, rfl, ?_⟩)
        rw [List.take_succ_eq_append_getElem hkl, List.take_succ_eq_append_getElem hkl', hj, e2]
    · have : k = xs.length := by omega
      subst this
      rw [h3]
      intro _
      refine Az ⟨?_, rfl⟩
      rw [List.take_length] at hj
      have e3 : ys.take xs.length = ys := List.take_of_length_le (by omega)
      rw [decide_eq_true (hj.trans e3)]
end
end Go.Proofs.YtecodlefcmjihaaGreat
