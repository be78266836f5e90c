/- Contracts of layer 7: Cycle, of the program and of the reference. -/
import Derived.Test.YtgcefaikdplbkaaGreatRc2
namespace Go.Proofs.YtgcefaikdplbkaaGreat
open Go.RowKit

/-- the error of Cycle's arguments -/
def cyC (c : Int) (n : Nat) (i low high : Int) : Int := if rideC c n i = 0 then (if 1 ≤ low ∧ low ≤ high ∧ high ≤ 100 ∧ high - low ≤ 20 then 0 else 1) else rideC c n i
theorem cyC_ride {c : Int} {n : Nat} {i low high : Int} (h : ¬ rideC c n i = 0) : cyC c n i low high = rideC c n i := if_neg h
theorem cyC_no {c : Int} {n : Nat} {i low high : Int} (h : rideC c n i = 0) (h' : ¬ (1 ≤ low ∧ low ≤ high ∧ high ≤ 100 ∧ high - low ≤ 20)) : cyC c n i low high = 1 := by rw [cyC, if_pos h, if_neg h']
theorem cyC_yes {c : Int} {n : Nat} {i low high : Int} (h : rideC c n i = 0) (h' : 1 ≤ low ∧ low ≤ high ∧ high ≤ 100 ∧ high - low ≤ 20) : cyC c n i low high = 0 := by rw [cyC, if_pos h, if_pos h']
/-- what Cycle returns: the cycle and the error -/
def cyV (c : Int) (S H : Int → Int) (low high : Int) : Int × Int := if c = 0 then (if (cycF S H low (high - low + 1).toNat).1 = 0 then (0, 3) else ((cycF S H low (high - low + 1).toNat).1, 0)) else (0, c)
def CyR (σ : Hp) (c : Int) (S H : Int → Int) (low high : Int) : Value → Hp → Prop := fun v σ' => v = .tuple #[.int .i64 (cyV c S H low high).1, .int .i64 (cyV c S H low high).2] ∧ Hp.Sub σ σ'
theorem CyR.err {σ : Hp} {c e : Int} {S H : Int → Int} {low high : Int} (h : ¬ e = 0) (he : c = e) : CyR σ c S H low high (.tuple #[.int .i64 0, .int .i64 e]) σ := by
  subst he
  refine ⟨?_, Hp.Sub.refl _⟩
  unfold cyV
  rw [if_neg h]
theorem cycS_yes {S H : Int → Int} {x : Int × Int × Int} {c : Int} (h : 0 < H c) (h' : x.2.2 = 0 ∨ S c * x.2.2 < x.2.1 * H c) : cycS S H x c = (c, S c, H c) := if_pos ⟨h, h'⟩
theorem cycS_no {S H : Int → Int} {x : Int × Int × Int} {c : Int} (h : ¬ (0 < H c ∧ (x.2.2 = 0 ∨ S c * x.2.2 < x.2.1 * H c))) : cycS S H x c = x := if_neg h
theorem mul_in {a b : Int} (ha : 0 ≤ a ∧ a ≤ 240000000) (hb : 0 ≤ b ∧ b ≤ 24000) : 0 ≤ a * b ∧ a * b ≤ 5760000000000 := by
  refine ⟨Int.mul_nonneg ha.1 hb.1, ?_⟩
  exact Int.le_trans (Int.mul_le_mul ha.2 hb.2 hb.1 (by omega)) (by omega)
section
variable {σ : Hp} {w : Int} {r l : SL} {B : List BthG} {ws : Nat → SL} {G : List Grp} {S H : Int → Int} {i low high : Int}
set_option maxRecDepth 20000 in
theorem c_Cycle (he : EvR σ r B l ws G) (hT : ∀ c, Val w (atC B i c) G → PlW w (atC B i c) G (S c) (H c)) :
    FCalls Tryz.prog N_queue_Cycle #[.agg #[r.v, .int .i64 w], l.v, .int .i64 i, .int .i64 low, .int .i64 high] σ (CyR σ (cyC (chkQ w B G) B.length i low high) S H low high) := by
  refine M_queue_Cycle_ok _ _ _ _ _ _ _ _ _ _ _ _ ?_
  unfold M_queue_Cycle
  refine clI M_queue_checkRide_enter (c_checkRide he) (bc_nd (fun h => rt_of (CyR.err h (cyC_ride h))) (fun hr => ?_))
  obtain ⟨hc, i0, i1⟩ := rideC_ok hr
  have hv := chkQ_val hc
  have hm := hv.m
  refine cut_intro fun J6 h6 => ?_
  have k6 : (1 ≤ low ∧ low ≤ high ∧ high ≤ 100 ∧ high - low ≤ 20) → J6 σ := by
    intro hok
    obtain ⟨o1, o2, o3, o4⟩ := hok
    have hyes := cyC_yes (c := chkQ w B G) (n := B.length) (i := i) hr ⟨o1, o2, o3, o4⟩
    obtain ⟨nn, hnn⟩ : ∃ nn : Nat, nn = (high - low + 1).toNat := ⟨_, rfl⟩
    have hnn2 : (nn : Int) = high - low + 1 := by omega
    have hW : ∀ k : Nat, k < nn → PlW w (atC B i (low + k)) G (S (low + k)) (H (low + k)) := fun k hk => hT _ (hv.atC i0 i1 (by omega))
    have hcyc := cycF_ok (S := S) (H := H) o1 (n := nn) (by omega) fun k hk => ⟨(hW k hk).hs, (hW k hk).hg⟩
    rw [h6]
    intro _
    refine cut_intro fun J9 h9 => ?_
    refine ⟨fun m a b c p τ => ∃ (k : Nat) (bl : Nat) (rw : Bool), m = nn - k ∧ k ≤ nn ∧ (a, b, c) = cycF S H low k ∧ p = some ⟨bl, 0, none⟩ ∧ τ bl = some (.cells #[.int .i64 (low + k)] 3 (0, 0), rw) ∧ Hp.Sub σ τ, ⟨_, fun b16 n16 => ⟨0, b16, true, rfl, by omega, rfl, rfl, ?_, Hp.Sub.ins _ n16⟩⟩, ?_⟩
    · have e : low + ((0 : Nat) : Int) = low := by omega
      rw [e]
      exact Hp.ins_same ..
    rintro m a b c p τ ⟨k, bl, rw', rfl, hk, hst, rfl, hcell, hs⟩ _
    have hok := hcyc k hk
    rw [← hst] at hok
    have hxz : a = 0 ↔ c = 0 := hok.z
    have hxs : 0 ≤ b ∧ b ≤ 240000000 := hok.s
    have hxg : 0 ≤ c ∧ c ≤ 24000 := hok.g
    refine dr_i (bldI hcell rfl (bc_d (fun hlt => ?_) (fun hge => ?_)))
    · have hkl : k < nn := by omega
      have hWk := hW k hkl
      have hS := hWk.hs
      have hH := hWk.hg
      have eF : cycF S H low (k + 1) = cycS S H (a, b, c) (low + k) := by rw [hst]; rfl
      obtain ⟨N, hstN, hwo, ewS, ewG, hplay⟩ := hWk.p
      have hce : low + ((k + 1 : Nat) : Int) = low + (k : Int) + 1 := by omega
      refine cut_intro fun J27 h27 => ?_
      have k27 : ∀ a' b' c' τ' rw2, Hp.Sub σ τ' → τ' bl = some (.cells #[.int .i64 (low + k)] 3 (0, 0), rw2) → (a', b', c') = cycS S H (a, b, c) (low + k) → J27 a' b' c' τ' := by
        intro a' b' c' τ' rw2 h1 h2 h3
        rw [h27]
        intro _
        refine dr_i (bldI h2 rfl (wk_i (by omega) (bk_of (nn - (k + 1)) (by omega) fun b37 n37 => ⟨k + 1, b37, true, rfl, by omega, ?_, rfl, ?_, h1.trans (Hp.Sub.ins _ n37)⟩)))
        · rw [h3, eF]
        · rw [hce]
          exact Hp.ins_same ..
      clear eF hst hcyc hW
      generalize low + (k : Int) = cy at *
      have heτ := he.sub hs
      refine cl_of M_queue_changed_enter (c_changedC heτ.r (by omega) i0 i1 hcell) ?_
      rintro v σ40 ⟨r', rfl, ho'⟩
      refine ⟨_, _, _, _, rfl, ?_⟩
      have he40 : EvR σ40 r' (atC B i cy) l ws G := ⟨ho'.rd, heτ.l.sub ho'.sub, fun j hj => (heτ.w j hj).sub ho'.sub⟩
      refine cl_of M_queue_play_enter (hplay σ40 r' l ws he40) ?_
      rintro _ σ44 ⟨W, σ1, rfl, hs1, hSt, hn⟩
      refine ⟨_, rfl, cl_of M_queue_night_waits_enter (c_waits hSt hstN hn hwo) ?_⟩
      rintro _ σ47 ⟨rfl, e47⟩
      rw [e47, ewS, ewG]
      clear e47
      refine ⟨_, _, rfl, ?_⟩
      have hsb : Hp.Sub τ σ44 := (ho'.sub.trans hs1).trans hn.sub
      have hs44 := hs.trans hsb
      have hcell44 := hsb _ _ hcell
      clear hplay hwo ewS ewG hn hSt he40
      refine cut_intro fun J52 h52 => ?_
      have k52 : ∀ t : Bool, (t = true → (cy, S cy, H cy) = cycS S H (a, b, c) cy) → (t = false → (a, b, c) = cycS S H (a, b, c) cy) → J52 t σ44 := by
        intro t h1 h2
        rw [h52]
        intro _
        exact bc_b (fun e => dr_i (bldI hcell44 rfl (k27 _ _ _ _ _ hs44 hcell44 (h1 e)))) (fun e => k27 _ _ _ _ _ hs44 hcell44 (h2 e))
      refine bc_d (fun hg => ?_) (fun hg => k52 false (fun h => by cases h) fun _ => (cycS_no fun h => hg h.1).symm)
      refine bc_d (fun hz => k52 true (fun _ => (cycS_yes (x := (a, b, c)) hg (.inl hz)).symm) fun h => by cases h) (fun hz => ?_)
      have m1 := mul_in hS hxg
      have m2 := mul_in hxs hH
      refine wk_i (by omega) (wk_i (by omega) (k52 _ (fun h => (cycS_yes (x := (a, b, c)) hg (.inr (of_decide_eq_true h))).symm) fun h => (cycS_no fun h' => ?_).symm))
      rcases h'.2 with h3 | h3
      · exact hz h3
      · exact of_decide_eq_false h h3
    · have : k = nn := by omega
      subst this
      rw [h9]
      intro _
      have e1 : (cycF S H low (high - low + 1).toNat).1 = a := by rw [← hnn, ← hst]
      refine bc_d (fun hz => rt_of ⟨?_, hs⟩) (fun hz => rt_of ⟨?_, hs⟩)
      · unfold cyV
        rw [if_pos hyes, if_pos (by rw [e1]; exact hxz.2 hz)]
      · unfold cyV
        rw [if_pos hyes, if_neg (by rw [e1]; exact fun h => hz (hxz.1 h)), e1]
  refine cut_intro fun J61 h61 => ?_
  have k61 : ∀ t : Bool, (t = true → ¬ (1 ≤ low ∧ low ≤ high ∧ high ≤ 100 ∧ high - low ≤ 20)) → (t = false → 1 ≤ low ∧ low ≤ high ∧ high ≤ 100 ∧ high - low ≤ 20) → J61 t σ := by
    intro t h1 h2
    rw [h61]
    intro _
    exact bc_b (fun e => rt_of (CyR.err (by decide) (cyC_no hr (h1 e)))) (fun e => k6 (h2 e))
  refine l_in (bc_nd (fun h => k61 true (fun _ => by omega) fun h => by cases h) (fun h => l_in (bc_nd (fun h2 => k61 true (fun _ => by omega) fun h => by cases h) (fun h2 => wk_i (by omega) (k61 _ (fun h3 => ?_) fun h3 => ?_)))))
  · have := of_decide_eq_true h3
    omega
  · have := of_decide_eq_false h3
    omega
set_option maxRecDepth 20000 in
theorem c_refCycle (he : EvR σ r B l ws G) (hB : B.length ≤ 4294967296) (hG : G.length ≤ 4294967296) (hWa : ∀ k, (h : k < G.length) → G[k].wants.length ≤ 4294967296) (hT : ∀ c, Val w (atC B i c) G → PlW w (atC B i c) G (S c) (H c)) :
    FCalls Tryz.prog N_ref07_Cycle #[.agg #[r.v, .int .i64 w], l.v, .int .i64 i, .int .i64 low, .int .i64 high] σ (CyR σ (cyC (chkQ w B G) B.length i low high) S H low high) := by
  refine M_ref07_Cycle_ok _ _ _ _ _ _ _ _ _ _ _ _ ?_
  unfold M_ref07_Cycle
  have hrn := he.lenR
  refine clI M_ref07_Check_enter (c_refCheck he hB hG hWa) (bc_nd (fun h => ?_) (fun hc => ?_))
  · have e : rideC (chkQ w B G) B.length i = chkQ w B G := if_neg h
    exact rt_of (CyR.err h (by rw [cyC_ride (by rw [e]; exact h), e]))
  have hv := chkQ_val hc
  have hm := hv.m
  have er : rideC (chkQ w B G) B.length i = if 0 ≤ i ∧ i ≤ (B.length : Int) - 1 then 0 else 1 := if_pos hc
  refine cut_intro fun J6 h6 => ?_
  have k6 : (0 ≤ i ∧ i ≤ (B.length : Int) - 1) → (1 ≤ low ∧ low ≤ high ∧ high ≤ 100 ∧ high - low ≤ 20) → J6 σ := by
    intro hi hok
    obtain ⟨i0, i1⟩ := hi
    have hr : rideC (chkQ w B G) B.length i = 0 := by rw [er, if_pos ⟨i0, i1⟩]
    have i1 : i < B.length := by omega
    obtain ⟨o1, o2, o3, o4⟩ := hok
    have hyes := cyC_yes (c := chkQ w B G) (n := B.length) (i := i) hr ⟨o1, o2, o3, o4⟩
    obtain ⟨nn, hnn⟩ : ∃ nn : Nat, nn = (high - low + 1).toNat := ⟨_, rfl⟩
    have hnn2 : (nn : Int) = high - low + 1 := by omega
    have hW : ∀ k : Nat, k < nn → PlW w (atC B i (low + k)) G (S (low + k)) (H (low + k)) := fun k hk => hT _ (hv.atC i0 i1 (by omega))
    have hcyc := cycF_ok (S := S) (H := H) o1 (n := nn) (by omega) fun k hk => ⟨(hW k hk).hs, (hW k hk).hg⟩
    rw [h6]
    intro _
    refine cut_intro fun J9 h9 => ?_
    refine ⟨fun m a b c q τ => ∃ k : Nat, m = nn - k ∧ k ≤ nn ∧ (a, b, c) = cycF S H low k ∧ q = low + (k : Int) ∧ Hp.Sub σ τ, ⟨_, 0, rfl, by omega, rfl, by omega, Hp.Sub.refl _⟩, ?_⟩
    rintro m a b c q τ ⟨k, rfl, hk, hst, rfl, hs⟩ _
    have hok := hcyc k hk
    rw [← hst] at hok
    have hxz : a = 0 ↔ c = 0 := hok.z
    have hxs : 0 ≤ b ∧ b ≤ 240000000 := hok.s
    have hxg : 0 ≤ c ∧ c ≤ 24000 := hok.g
    refine bc_d (fun hlt => ?_) (fun hge => ?_)
    · have hkl : k < nn := by omega
      have hWk := hW k hkl
      have hS := hWk.hs
      have hH := hWk.hg
      have eF : cycF S H low (k + 1) = cycS S H (a, b, c) (low + k) := by rw [hst]; rfl
      have hcall := hWk.r
      have hce : low + ((k + 1 : Nat) : Int) = low + (k : Int) + 1 := by omega
      refine cut_intro fun J21 h21 => ?_
      have k21 : ∀ a' b' c' τ', Hp.Sub σ τ' → (a', b', c') = cycS S H (a, b, c) (low + k) → J21 a' b' c' τ' := by
        intro a' b' c' τ' h1 h3
        rw [h21]
        intro _
        exact wk_i (by omega) (bk_of (nn - (k + 1)) (by omega) ⟨k + 1, rfl, by omega, by rw [h3, eF], by omega, h1⟩)
      clear eF hst hcyc hW
      generalize low + (k : Int) = cy at *
      have heτ := he.sub hs
      refine cl_of M_ref07_Copy_enter (c_Copy heτ hB) ?_
      rintro v σ29 ⟨r', rfl, ho⟩
      refine ⟨_, _, _, _, rfl, ?_⟩
      refine OwnSl.stB (j := 2) (b' := { bd B i with cycle := cy }) ho (Hp.Sub.refl _) i0 i1 rfl fun σ33 σ34 h33 s33 => ?_
      have hs34 : Hp.Sub τ σ34 := h33.sub.trans s33
      have he34 : EvR σ34 r' (atC B i cy) l ws G := ⟨h33.rd.sub s33, heτ.l.sub hs34, fun j hj => (heτ.w j hj).sub hs34⟩
      refine cl_of M_ref07_waits_enter (hcall σ34 r' l ws he34) ?_
      rintro _ σ36 ⟨rfl, hs36⟩
      refine ⟨_, _, rfl, ?_⟩
      have hs36 := (hs.trans hs34).trans hs36
      refine cut_intro fun J41 h41 => ?_
      have k41 : ∀ t : Bool, (t = true → (cy, S cy, H cy) = cycS S H (a, b, c) cy) → (t = false → (a, b, c) = cycS S H (a, b, c) cy) → J41 t σ36 := by
        intro t h1 h2
        rw [h41]
        intro _
        exact bc_b (fun e => k21 _ _ _ _ hs36 (h1 e)) (fun e => k21 _ _ _ _ hs36 (h2 e))
      refine bc_d (fun hg => ?_) (fun hg => k41 false (fun h => by cases h) fun _ => (cycS_no fun h => hg h.1).symm)
      refine bc_d (fun hz => k41 true (fun _ => (cycS_yes (x := (a, b, c)) hg (.inl (hxz.1 hz))).symm) fun h => by cases h) (fun hz => ?_)
      have m1 := mul_in hS hxg
      have m2 := mul_in hxs hH
      refine wk_i (by omega) (wk_i (by omega) (k41 _ (fun h => (cycS_yes (x := (a, b, c)) hg (.inr (of_decide_eq_true h))).symm) fun h => (cycS_no fun h' => ?_).symm))
      rcases h'.2 with h3 | h3
      · exact hz (hxz.2 h3)
      · exact of_decide_eq_false h h3
    · have : k = nn := by omega
      subst this
      rw [h9]
      intro _
      have e1 : (cycF S H low (high - low + 1).toNat).1 = a := by rw [← hnn, ← hst]
      refine bc_d (fun hz => rt_of ⟨?_, hs⟩) (fun hz => rt_of ⟨?_, hs⟩)
      · unfold cyV
        rw [if_pos hyes, if_pos (by rw [e1]; exact hz)]
      · unfold cyV
        rw [if_pos hyes, if_neg (by rw [e1]; exact hz), e1]
  refine cut_intro fun J47 h47 => ?_
  have k47 : ∀ t : Bool, (t = true → cyC (chkQ w B G) B.length i low high = 1) → (t = false → (0 ≤ i ∧ i ≤ (B.length : Int) - 1) ∧ (1 ≤ low ∧ low ≤ high ∧ high ≤ 100 ∧ high - low ≤ 20)) → J47 t σ := by
    intro t h1 h2
    rw [h47]
    intro _
    exact bc_b (fun e => rt_of (CyR.err (by decide) (h1 e))) (fun e => k6 (h2 e).1 (h2 e).2)
  refine wk_i (by omega) (l_fr (bc_nd (fun h => k47 true (fun _ => ?_) fun h => by cases h) (fun h => ?_)))
  · have e : rideC (chkQ w B G) B.length i = 1 := by rw [er, if_neg (by omega)]
    rw [cyC_ride (by rw [e]; decide), e]
  have e : rideC (chkQ w B G) B.length i = 0 := by rw [er, if_pos (by omega)]
  refine l_fr (bc_nd (fun h1 => k47 true (fun _ => cyC_no e (by omega)) fun h => by cases h) (fun h1 => l_fr (bc_nd (fun h2 => k47 true (fun _ => cyC_no e (by omega)) fun h => by cases h) (fun h2 => wk_i (by omega) (k47 _ (fun h3 => ?_) fun h3 => ?_)))))
  · have := of_decide_eq_true h3
    exact cyC_no e (by omega)
  · have := of_decide_eq_false h3
    omega
end
end Go.Proofs.YtgcefaikdplbkaaGreat
