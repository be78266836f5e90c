/- Texts Ra9 Rb1: what the claims of this seat rest on; each text says what it proves. -/
import Derived.Test.YtgcefaikdplbkaaB18

/- Contracts of layer 7: the visits, of the program and of the reference; equality of lists of visits. -/
namespace Go.Proofs.Ytgcefaikdplbkaa
open Go.RowKit

/-! ### Visits in memory -/
theorem RdS.vix {σ : Hp} {A : Option Addr} {n : Nat} {xs : List Vis} (h : RdS sV σ A n xs) {i : Nat} (hi : i < xs.length) {x : Vis} (e : xs[i] = x) {K : Nat → Nat → Prop}
    (hk : ∀ b o, σ.cell? ⟨b, o, none⟩ = some (.int .i64 x.1) → σ.cell? ⟨b, o + 1, none⟩ = some (.int .i64 x.2.1) → σ.cell? ⟨b, o + 2, none⟩ = some (.int .i64 x.2.2.1) → σ.cell? ⟨b, o + 3, none⟩ = some (.bool x.2.2.2.1) → σ.cell? ⟨b, o + 4, none⟩ = some (.int .i64 x.2.2.2.2.1) → σ.cell? ⟨b, o + 5, none⟩ = some (.int .i64 x.2.2.2.2.2) → K b o) : ix A n i 6 K := by
  subst e
  have hk' : ((i : Nat) : Int).toNat < (xs : List (TyR sV)).length := by rw [Int.toNat_natCast]; exact hi
  refine ix_of (ss := sV) h rfl (by omega) hk' fun b o hc => ?_
  exact hk b o (hc 0 (by show 0 < 6; omega)) (hc 1 (by show 1 < 6; omega)) (hc 2 (by show 2 < 6; omega)) (hc 3 (by show 3 < 6; omega)) (hc 4 (by show 4 < 6; omega)) (hc 5 (by show 5 < 6; omega))
theorem OwnSl.st1V {σ σ' τ : Hp} {A : Option Addr} {n c : Nat} {xs : List Vis} (h : OwnSl 42 sV σ A n c xs σ') (hs : Hp.Sub σ' τ) {b off i j : Nat} {v : Value} {x r : Vis} (hA : A = some ⟨b, off, none⟩) (hi : i < xs.length) (e : xs[i] = x) (hr : setR sV x j v = some r) {K : Hp → Prop}
    (hk : ∀ σ2 τ2, OwnSl 42 sV σ A n c (xs.set i r) σ2 → Hp.Sub σ2 τ2 → K τ2) : st τ b (off + i * 6 + j) v K := by
  subst e
  obtain ⟨b', off', hA', hp⟩ := OwnSl.put (ss := sV) h hs hi
  rw [hA] at hA'
  cases hA'
  obtain ⟨w1, σ2, w2, w3⟩ := hp j v r hr
  have e1 : off + (i * sV.length + j) = off + i * 6 + j := by show off + (i * 6 + j) = _; omega
  rw [e1] at w1 w3
  exact ⟨w1, hk _ _ w2 w3⟩
/-- a whole visit is stored -/
theorem OwnSl.stV {σ σ' τ : Hp} {A : Option Addr} {n c : Nat} {xs : List Vis} (h : OwnSl 42 sV σ A n c xs σ') (hs : Hp.Sub σ' τ) {i : Nat} (hi : i < xs.length) (y : Vis) {K : Hp → Prop}
    (hk : ∀ σ2 τ2, OwnSl 42 sV σ A n c (xs.set i y) σ2 → Hp.Sub σ2 τ2 → K τ2) : ix A n i 6 fun b a => st τ b a (.int .i64 y.1) fun τ1 => st τ1 b (a + 1) (.int .i64 y.2.1) fun τ2 => st τ2 b (a + 2) (.int .i64 y.2.2.1) fun τ3 => st τ3 b (a + 3) (.bool y.2.2.2.1) fun τ4 => st τ4 b (a + 4) (.int .i64 y.2.2.2.2.1) fun τ5 => st τ5 b (a + 5) (.int .i64 y.2.2.2.2.2) K := by
  obtain ⟨b, off, hA, _⟩ := OwnSl.someA (ss := sV) h (show 0 < List.length xs by omega)
  have hn : n = xs.length := h.len
  have hl : ∀ r : Vis, i < (xs.set i r).length := fun r => by rw [List.length_set]; exact hi
  have he : ∀ r : Vis, (xs.set i r)[i]'(hl r) = r := fun r => List.getElem_set_self _
  refine ix_at hA (by omega) (by omega) ?_
  simp only [Int.toNat_natCast]
  refine h.st1V hs (j := 0) (r := (y.1, xs[i].2)) hA hi rfl rfl fun σ1 τ1 h1 s1 => ?_
  refine h1.st1V s1 (j := 1) (r := (y.1, y.2.1, xs[i].2.2)) hA (hl _) (he _) rfl fun σ2 τ2 h2 s2 => ?_
  rw [List.set_set] at h2
  refine h2.st1V s2 (j := 2) (r := (y.1, y.2.1, y.2.2.1, xs[i].2.2.2)) hA (hl _) (he _) rfl fun σ3 τ3 h3 s3 => ?_
  rw [List.set_set] at h3
  refine h3.st1V s3 (j := 3) (r := (y.1, y.2.1, y.2.2.1, y.2.2.2.1, xs[i].2.2.2.2)) hA (hl _) (he _) rfl fun σ4 τ4 h4 s4 => ?_
  rw [List.set_set] at h4
  refine h4.st1V s4 (j := 4) (r := (y.1, y.2.1, y.2.2.1, y.2.2.2.1, y.2.2.2.2.1, xs[i].2.2.2.2.2)) hA (hl _) (he _) rfl fun σ5 τ5 h5 s5 => ?_
  rw [List.set_set] at h5
  refine h5.st1V s5 (j := 5) (r := y) hA (hl _) (he _) rfl fun σ6 τ6 h6 s6 => ?_
  rw [List.set_set] at h6
  exact hk _ _ h6 s6

/-! ### Insertion -/
theorem pw_app {P Q : List Vis} {x : Vis} (h : (P ++ Q).Pairwise fun a b => vle a b = true) (h1 : ∀ q ∈ Q, vle x q = true) (h2 : ∀ a ∈ P, vle a x = true) : (P ++ x :: Q).Pairwise fun a b => vle a b = true := by
  rw [List.pairwise_append] at h ⊢
  obtain ⟨a1, a2, a3⟩ := h
  refine ⟨a1, List.pairwise_cons.2 ⟨h1, a2⟩, fun a ha b hb => ?_⟩
  rcases List.mem_cons.1 hb with rfl | hb
  · exact h2 a ha
  · exact a3 a ha b hb
theorem swap_lists {P Q R : List Vis} {p x : Vis} {k : Nat} (hk : P.length + 1 = k) : (((P ++ [p]) ++ x :: (Q ++ R)).set k p).set (k - 1) x = P ++ x :: (p :: Q ++ R) := by
  subst hk
  have e1 : ((P ++ [p]) ++ x :: (Q ++ R)).set (P.length + 1) p = (P ++ [p]) ++ p :: (Q ++ R) := by
    rw [List.set_append_right _ _ (by simp)]
    simp
  rw [e1, List.append_assoc, List.set_append_right _ _ (by simp)]
  simp
theorem vle_before (a b : Vis) : (!vle b a) = true ↔ (a.left < b.left ∨ a.left = b.left ∧ (a.1 < b.1 ∨ a.1 = b.1 ∧ a.2.1 < b.2.1)) := by
  rw [Bool.not_eq_true', ← Bool.not_eq_true, vle_iff, Classical.not_not]

section
variable {σ : Hp} {w : Int} {r l : SL} {B : List BthG} {ws : Nat → SL} {G : List Grp}
theorem c_before {a b : Vis} : FCalls Try.prog N_ref07_before #[.agg #[.int .i64 a.1, .int .i64 a.2.1, .int .i64 a.2.2.1, .bool a.2.2.2.1, .int .i64 a.2.2.2.2.1, .int .i64 a.2.2.2.2.2], .agg #[.int .i64 b.1, .int .i64 b.2.1, .int .i64 b.2.2.1, .bool b.2.2.2.1, .int .i64 b.2.2.2.2.1, .int .i64 b.2.2.2.2.2]] σ fun v σ' => v = .bool (!vle b a) ∧ σ' = σ := by
  refine M_ref07_before_ok _ _ _ _ _ _ _ _ _ _ _ _ _ _ ?_
  unfold M_ref07_before
  have hb := vle_before a b
  have e1 : a.left = a.2.2.2.2.2 := rfl
  have e2 : b.left = b.2.2.2.2.2 := rfl
  rw [e1, e2] at hb
  have key : ∀ t : Bool, (t = true ↔ (a.2.2.2.2.2 < b.2.2.2.2.2 ∨ a.2.2.2.2.2 = b.2.2.2.2.2 ∧ (a.1 < b.1 ∨ a.1 = b.1 ∧ a.2.1 < b.2.1))) → t = (!vle b a) := fun t ht => by
    rw [← hb] at ht
    exact Bool.eq_iff_iff.2 ht
  refine bc_b (fun h => ?_) (fun h => bc_b (fun h' => ?_) (fun h' => ?_))
  · have h : ¬ a.2.2.2.2.2 = b.2.2.2.2.2 := by simpa using h
    exact rt_of ⟨congrArg Value.bool (key _ (by rw [decide_eq_true_eq]; omega)), rfl⟩
  · have h : a.2.2.2.2.2 = b.2.2.2.2.2 := by simpa using h
    have h' : ¬ a.1 = b.1 := by simpa using h'
    exact rt_of ⟨congrArg Value.bool (key _ (by rw [decide_eq_true_eq]; omega)), rfl⟩
  · have h : a.2.2.2.2.2 = b.2.2.2.2.2 := by simpa using h
    have h' : a.1 = b.1 := by simpa using h'
    exact rt_of ⟨congrArg Value.bool (key _ (by rw [decide_eq_true_eq]; omega)), rfl⟩

def vsL (c : Int) (vs : List Vis) : List Vis := if c = 0 then vs else []
theorem vsL_len {c : Int} {vs : List Vis} : (vsL c vs).length ≤ vs.length := by
  unfold vsL
  split
  · exact Nat.le_refl _
  · exact Nat.zero_le _
/-- visits that are read, and an error -/
def VsR (σ : Hp) (c : Int) (vs : List Vis) : Value → Hp → Prop := fun v σ' => ∃ s : SL, v = .tuple #[s.v, .int .i64 c] ∧ Hp.Sub σ σ' ∧ RdS sV σ' s.A s.n (vsL c vs)
theorem VsR.err {c : Int} {vs : List Vis} (h : ¬ c = 0) : VsR σ c vs (.tuple #[.slice none 0 0, .int .i64 c]) σ := ⟨⟨none, 0, 0⟩, rfl, Hp.Sub.refl _, by rw [vsL, if_neg h]; exact (OwnSl.nil 42 sV σ).rd⟩
theorem VsR.ok {σ' : Hp} {s : SL} {vs : List Vis} (hs : Hp.Sub σ σ') (h : RdS sV σ' s.A s.n vs) : VsR σ 0 vs (.tuple #[s.v, .int .i64 0]) σ' := ⟨s, rfl, hs, by rw [vsL, if_pos rfl]; exact h⟩
theorem c_Play (hr : EvR σ r B l ws G) : FCalls Try.prog N_queue_Play #[.agg #[r.v, .int .i64 w], l.v] σ (VsR σ (chkQ w B G) (Ngt.played w B G).visits) := by
  refine M_queue_Play_ok _ _ _ _ _ _ _ _ _ ?_
  unfold M_queue_Play
  refine clI M_queue_Check_enter (c_Check hr) (bc_b (fun hc => ?_) (fun hc => ?_))
  · exact rt_of (VsR.err (by simpa using hc))
  · have hc : chkQ w B G = 0 := by simpa using hc
    have hv := chkQ_val hc
    rw [hc]
    have hpl := c_play_val hr hv
    generalize Ngt.played w B G = N at *
    refine cl_of M_queue_play_enter hpl ?_
    rintro _ τ ⟨W, σ1, rfl, hs, hS, ht⟩
    obtain ⟨v, hb, hrd⟩ := ht.nblk
    exact ⟨_, rfl, dr_i (bldS hb rfl (rt_of (VsR.ok (s := v) (hs.trans ht.sub) hrd)))⟩
theorem PlayR.visR {W : PW} {σ0 : Hp} {S : Pl} (h : PlayR W σ0 σ S) : ∃ (v : SL) (σ1 : Hp), σ W.pb = some (.cells (playC W S v) 65 (0, 0), true) ∧ OwnSl 42 sV σ1 v.A v.n v.c S.visits σ ∧ Hp.Sub σ0 σ1 := by
  obtain ⟨σ3, h1, h2⟩ := h
  obtain ⟨σ1, h3, h4⟩ := star_get (k := 0) ppieces_port (by show 0 < 8; omega) h1
  obtain ⟨σ1', h5, h6⟩ := Port.coreP.junk h4 h2
  obtain ⟨v, σ4, h7, h8⟩ := h5
  refine ⟨v, σ4, h8.sub _ _ h7.get, h8, ?_⟩
  have a1 : Hp.Sub σ0 σ1 := Port.sub (Port.star fun R hR => ppieces_port R (List.mem_of_mem_eraseIdx hR)) h3
  exact (a1.trans h6).trans (Port.blk.sub h7)

set_option maxRecDepth 20000 in
theorem c_refPlay (hr : EvR σ r B l ws G) (hB : B.length ≤ 4294967296) (hG : G.length ≤ 4294967296) (hW : ∀ k, (h : k < G.length) → G[k].wants.length ≤ 4294967296) : FCalls Try.prog N_ref07_Play #[.agg #[r.v, .int .i64 w], l.v] σ (VsR σ (chkQ w B G) (Ngt.played w B G).visits) := by
  refine M_ref07_Play_ok _ _ _ _ _ _ _ _ _ ?_
  unfold M_ref07_Play
  refine clI M_ref07_Check_enter (c_refCheck hr hB hG hW) (bc_b (fun hc => ?_) (fun hc => ?_))
  · exact rt_of (VsR.err (by simpa using hc))
  · have hc : chkQ w B G = 0 := by simpa using hc
    have hv := chkQ_val hc
    rw [hc]
    obtain ⟨S, sm, _, hpl⟩ := c_played_ex hr hv
    have hvo := run_vis hv
    rw [played_visits]
    rw [← sm.2.2.2.2] at hvo ⊢
    clear sm
    refine cl_of M_ref07_played_enter hpl ?_
    rintro _ τ ⟨W, rfl, hS, ht⟩
    obtain ⟨v, σ1, hb, ho, hs1⟩ := ht.visR
    refine ⟨_, rfl, dr_i (bldS hb rfl ?_)⟩
    generalize S.visits = V at *
    have hvn : v.n = V.length := ho.len
    have hvl := hvo.l
    refine cut_intro fun J12 h12 => ?_
    have k12 : ∀ τ', OwnSl 42 sV σ1 v.A v.n v.c (vsort V) τ' → J12 τ' := by
      intro τ' h'
      rw [h12]
      intro _
      exact rt_of (VsR.ok (s := v) (hs1.trans h'.sub) h'.rd)
    refine ⟨fun m i τ' => ∃ (k : Nat) (xs : List Vis), m = V.length - k ∧ i = (k : Int) + 1 ∧ k ≤ V.length ∧ xs.Perm V ∧ (xs.take (k + 1)).Pairwise (fun a b => vle a b = true) ∧ OwnSl 42 sV σ1 v.A v.n v.c xs τ', ⟨_, 0, V, rfl, rfl, by omega, List.Perm.refl _, ?_, ho⟩, ?_⟩
    · cases V with
      | nil => exact List.Pairwise.nil
      | cons a V => simp
    rintro m i τ1 ⟨k, xs, rfl, rfl, hk, hp, hsrt, hxs⟩ _
    have hxl : xs.length = V.length := hp.length_eq
    refine bc_d (fun hlt => ?_) (fun hlt => ?_)
    · have hkl : k + 1 < xs.length := by omega
      refine cut_intro fun J20 h20 => ?_
      have k20 : ∀ (ys : List Vis) τ', ys.Perm V → (ys.take (k + 2)).Pairwise (fun a b => vle a b = true) → OwnSl 42 sV σ1 v.A v.n v.c ys τ' → J20 τ' := by
        intro ys τ' a1 a2 a3
        rw [h20]
        intro _
        exact wk_i (by omega) (bk_of _ (by omega) ⟨k + 1, ys, rfl, by omega, by omega, a1, a2, a3⟩)
      refine ⟨fun m i τ' => ∃ (P Q R : List Vis) (x : Vis), m = P.length ∧ i = P.length ∧ P.length + Q.length = k + 1 ∧ (P ++ x :: (Q ++ R)).Perm V ∧ (P ++ Q).Pairwise (fun a b => vle a b = true) ∧ (∀ q ∈ Q, vle x q = true) ∧ OwnSl 42 sV σ1 v.A v.n v.c (P ++ x :: (Q ++ R)) τ', ⟨_, xs.take (k + 1), [], xs.drop (k + 2), xs[k + 1], rfl, by rw [List.length_take]; omega, by rw [List.length_take]; simp; omega, ?_, by simpa using hsrt, fun q hq => by simp at hq, ?_⟩, ?_⟩
      · have e : xs.take (k + 1) ++ xs[k + 1] :: ([] ++ xs.drop (k + 2)) = xs := by
          rw [List.nil_append, ← List.drop_eq_getElem_cons hkl, List.take_append_drop]
        rw [e]
        exact hp
      · have e : xs.take (k + 1) ++ xs[k + 1] :: ([] ++ xs.drop (k + 2)) = xs := by
          rw [List.nil_append, ← List.drop_eq_getElem_cons hkl, List.take_append_drop]
        exact (congrArg (fun z : List Vis => OwnSl 42 sV σ1 v.A v.n v.c z τ1) e).mpr hxs
      rintro m i τ2 ⟨P, Q, R, x, rfl, rfl, hpq, hpm, hpw, hq, hown⟩ _
      have hll : (P ++ x :: (Q ++ R)).length = V.length := hpm.length_eq
      have hPl : P.length < (P ++ x :: (Q ++ R)).length := by simp
      have ex : (P ++ x :: (Q ++ R))[P.length] = x := by simp
      have hfin : (∀ a ∈ P, vle a x = true) → J20 τ2 := by
        intro h
        refine k20 (P ++ x :: (Q ++ R)) τ2 hpm ?_ hown
        have e : (P ++ x :: (Q ++ R)).take (k + 2) = P ++ x :: Q := by
          have : P ++ x :: (Q ++ R) = (P ++ x :: Q) ++ R := by simp
          rw [this, List.take_left' (by simp; omega)]
        rw [e]
        exact pw_app hpw hq h
      rcases List.eq_nil_or_concat P with hP | ⟨P', p, hP⟩
      · subst hP
        refine cut_intro fun J31 h31 => ?_
        refine cut_intro fun J71 h71 => ?_
        refine bc_d (fun h0 => absurd h0 (by simp)) (fun _ => ?_)
        rw [h71]
        intro _
        exact hfin fun a ha => by simp at ha
      · have hP : P = P' ++ [p] := by rw [hP]; exact List.concat_eq_append ..
        have hPl' : P.length = P'.length + 1 := by rw [hP]; simp
        have hPl2 : P'.length < (P ++ x :: (Q ++ R)).length := by omega
        have ep : (P ++ x :: (Q ++ R))[P'.length] = p := by simp [hP]
        refine cut_intro fun J31 h31 => ?_
        have k31 : vle p x = false → J31 τ2 := by
          intro hbf
          rw [h31]
          intro _
          have ei : (P.length : Int) - 1 = (P'.length : Int) := by omega
          refine wk_i (by omega) (wk_i (by omega) ?_)
          rw [ei]
          refine hown.rd.vix hPl2 ep fun b o c0 c1 c2 c3 c4 c5 => ldI_of c0 (ldI_of c1 (ldI_of c2 (ldB_of c3 (ldI_of c4 (ldI_of c5 ?_)))))
          refine hown.rd.vix hPl ex fun b o c0 c1 c2 c3 c4 c5 => ldI_of c0 (ldI_of c1 (ldI_of c2 (ldB_of c3 (ldI_of c4 (ldI_of c5 ?_)))))
          refine OwnSl.stV hown (Hp.Sub.refl _) hPl p fun σ3 τ3 h3 s3 => ?_
          refine OwnSl.stV h3 s3 (by rw [List.length_set]; exact hPl2) x fun σ4 τ4 h4 s4 => ?_
          obtain ⟨m, hm⟩ : ∃ m, m = P'.length := ⟨_, rfl⟩
          refine wk_i (by omega) ⟨σ4, s4, P'.length, by omega, P', p :: Q, R, x, rfl, rfl, by simp; omega, ?_, ?_, ?_, ?_⟩
          · refine List.Perm.trans ?_ hpm
            rw [hP, List.append_assoc]
            refine List.Perm.append_left _ ?_
            exact List.Perm.swap _ _ _
          · rw [hP, List.append_assoc] at hpw
            exact hpw
          · intro q hq'
            rcases List.mem_cons.1 hq' with rfl | hq'
            · rcases vle_total x q with h | h
              · exact h
              · rw [h] at hbf; cases hbf
            · exact hq q hq'
          · have e : ((P ++ x :: (Q ++ R)).set P.length p).set P'.length x = P' ++ x :: (p :: Q ++ R) := by
              have := swap_lists (P := P') (Q := Q) (R := R) (p := p) (x := x) (k := P.length) (by omega)
              rw [← hP] at this
              have e2 : P.length - 1 = P'.length := by omega
              rw [e2] at this
              exact this
            exact (congrArg (fun z : List Vis => OwnSl 42 sV σ1 v.A v.n v.c z σ4) e).mp h4
        refine cut_intro fun J71 h71 => ?_
        have k71 : J71 (!vle p x) τ2 := by
          rw [h71]
          intro _
          refine bc_b (fun hb => k31 (by simpa using hb)) (fun hb => hfin fun a ha => ?_)
          have hb : vle p x = true := by simpa using hb
          rw [hP] at ha
          rcases List.mem_append.1 ha with ha | ha
          · have hpw' : (P' ++ [p]).Pairwise (fun a b => vle a b = true) := by
              rw [hP] at hpw
              exact hpw.sublist (List.sublist_append_left ..)
            have := (List.pairwise_append.1 hpw').2.2 a ha p (by simp)
            exact vle_trans _ _ _ this hb
          · rw [List.mem_singleton] at ha
            subst ha
            exact hb
        refine bc_d (fun h0 => ?_) (fun h0 => absurd (show (0 : Int) < (P.length : Int) by omega) h0)
        refine hown.rd.vix hPl ex fun b o c0 c1 c2 c3 c4 c5 => ldI_of c0 (ldI_of c1 (ldI_of c2 (ldB_of c3 (ldI_of c4 (ldI_of c5 ?_)))))
        have ei : (P.length : Int) - 1 = (P'.length : Int) := by omega
        refine wk_i (by omega) ?_
        rw [ei]
        refine hown.rd.vix hPl2 ep fun b o c0 c1 c2 c3 c4 c5 => ldI_of c0 (ldI_of c1 (ldI_of c2 (ldB_of c3 (ldI_of c4 (ldI_of c5 ?_)))))
        exact clB M_ref07_before_enter c_before k71
    · have hk1 : V.length ≤ k + 1 := by omega
      rw [List.take_of_length_le (by omega)] at hsrt
      have e : xs = vsort V := perm_sorted_eq (R := fun a b => vle a b = true) (hp.trans (sortB_perm vle V).symm) hsrt (sortB_sorted vle_trans vle_total V) fun a ha b hb h1 h2 => by
        rw [vle_iff] at h1 h2
        exact hvo.u a (hp.mem_iff.1 ha) b (hp.mem_iff.1 hb) (by omega) (by omega)
      subst e
      exact k12 _ hxs

theorem c_sameVisits {A A' : Option Addr} {n n' c c' : Nat} {xs ys : List Vis} (h : RdS sV σ A n xs) (h' : RdS sV σ A' n' ys) (hl : xs.length ≤ 4294967296) (he : xs = ys) : FCalls Try.prog N_law07_sameVisits #[.slice A n c, .slice A' n' c'] σ fun v σ' => v = .bool true ∧ σ' = σ := by
  subst he
  refine M_law07_sameVisits_ok _ _ _ _ _ _ _ _ ?_
  unfold M_law07_sameVisits
  have hn : n = xs.length := h.1
  have hn' : n' = xs.length := h'.1
  refine bc_b (fun e => ?_) (fun e => ?_)
  · have e : ¬ (n : Int) = n' := by simpa using e
    exact absurd (by rw [hn, hn']) e
  · refine cut_intro fun J3 h3 => ?_
    refine ⟨fun m i τ => ∃ k : Nat, m = xs.length - k ∧ i = k ∧ k ≤ xs.length ∧ τ = σ, ⟨_, 0, rfl, rfl, by omega, rfl⟩, ?_⟩
    rintro m i τ ⟨k, rfl, rfl, hk, rfl⟩ _
    refine bc_d (fun hlt => ?_) (fun hlt => ?_)
    · have hkl : k < xs.length := by omega
      refine h.vix hkl rfl fun b o c0 c1 c2 c3 c4 c5 => ldI_of c0 (ldI_of c1 (ldI_of c2 (ldB_of c3 (ldI_of c4 (ldI_of c5 ?_)))))
      refine h'.vix hkl rfl fun b o c0 c1 c2 c3 c4 c5 => ldI_of c0 (ldI_of c1 (ldI_of c2 (ldB_of c3 (ldI_of c4 (ldI_of c5 ?_)))))
      refine bc_b (fun e2 => ?_) (fun e2 => ?_)
      · simp at e2
      · exact wk_i (by omega) (bk_of _ (by omega) ⟨k + 1, rfl, by omega, by omega, rfl⟩)
    · rw [h3]
      intro _
      exact rt_of ⟨rfl, rfl⟩
end
end Go.Proofs.Ytgcefaikdplbkaa

/- Contracts of layer 7: equality of groups. -/
namespace Go.Proofs.Ytgcefaikdplbkaa
open Go.RowKit

section
variable {σ : Hp} {w : Int} {r l : SL} {B : List BthG} {ws : Nat → SL} {G : List Grp}
set_option maxRecDepth 20000 in
theorem c_sameGroups {r' l' : SL} {ws' : Nat → SL} (h : EvR σ r B l ws G) (h' : EvR σ r' B l' ws' G) (hG : G.length ≤ 4294967296) (hW : ∀ k, (h : k < G.length) → G[k].wants.length ≤ 4294967296) : FCalls Try.prog N_law07_sameGroups #[l.v, l'.v] σ fun v _ => v = .bool true := by
  refine M_law07_sameGroups_ok _ _ _ _ _ _ _ _ ?_
  unfold M_law07_sameGroups
  have hn : l.n = G.length := h.lenL
  have hn' : l'.n = G.length := h'.lenL
  refine bc_b (fun e => ?_) (fun e => ?_)
  · have e : ¬ (l.n : Int) = l'.n := by simpa using e
    exact absurd (by rw [hn, hn']) e
  · refine cut_intro fun J3 h3 => ?_
    refine ⟨fun m i τ => ∃ k : Nat, m = G.length - k ∧ i = k ∧ k ≤ G.length ∧ Hp.Sub σ τ, ⟨_, 0, rfl, rfl, by omega, Hp.Sub.refl _⟩, ?_⟩
    rintro m i τ ⟨k, rfl, rfl, hk, hs⟩ _
    refine bc_d (fun hlt => ?_) (fun hlt => ?_)
    · have hkl : k < G.length := by omega
      refine cut_intro fun J11 h11 => ?_
      have k11 : ∀ τ', Hp.Sub σ τ' → J11 τ' := by
        intro τ' a
        rw [h11]
        intro _
        exact wk_i (by omega) (bk_of _ (by omega) ⟨k + 1, rfl, by omega, by omega, a⟩)
      refine cut_intro fun J17 h17 => ?_
      have k17 : ∀ (b1 b2 : Nat) (τ' : Hp), Hp.Sub σ τ' → τ' b1 = some (.cells #[.int .i64 G[k].came, .int .i64 G[k].size, .int .i64 G[k].tokens, (ws k).v, .int .i64 G[k].patience] 44 (0, 0), true) → τ' b2 = some (.cells #[.int .i64 G[k].came, .int .i64 G[k].size, .int .i64 G[k].tokens, (ws' k).v, .int .i64 G[k].patience] 44 (0, 0), true) → J17 (some ⟨b1, 0, none⟩) (some ⟨b2, 0, none⟩) τ' := by
        intro b1 b2 τ' a p1 p2
        rw [h17]
        intro _
        refine cut_intro fun J22 h22 => ?_
        have k22 : ∀ τ2, Hp.Sub σ τ2 → J22 false τ2 := by
          intro τ2 a2
          rw [h22]
          intro _
          exact k11 _ a2
        refine dr_i (bldI p1 rfl (dr_i (bldI p2 rfl (bc_b (fun e => by simp at e) (fun _ => ?_)))))
        refine dr_i (bldI p1 rfl (dr_i (bldI p2 rfl (bc_b (fun e => by simp at e) (fun _ => ?_)))))
        refine dr_i (bldI p1 rfl (dr_i (bldI p2 rfl (bc_b (fun e => by simp at e) (fun _ => ?_)))))
        refine dr_i (bldI p1 rfl (dr_i (bldI p2 rfl (bc_b (fun e => by simp at e) (fun _ => ?_)))))
        refine dr_i (bldS p1 rfl (dr_i (bldS p2 rfl ?_)))
        exact l_same ((h.w k hkl).sub a) ((h'.w k hkl).sub a) (hW k hkl) (k22 _ a)
      have leaf : bx τ (.cells #[.int .i64 G[k].came, .int .i64 G[k].size, .int .i64 G[k].tokens, (ws k).v, .int .i64 G[k].patience] 44 (0, 0)) fun b1 σ1 => bx σ1 (.cells #[.int .i64 G[k].came, .int .i64 G[k].size, .int .i64 G[k].tokens, (ws' k).v, .int .i64 G[k].patience] 44 (0, 0)) fun b2 σ2 => J17 (some ⟨b1, 0, none⟩) (some ⟨b2, 0, none⟩) σ2 := by
        intro b1 n1 b2 n2
        refine k17 b1 b2 _ ((hs.trans (Hp.Sub.ins _ n1)).trans (Hp.Sub.ins _ n2)) (Hp.Sub.ins _ n2 _ _ (Hp.ins_same ..)) (Hp.ins_same ..)
      refine (h.sub hs).group hkl fun b o c0 c1 c2 c3 c4 => ldI_of c0 (ldI_of c1 (ldI_of c2 (ldS_of c3 (ldI_of c4 ?_))))
      refine (h'.sub hs).group hkl fun b o d0 d1 d2 d3 d4 => ?_
      repeat' (first | exact ldI_of d0 (ldI_of d1 (ldI_of d2 (ldS_of d3 (ldI_of d4 leaf)))) | exact ldI_of d0 (ldI_of d1 (ldI_of d2 (ldS_of d3 (ldI_of d4 ⟨leaf, leaf⟩)))) | apply And.intro)
    · rw [h3]
      intro _
      exact rt_of rfl
end
end Go.Proofs.Ytgcefaikdplbkaa

