/- Contracts of layer 7, reference: stand, on, leave. -/
import Derived.Test.YtgcefaikdplbkaaRa4
namespace Go.Proofs.Ytgcefaikdplbkaa
open Go.RowKit

theorem EvR.gix {σ : Hp} {r l : SL} {B : List BthG} {ws : Nat → SL} {G : List Grp} (h : EvR σ r B l ws G) {g : Int} (g0 : 0 ≤ g) (g1 : g < G.length) {K : Nat → Nat → Prop}
    (hK : ∀ b o, σ.cell? ⟨b, o, none⟩ = some (.int .i64 (gd G g).came) → σ.cell? ⟨b, o + 1, none⟩ = some (.int .i64 (gd G g).size) → σ.cell? ⟨b, o + 3, none⟩ = some (ws g.toNat).v → σ.cell? ⟨b, o + 4, none⟩ = some (.int .i64 (gd G g).patience) → RdS [.int .i64] σ (ws g.toNat).A (ws g.toNat).n (gd G g).wants → K b o) : ix l.A l.n g 5 K := by
  obtain ⟨k, rfl⟩ := Int.eq_ofNat_of_zero_le g0
  have hk : k < G.length := by omega
  have e : gd G (k : Int) = G[k] := by unfold gd; simp [List.getD, hk]
  rw [e] at hK
  exact h.group hk fun b o c0 c1 _ c3 c4 => hK b o c0 c1 c3 c4 (h.w k hk)
theorem EvR.rix {σ : Hp} {r l : SL} {B : List BthG} {ws : Nat → SL} {G : List Grp} (h : EvR σ r B l ws G) {g : Int} (g0 : 0 ≤ g) (g1 : g < B.length) {K : Nat → Nat → Prop}
    (hK : ∀ b o, σ.cell? ⟨b, o, none⟩ = some (.int .i64 (bd B g).seats) → σ.cell? ⟨b, o + 1, none⟩ = some (.int .i64 (bd B g).price) → σ.cell? ⟨b, o + 2, none⟩ = some (.int .i64 (bd B g).cycle) → σ.cell? ⟨b, o + 3, none⟩ = some (.int .i64 (bd B g).pause) → σ.cell? ⟨b, o + 4, none⟩ = some (.bool (bd B g).fill) → K b o) : ix r.A r.n g 5 K := by
  obtain ⟨k, rfl⟩ := Int.eq_ofNat_of_zero_le g0
  have hk : k < B.length := by omega
  have e : bd B (k : Int) = B[k] := by unfold bd; simp [List.getD, hk]
  rw [e] at hK
  exact h.ride hk hK
theorem filter_take_succI {p : Int → Bool} {xs : List Int} {k : Nat} (h : k < xs.length) : (xs.take (k + 1)).filter p = (xs.take k).filter p ++ (if p xs[k] = true then [xs[k]] else []) := by
  rw [List.take_succ_eq_append_getElem h, List.filter_append]
  congr 1
  simp only [List.filter_cons, List.filter_nil]

section
variable {W : PW} {σ0 σ : Hp} {S : Pl} {ws : Nat → SL} {c : Nat} {g : Int} {b o : Nat} {x : Gs}
theorem PlayR.gix (h : PlayR W σ0 σ S) {K : Nat → Nat → Prop} (g0 : 0 ≤ g) (g1 : g.toNat < S.guests.length) (hk : ∀ b o, W.gu.A = some ⟨b, o, none⟩ → K b (o + g.toNat * 4)) : ix W.gu.A W.gu.n g 4 K := by
  obtain ⟨⟨b, o, hA⟩, hn⟩ := h.gA g1
  exact ix_at hA g0 (by rw [hn]; omega) (hk b o hA)
theorem PlayR.gI0 (h : PlayR W σ0 σ S) {K : Int → Prop} (hA : W.gu.A = some ⟨b, o, none⟩) (hg : g.toNat < S.guests.length) (e : S.gu g = x) (hk : K x.st) : ldI σ .i64 b (o + g.toNat * 4) K := by
  subst e
  exact ldI_of (h.gcell hA hg (j := 0) (by omega)) hk
theorem PlayR.gI1 (h : PlayR W σ0 σ S) {K : Int → Prop} (hA : W.gu.A = some ⟨b, o, none⟩) (hg : g.toNat < S.guests.length) (e : S.gu g = x) (hk : K x.want) : ldI σ .i64 b (o + g.toNat * 4 + 1) K := by
  subst e
  exact ldI_of (h.gcell hA hg (j := 1) (by omega)) hk
theorem PlayR.gI2 (h : PlayR W σ0 σ S) {K : Int → Prop} (hA : W.gu.A = some ⟨b, o, none⟩) (hg : g.toNat < S.guests.length) (e : S.gu g = x) (hk : K x.since) : ldI σ .i64 b (o + g.toNat * 4 + 2) K := by
  subst e
  exact ldI_of (h.gcell hA hg (j := 2) (by omega)) hk
theorem PlayR.gI3 (h : PlayR W σ0 σ S) {K : Int → Prop} (hA : W.gu.A = some ⟨b, o, none⟩) (hg : g.toNat < S.guests.length) (e : S.gu g = x) (hk : K x.tokens) : ldI σ .i64 b (o + g.toNat * 4 + 3) K := by
  subst e
  exact ldI_of (h.gcell hA hg (j := 3) (by omega)) hk
theorem PlayR.gS0 (h : PlayR W σ0 σ S) {n : Int} {K : Hp → Prop} (hA : W.gu.A = some ⟨b, o, none⟩) (hg : g.toNat < S.guests.length) (e : S.gu g = x) (hk : ∀ τ, PlayR W σ0 τ (S.setG g { x with st := n }) → K τ) : st σ b (o + g.toNat * 4) (.int .i64 n) K := by
  subst e
  obtain ⟨w1, h1⟩ := h.gst (j := 0) (v := .int .i64 n) (x' := { S.gu g with st := n }) hA hg rfl
  exact ⟨w1, hk _ h1⟩
theorem PlayR.gS1 (h : PlayR W σ0 σ S) {n : Int} {K : Hp → Prop} (hA : W.gu.A = some ⟨b, o, none⟩) (hg : g.toNat < S.guests.length) (e : S.gu g = x) (hk : ∀ τ, PlayR W σ0 τ (S.setG g { x with want := n }) → K τ) : st σ b (o + g.toNat * 4 + 1) (.int .i64 n) K := by
  subst e
  obtain ⟨w1, h1⟩ := h.gst (j := 1) (v := .int .i64 n) (x' := { S.gu g with want := n }) hA hg rfl
  exact ⟨w1, hk _ h1⟩
theorem PlayR.gS2 (h : PlayR W σ0 σ S) {n : Int} {K : Hp → Prop} (hA : W.gu.A = some ⟨b, o, none⟩) (hg : g.toNat < S.guests.length) (e : S.gu g = x) (hk : ∀ τ, PlayR W σ0 τ (S.setG g { x with since := n }) → K τ) : st σ b (o + g.toNat * 4 + 2) (.int .i64 n) K := by
  subst e
  obtain ⟨w1, h1⟩ := h.gst (j := 2) (v := .int .i64 n) (x' := { S.gu g with since := n }) hA hg rfl
  exact ⟨w1, hk _ h1⟩
theorem PlayR.gS3 (h : PlayR W σ0 σ S) {n : Int} {K : Hp → Prop} (hA : W.gu.A = some ⟨b, o, none⟩) (hg : g.toNat < S.guests.length) (e : S.gu g = x) (hk : ∀ τ, PlayR W σ0 τ (S.setG g { x with tokens := n }) → K τ) : st σ b (o + g.toNat * 4 + 3) (.int .i64 n) K := by
  subst e
  obtain ⟨w1, h1⟩ := h.gst (j := 3) (v := .int .i64 n) (x' := { S.gu g with tokens := n }) hA hg rfl
  exact ⟨w1, hk _ h1⟩
theorem Pl.gu_same (hg : g.toNat < S.guests.length) : (S.setG g x).gu g = x := by rw [Pl.gu_setG hg, if_pos rfl]
theorem Pl.setG_len : (S.setG g x).guests.length = S.guests.length := by show (S.guests.set _ _).length = _; rw [List.length_set]

set_option maxRecDepth 20000 in
theorem c_stand (hS : PSt W σ0 S ws) (h : PlayR W σ0 σ S) (ok : S.Ok c) (g0 : 0 ≤ g) (g1 : g < S.G.length) (hw0 : 0 ≤ (S.gu g).want) (hw1 : (S.gu g).want < (S.gr g).wants.length) :
    FCalls Try.prog N_ref07_play_stand #[.pointer (some ⟨W.pb, 0, none⟩), .int .i64 g] σ fun v σ' => v = .tuple #[] ∧ PlayR W σ0 σ' (S.stand g) := by
  refine M_ref07_play_stand_ok _ _ _ _ ?_
  unfold M_ref07_play_stand
  obtain ⟨q0, q1⟩ := ok.want hw0 hw1
  have hgl : g.toNat < S.guests.length := by rw [ok.lg]; omega
  have hrl : (gt (S.gr g).wants (S.gu g).want).toNat < S.queues.length := by rw [ok.lq]; omega
  have hql := ok.qlen q0 q1
  obtain ⟨v, hb⟩ := h.pblk
  have hS1 := hS.sub h.sub
  refine dr_i (bldS hb rfl (h.gix g0 hgl fun b o hA => dr_i (bldS hb rfl (hS1.e.gix g0 g1 fun b9 a10 _ _ c3 _ hwt => ldS_of c3 (h.gI1 hA hgl rfl (gixg hwt hw0 hw1 (h.gS0 hA hgl rfl fun τ1 h1 => ?_)))))))
  obtain ⟨v1, hb1⟩ := h1.pblk
  refine dr_i (bldI hb1 rfl (h1.gS2 hA (by rw [Pl.setG_len]; exact hgl) (Pl.gu_same hgl) fun τ2 h2 => ?_))
  rw [Pl.setG_setG] at h2
  obtain ⟨v2, hb2⟩ := h2.pblk
  obtain ⟨b, off, s, σ3, hqA, hqn, hcell, ho, ⟨v3, hb3⟩, hk⟩ := h2.que (r := gt (S.gr g).wants (S.gu g).want) hrl
  have hqi : gt (S.gr g).wants (S.gu g).want < (W.q.n : Int) := by
    rw [hqn]
    show _ < (S.queues.length : Int)
    omega
  change OwnSl 3 [.int .i64] σ3 s.A s.n s.c (S.qu (gt (S.gr g).wants (S.gu g).want)) τ2 at ho
  refine dr_i (dr_i (bldS hb2 rfl (ix_at hqA q0 hqi (ldS_of hcell ⟨bldS hb2 rfl (adp_own ho (roomy_i ?_ (ix_at hqA q0 hqi fun A n c' σ5 ho5 => ?_))), bldS hb2 rfl (adp_own ho (roomy_i ?_ (ix_at hqA q0 hqi fun A n c' σ5 ho5 => ?_))), adp_own ho (roomy_i ?_ (bldS hb3 rfl (ix_at hqA q0 hqi fun A n c' σ5 ho5 => ?_)))⟩))))
  · show (S.qu _).length + 1 ≤ _; omega
  · obtain ⟨w1, h3⟩ := hk _ ⟨A, n, c'⟩ σ5 ho5
    exact ⟨w1, rt_of ⟨rfl, h3⟩⟩
  · show (S.qu _).length + 1 ≤ _; omega
  · obtain ⟨w1, h3⟩ := hk _ ⟨A, n, c'⟩ σ5 ho5
    exact ⟨w1, rt_of ⟨rfl, h3⟩⟩
  · show (S.qu _).length + 1 ≤ _; omega
  · obtain ⟨w1, h3⟩ := hk _ ⟨A, n, c'⟩ σ5 ho5
    exact ⟨w1, rt_of ⟨rfl, h3⟩⟩

set_option maxRecDepth 20000 in
theorem c_on (hS : PSt W σ0 S ws) (h : PlayR W σ0 σ S) (ok : S.Ok c) (g0 : 0 ≤ g) (g1 : g < S.G.length) (hf : S.free g) (hw1 : (S.gu g).want < (S.gr g).wants.length) :
    FCalls Try.prog N_ref07_play_on #[.pointer (some ⟨W.pb, 0, none⟩), .int .i64 g] σ fun v σ' => v = .tuple #[] ∧ PlayR W σ0 σ' (S.on g) := by
  refine M_ref07_play_on_ok _ _ _ _ ?_
  unfold M_ref07_play_on
  have hgl : g.toNat < S.guests.length := by rw [ok.lg]; omega
  have hgl2 : ∀ x, g.toNat < (S.setG g x).guests.length := fun x => by rw [Pl.setG_len]; exact hgl
  have hg := ok.gs g g0 g1
  have hw0 := hg.w0
  have hwl : (S.gr g).wants.length ≤ 10 := (ok.v.gr g0 g1).2.2.2.1
  obtain ⟨v, hb⟩ := h.pblk
  refine dr_i (bldS hb rfl (h.gix g0 hgl fun b o hA => h.gI1 hA hgl rfl (wk_i (by omega) (h.gS1 hA hgl rfl fun τ1 h1 => ?_))))
  obtain ⟨v1, hb1⟩ := h1.pblk
  refine dr_i (bldI hb1 rfl (h1.gS2 hA (hgl2 _) (Pl.gu_same hgl) fun τ2 h2 => ?_))
  rw [Pl.setG_setG] at h2
  obtain ⟨v2, hb2⟩ := h2.pblk
  have hS2 := hS.sub h2.sub
  refine h2.gI1 hA (hgl2 _) (Pl.gu_same hgl) (dr_i (bldS hb2 rfl (hS2.e.gix g0 g1 fun b9 a10 _ _ c3 _ hwt => ldS_of c3 ?_)))
  have hwn : (ws g.toNat).n = (S.gr g).wants.length := hwt.lenI
  refine bc_d (fun hle => ?_) (fun hle => ?_)
  · rw [hwn] at hle
    have hle : ((S.gr g).wants.length : Int) ≤ (S.gu g).want + 1 := hle
    refine h2.gS0 hA (hgl2 _) (Pl.gu_same hgl) fun τ3 h3 => ?_
    rw [Pl.setG_setG] at h3
    obtain ⟨v3, hb3⟩ := h3.pblk
    refine dr_i (bldS hb3 rfl (dr_i (bldI hb3 rfl (h3.stHo g0 (by show g < (S.homes.length : Int); rw [ok.lh]; exact g1) fun τ4 h4 => rt_of ⟨rfl, ?_⟩))))
    rw [Pl.on, if_pos hle]
    exact h4
  · rw [hwn] at hle
    have hle : ¬ ((S.gr g).wants.length : Int) ≤ (S.gu g).want + 1 := hle
    refine h2.gS0 hA (hgl2 _) (Pl.gu_same hgl) fun τ3 h3 => ?_
    rw [Pl.setG_setG] at h3
    obtain ⟨v3, hb3⟩ := h3.pblk
    refine dr_i (bldI hb3 rfl (bc_d (fun e0 => ?_) (fun e0 => ?_)))
    · have e0 : S.walk = 0 := e0
      refine cl_of M_ref07_play_stand_enter (c_stand (S := S.setG g { S.gu g with want := (S.gu g).want + 1, since := S.now, st := 1 }) (hS.sm ⟨rfl, rfl, rfl, rfl⟩) h3 (ok.on1 g0 g1 hf hw1 hle) g0 g1 ?_ ?_) ?_
      · rw [Pl.gu_same hgl]; show 0 ≤ (S.gu g).want + 1; omega
      · rw [Pl.gu_same hgl]; show (S.gu g).want + 1 < ((S.gr g).wants.length : Int); omega
      rintro _ σ' ⟨rfl, h4⟩
      refine rt_of ⟨rfl, ?_⟩
      rw [Pl.on, if_neg hle, if_pos e0]
      exact h4
    · have e0 : ¬ S.walk = 0 := e0
      refine rt_of ⟨rfl, ?_⟩
      rw [Pl.on, if_neg hle, if_neg e0]
      exact h3

set_option maxRecDepth 20000 in
theorem c_leaveR (hS : PSt W σ0 S ws) (h : PlayR W σ0 σ S) (ok : S.Ok c) (hc : c ≤ 3000000) (g0 : 0 ≤ g) (g1 : g < S.G.length) (hs : (S.gu g).st = 2) {on : Bool} (hp : on = true → S.price g ≤ (S.gu g).tokens) :
    FCalls Try.prog N_ref07_play_leave #[.pointer (some ⟨W.pb, 0, none⟩), .int .i64 g, .bool on] σ fun v σ' => v = .tuple #[] ∧ PlayR W σ0 σ' (S.leave g on) := by
  refine M_ref07_play_leave_ok _ _ _ _ _ ?_
  unfold M_ref07_play_leave
  have hgl : g.toNat < S.guests.length := by rw [ok.lg]; omega
  have hg := ok.gs g g0 g1
  have hw0 := hg.w3 (by omega)
  have hw1 := hg.w2 (by omega)
  obtain ⟨q0, q1⟩ := ok.want hw0 hw1
  obtain ⟨u1, u2⟩ := ok.unq g0 g1 hs on
  obtain ⟨p0, p1⟩ := ok.price g0 g1 q0 q1
  have ht := ok.tk _ q0 q1
  have hrl : (gt (S.gr g).wants (S.gu g).want).toNat < S.queues.length := by rw [ok.lq]; omega
  have hql := ok.qlen q0 q1
  have hvl := ok.vl
  obtain ⟨v, hb⟩ := h.pblk
  have hS1 := hS.sub h.sub
  refine dr_i (bldS hb rfl (h.gix g0 hgl fun b o hA => dr_i (bldS hb rfl (hS1.e.gix g0 g1 fun b9 a10 _ _ c3 _ hwt => ldS_of c3 (h.gI1 hA hgl rfl (gixg hwt hw0 hw1 ?_))))))
  change cut _ _
  generalize hr : gt (gd S.G g).wants (S.gu g).want = r
  have hr' : gt (S.gr g).wants (S.gu g).want = r := hr
  rw [hr'] at q0 q1 hrl hql ht p0 p1
  refine cut_intro fun J18 h18 => ?_
  have k18 : ∀ (A : Option Addr) (l cc : Nat) (σa τ : Hp), PlayR W σ0 σa S → OwnSl 3 [.int .i64] σa A l cc ((S.qu r).filter fun k : Int => decide (k ≠ g)) τ → J18 A l cc τ := by
    intro A l cc σa τ ha hl
    rw [h18]
    intro _
    obtain ⟨b2, off, s, σ3, hqA, hqn, hcell, ho, _, hk⟩ := ha.que hrl
    have hqi : r < (W.q.n : Int) := by rw [hqn]; omega
    obtain ⟨σ3', s1, s2⟩ := OwnSl.swap ho hl
    obtain ⟨w1, h3⟩ := hk _ ⟨A, l, cc⟩ σ3' s1
    obtain ⟨v1, hb1⟩ := (ha.up hl.sub).pblk
    have hsub := s2.sub
    obtain ⟨cw, ew, hbw, _, _⟩ := id w1
    have h3 := h3.up (sub_put hsub hbw _)
    refine dr_i (bldS hb1 rfl (ix_at hqA q0 hqi ⟨wr_sub w1 hsub, ?_⟩))
    obtain ⟨v2, σ4, hb2, ho2, hk2⟩ := h3.vis
    change OwnSl 42 sV σ4 v2.A v2.n v2.c S.visits _ at ho2
    refine dr_i (bldS hb2 rfl (h3.gI1 hA hgl rfl (h3.gI2 hA hgl rfl (dr_i (bldI hb2 rfl (adp_own ho2 (roomy_i ?_ (dr_i fun A38 l38 c38 σ39 ho39 => ?_))))))))
    · show S.visits.length + 1 ≤ _; omega
    obtain ⟨w4, h4⟩ := hk2 _ ⟨A38, l38, c38⟩ σ39 ho39
    refine ⟨w4, ?_⟩
    have e4 : ({ S.setQ r ((S.qu r).filter fun k : Int => decide (k ≠ g)) with visits := S.visits ++ [(g, (S.gu g).want, r, on, (S.gu g).since, S.now)] } : Pl) = S.unq g on := by
      unfold Pl.unq
      rw [hr']
      rfl
    have h4 : PlayR W σ0 _ (S.unq g on) := e4 ▸ h4
    have hgl4 : g.toNat < (S.unq g on).guests.length := hgl
    have hgl5 : ∀ x, g.toNat < ((S.unq g on).setG g x).guests.length := fun x => by rw [Pl.setG_len]; exact hgl
    refine bc_b (fun eo => ?_) (fun eo => ?_)
    · have eo : on = false := by simpa using eo
      subst eo
      refine cl_of M_ref07_play_on_enter (c_on (S := S.unq g false) (hS.sm (Pl.Sm.unq S g false)) h4 u1 g0 g1 u2 hw1) ?_
      rintro _ σ' ⟨rfl, h5⟩
      refine rt_of ⟨rfl, ?_⟩
      rw [Pl.leave, if_neg (by simp)]
      exact h5
    · have eo : on = true := by simpa using eo
      subst eo
      have hp := hp rfl
      have hpe : S.price g = (bd S.B r).price * (gd S.G g).size := by unfold Pl.price; rw [hr']; rfl
      have hp0 : 0 ≤ (bd S.B r).price * (gd S.G g).size := p0
      have hp1 : (bd S.B r).price * (gd S.G g).size ≤ 4000 := p1
      have htk := hg.t
      refine h4.gS0 hA hgl4 rfl fun τ5 h5 => ?_
      obtain ⟨v5, hb5⟩ := h5.pblk
      refine dr_i (bldI hb5 rfl (h5.gS2 hA (hgl5 _) (Pl.gu_same hgl4) fun τ6 h6 => ?_))
      rw [Pl.setG_setG] at h6
      obtain ⟨v6, hb6⟩ := h6.pblk
      have hS6 := hS.sub h6.sub
      refine h6.gI3 hA (hgl5 _) (Pl.gu_same hgl4) (dr_i (bldS hb6 rfl (hS6.e.rix q0 q1 fun b52 a53 _ d1 _ _ _ => ldI_of d1 (dr_i (bldS hb6 rfl (hS6.e.gix g0 g1 fun b58 a59 _ d2 _ _ _ => ldI_of d2 (wk_i (by omega) (wk_i ?_ (h6.gS3 hA (hgl5 _) (Pl.gu_same hgl4) fun τ7 h7 => ?_)))))))))
      · show _ ≤ (S.gu g).tokens - _ ∧ (S.gu g).tokens - _ ≤ _
        omega
      rw [Pl.setG_setG] at h7
      obtain ⟨v7, hb7⟩ := h7.pblk
      have hS7 := hS.sub h7.sub
      have htl : r < (S.takes.length : Int) := by rw [ok.lt]; exact q1
      refine dr_i (bldS hb7 rfl (gixg h7.ird.2.2.1 q0 htl (dr_i (bldS hb7 rfl (hS7.e.rix q0 q1 fun b73 a74 _ d1 _ _ _ => ldI_of d1 (dr_i (bldS hb7 rfl (hS7.e.gix g0 g1 fun b79 a80 _ d2 _ _ _ => ldI_of d2 (wk_i (by omega) (wk_i ?_ (h7.stTa q0 htl fun τ8 h8 => rt_of ⟨rfl, ?_⟩)))))))))))
      · show _ ≤ gt S.takes r + _ ∧ gt S.takes r + _ ≤ _
        omega
      · rw [Pl.leave, if_pos rfl, hr', hpe]
        exact h8
  refine ⟨fun n A l cc i τ => ∃ (k : Nat) (σa : Hp), n = (S.qu r).length - k ∧ i = k ∧ k ≤ (S.qu r).length ∧ PlayR W σ0 σa S ∧ OwnSl 3 [.int .i64] σa A l cc (((S.qu r).take k).filter fun k : Int => decide (k ≠ g)) τ, ⟨_, 0, σ, rfl, rfl, by omega, h, OwnSl.nil ..⟩, ?_⟩
  rintro n A l cc i τ ⟨k, σa, rfl, rfl, hk, ha, hl⟩ _
  have hτ := ha.up hl.sub
  obtain ⟨v1, hb1⟩ := hτ.pblk
  obtain ⟨b2, off, s, σ3, hqA, hqn, hcell, ho, _, _⟩ := hτ.que hrl
  have hqi : r < (W.q.n : Int) := by rw [hqn]; omega
  have hsn : s.n = (S.qu r).length := ho.len
  refine dr_i (bldS hb1 rfl (ix_at hqA q0 hqi (ldS_of hcell ?_)))
  refine bc_d (fun hlt => ?_) (fun hlt => ?_)
  · have hkl : k < (S.qu r).length := by omega
    have hfs := filter_take_succI (p := fun x => decide (x ≠ g)) hkl
    refine cut_intro fun J101 h101 => ?_
    have k101 : ∀ (A : Option Addr) (l cc : Nat) (τ' : Hp), OwnSl 3 [.int .i64] σa A l cc (((S.qu r).take (k + 1)).filter fun k : Int => decide (k ≠ g)) τ' → J101 A l cc τ' := by
      intro A l cc τ' hl'
      rw [h101]
      intro _
      exact wk_i (by omega) (bk_of _ (by omega) ⟨k + 1, σa, rfl, by omega, by omega, ha, hl'⟩)
    have hgk : gt (S.qu r) k = (S.qu r)[k] := gt_nat hkl
    refine dr_i (bldS hb1 rfl (ix_at hqA q0 hqi (ldS_of hcell (gixg ho.rd (by omega) (by omega) ?_))))
    rw [hgk]
    refine bc_b (fun e => ?_) (fun e => ?_)
    · have e : (S.qu r)[k] ≠ g := by simpa using e
      rw [if_pos (by simpa using e)] at hfs
      refine dr_i (bldS hb1 rfl (ix_at hqA q0 hqi (ldS_of hcell (gixg ho.rd (by omega) (by omega) (adp_own hl (roomy_i ?_ fun A n c' τ' hl' => k101 _ _ _ _ ?_))))))
      · have : (((S.qu r).take k).filter fun k : Int => decide (k ≠ g)).length ≤ (S.qu r).length := Nat.le_trans (List.length_filter_le ..) (by rw [List.length_take]; omega)
        show (List.filter _ _).length + 1 ≤ _
        omega
      · rw [hgk] at hl'
        exact (congrArg (fun z : List Int => OwnSl 3 [.int .i64] σa A n c' z τ') hfs).mpr hl'
    · have e : ¬ (S.qu r)[k] ≠ g := by simpa using e
      rw [if_neg (by simpa using e), List.append_nil] at hfs
      exact k101 _ _ _ _ ((congrArg (fun z : List Int => OwnSl 3 [.int .i64] σa A l cc z τ) hfs).mpr hl)
  · have : k = (S.qu r).length := by omega
    subst this
    rw [List.take_length] at hl
    exact k18 _ _ _ _ _ ha hl
end
end Go.Proofs.Ytgcefaikdplbkaa
