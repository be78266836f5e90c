/- Contracts of layer 7, program: leave. -/
import Derived.Test.YtgcefaikdplbkaaQa4
namespace Go.Proofs.Ytgcefaikdplbkaa
open Go.RowKit

def Ngt.quits (N : Ngt) (s : Int × Int) : Bool := decide ((N.pa s.1).g.patience < N.tick - s.2)
def qsort (xs : List (Int × Int)) : List (Int × Int) := sortB (fun a b => decide (a.1 ≤ b.1)) xs
def Ngt.stay1 (N : Ngt) (r : Bth) : Bth := { r with queue := r.queue.filter fun s => !N.quits s }
def Ngt.leaveK (N : Ngt) (k : Nat) : Ngt := { N with rides := (N.rides.take k).map N.stay1 ++ N.rides.drop k }
def Ngt.goneK (N : Ngt) (k : Nat) : List (Int × Int) := (N.rides.take k).flatMap fun r => r.queue.filter N.quits
def Ngt.gone (N : Ngt) : List (Int × Int) := qsort (N.goneK N.rides.length)
def Ngt.quit (N : Ngt) (s : Int × Int) : Ngt := (N.done s false).next s.1
def Ngt.leave (N : Ngt) : Ngt := N.gone.foldl Ngt.quit (N.leaveK N.rides.length)
theorem Ngt.leaveK_zero (N : Ngt) : N.leaveK 0 = N := by simp [Ngt.leaveK]
theorem Ngt.leaveK_len (N : Ngt) (k : Nat) : (N.leaveK k).rides.length = N.rides.length := by simp [Ngt.leaveK]; omega
theorem Ngt.leaveK_bo (N : Ngt) (k : Nat) : (N.leaveK k).bo k = N.bo k := by
  by_cases h : k < N.rides.length
  · simp [Ngt.leaveK, Ngt.bo, List.getD, List.getElem?_append, h, Nat.le_of_lt h]
  · have h' : N.rides.length ≤ k := by omega
    simp [Ngt.leaveK, Ngt.bo, List.getD, List.getElem?_append, h']
theorem Ngt.leaveK_succ (N : Ngt) {k : Nat} (h : k < N.rides.length) : N.leaveK (k + 1) = (N.leaveK k).setR k (N.stay1 (N.bo k)) := by
  unfold Ngt.leaveK Ngt.setR
  congr 1
  simp only [Int.toNat_natCast]
  have e : (N.bo k) = N.rides[k] := by simp [Ngt.bo, List.getD, h]
  rw [e, List.take_succ_eq_append_getElem h, List.map_append, List.append_assoc, List.set_append_right _ _ (by simp; omega)]
  congr 1
  have : k - (List.map N.stay1 (List.take k N.rides)).length = 0 := by simp; omega
  rw [this, List.drop_eq_getElem_cons h]
  rfl
theorem Ngt.goneK_succ (N : Ngt) {k : Nat} (h : k < N.rides.length) : N.goneK (k + 1) = N.goneK k ++ (N.bo k).queue.filter N.quits := by
  have e : (N.bo k) = N.rides[k] := by simp [Ngt.bo, List.getD, h]
  rw [e]
  unfold Ngt.goneK
  rw [List.take_succ_eq_append_getElem h, List.flatMap_append]
  simp
theorem Ngt.goneK_len (N : Ngt) (ho : ∀ i, (N.bo i).queue.length ≤ 1000000) : ∀ k : Nat, k ≤ N.rides.length → (N.goneK k).length ≤ k * 1000000
  | 0, _ => by simp [Ngt.goneK]
  | k + 1, h => by
    have := N.goneK_len ho k (by omega)
    rw [N.goneK_succ (by omega), List.length_append]
    have h2 : ((N.bo k).queue.filter N.quits).length ≤ 1000000 := Nat.le_trans (List.length_filter_le ..) (ho k)
    omega
theorem Ngt.goneK_mem {N : Ngt} {k : Nat} {s : Int × Int} (h : s ∈ N.goneK k) : ∃ i, s ∈ (N.bo i).queue := by
  obtain ⟨r, hr, hs⟩ := List.mem_flatMap.1 h
  obtain ⟨i, hi, rfl⟩ := List.getElem_of_mem (List.mem_of_mem_take hr)
  refine ⟨i, ?_⟩
  have : N.bo i = N.rides[i] := by simp [Ngt.bo, List.getD, hi]
  rw [this]
  exact (List.mem_filter.1 hs).1

def SortQ : Prop := ∀ (σ0 σ : Hp) (A : Option Addr) (n c : Nat) (xs : List (Int × Int)), OwnSl 90 sQ σ0 A n c xs σ → xs.length ≤ 4294967296 → (∀ x ∈ xs, 0 ≤ x.1 ∧ x.1 ≤ 1000000) → (xs.map Prod.fst).Nodup →
  FCalls Try.prog N_slices_SortFunc_queue_stand #[.slice A n c, .func (.func N_queue_night_leave_2) #[] #[]] σ fun v σ' => v = .tuple #[] ∧ OwnSl 90 sQ σ0 A n c (qsort xs) σ'

/-- what of an evening does not change while queues do -/
structure RdN (W : NW) (σ : Hp) (N : Ngt) : Prop where
  n : ∃ v : SL, σ W.nb = some (.cells (nightC W N v) 80 (0, 0), true)
  p : ∀ g : Int, g.toNat < N.parties.length → σ (W.pb g) = some (.cells (partyC (W.ws g.toNat) (N.pa g)) 60 (0, 0), true)
theorem RdN.sub {W : NW} {σ σ' : Hp} {N : Ngt} (h : RdN W σ N) (hs : Hp.Sub σ σ') : RdN W σ' N := ⟨let ⟨v, h⟩ := h.n; ⟨v, hs _ _ h⟩, fun g hg => hs _ _ (h.p g hg)⟩
theorem RdN.congr {W : NW} {σ : Hp} {N N' : Ngt} (h : RdN W σ N) (h1 : N'.walk = N.walk) (h2 : N'.tick = N.tick) (h3 : N'.parties = N.parties) : RdN W σ N' := by
  refine ⟨?_, fun g hg => ?_⟩
  · obtain ⟨v, h⟩ := h.n
    exact ⟨v, by unfold nightC at h ⊢; rw [h1, h2]; exact h⟩
  · have := h.p g (by rw [← h3]; exact hg)
    unfold Ngt.pa at this ⊢
    rw [h3]
    exact this

section
variable {W : NW} {σ0 σ : Hp} {N : Ngt} {nr : Nat} {G : List Grp}
/-- .. with what is known where the queue is out -/
theorem NightR.queR (h : NightR W σ0 σ N) {i : Int} (hi : i.toNat < N.rides.length) : ∃ (o q : SL) (σ1 : Hp), σ (W.rb i) = some (.cells (boothC (N.bo i) o q) 73 (0, 0), true) ∧ OwnSl 90 sQ σ1 q.A q.n q.c (N.bo i).queue σ ∧ RdN W σ1 N ∧ Hp.Sub σ0 σ1 ∧
    ∀ (qs : List (Int × Int)) (s : SL) (σ2 : Hp), OwnSl 90 sQ σ1 s.A s.n s.c qs σ2 → σ2.wr ⟨W.rb i, 8, none⟩ ∧ NightR W σ0 (σ2.put ⟨W.rb i, 8, none⟩ s.v) (N.setR i { N.bo i with queue := qs }) := by
  obtain ⟨o, q, σ1, h1, h2, h3⟩ := h.que hi
  obtain ⟨⟨cw, ew, hw, _⟩, h'⟩ := h3 [] ⟨none, 0, 0⟩ σ1 (OwnSl.nil ..)
  have hi' : i.toNat < (N.setR i { N.bo i with queue := [] }).rides.length := by show _ < (List.set _ _ _).length; rw [List.length_set]; exact hi
  obtain ⟨o', q', hb', _⟩ := h'.rblk hi'
  have ne : ∀ {b : Nat} {c : Array Value} {e : TypeId}, Hp.put σ1 ⟨W.rb i, 8, none⟩ (SL.v ⟨none, 0, 0⟩) b = some (.cells c e (0, 0), true) → e ≠ 73 → σ1 b = some (.cells c e (0, 0), true) := by
    intro b c e hb he
    have hne : b ≠ W.rb i := fun e' => by
      rw [e', hb'] at hb
      injection hb with hb
      injection hb with hb _
      injection hb with _ hb _
      exact he hb.symm
    rwa [Hp.put_ne (show b ≠ (⟨W.rb i, 8, none⟩ : Addr).block from hne)] at hb
  refine ⟨o, q, σ1, h1, h2, ⟨?_, fun g hg => ?_⟩, ?_, h3⟩
  · obtain ⟨v, hv, _⟩ := h'.nblk
    exact ⟨v, ne hv (by decide)⟩
  · exact ne (h'.pblk (g := g) hg) (by decide)
  · intro b x hb
    have h4 := h'.sub _ _ hb
    by_cases e : b = W.rb i
    · exfalso
      subst e
      obtain ⟨σ3, r1, _⟩ := h.booth hi
      obtain ⟨o2, q2, σ5, ⟨σ4, hk1, hk2⟩, hk3⟩ := r1
      obtain ⟨σ6, r2, _⟩ := star_at (k := i.toNat + 1) pieces_port (by simp [pieces, boothsL]; omega) h
      obtain ⟨σ7, r3, r4⟩ := h
      obtain ⟨σ8, r5, r6⟩ := star_get (k := i.toNat + 1) pieces_port (by simp [pieces, boothsL]; omega) r3
      have e2 : (pieces W N)[i.toNat + 1]'(by simp [pieces, boothsL]; omega) = boothR (W.rb i) (N.bo i) := by
        have hk : i.toNat < (boothsL W N.rides).length := by simpa [boothsL] using hi
        simp only [pieces, List.getElem_cons_succ]
        rw [List.getElem_append_left hk]
        simp [boothsL, NW.rb, Ngt.bo]
      rw [e2] at r6
      obtain ⟨o3, q3, σ9, ⟨σ10, ⟨t1, _⟩, _⟩, _⟩ := r6
      have : Hp.Sub σ0 σ8 := Port.sub (Port.star fun R hR => pieces_port R (List.mem_of_mem_eraseIdx hR)) r5
      have := this _ _ hb
      rw [t1] at this
      cases this
    · rwa [Hp.put_ne (show b ≠ (⟨W.rb i, 8, none⟩ : Addr).block from e)] at h4
/-- a list in a box -/
def goneR (b : Nat) (gs : List (Int × Int)) : Rel := fun σ σ' => ∃ s : SL, ((Blk b (.cells #[s.v] 71 (0, 0))).seq (fun σ1 σ2 => OwnSl 90 sQ σ1 s.A s.n s.c gs σ2)) σ σ'
theorem Port.gone {b : Nat} {gs : List (Int × Int)} : Port (goneR b gs) := Port.ex fun _ => Port.seq Port.blk Port.own
theorem Lse.put {R : Rel} (hR : Port R) {σ1 σ : Hp} (h : Lse R σ1 σ) {b k : Nat} {x : Obj × Bool} (hb : σ1 b = some x) (v : Value) : Lse R (σ1.put ⟨b, k, none⟩ v) (σ.put ⟨b, k, none⟩ v) := by
  obtain ⟨σ2, h1, h2⟩ := h
  exact ⟨_, Port.put hR h1 hb v, sub_put h2 (hR.sub h1 _ _ hb) v⟩

theorem c_leave_1 {σ1 : Hp} {b44 b46 : Nat} {gs : List (Int × Int)} {g came : Int} (hS : NSt W σ1 nr G) (hN : N.stat nr G) (hr : RdN W σ1 N) (hx : Bx1 σ1 (some ⟨b44, 0, none⟩) (.pointer (some ⟨W.nb, 0, none⟩))) (h : Lse (goneR b46 gs) σ1 σ)
    (g0 : 0 ≤ g) (hg : g.toNat < N.parties.length) (hc : -1000000 ≤ came ∧ came ≤ 1000000) (ht : 0 ≤ N.tick ∧ N.tick ≤ 5000) (hl : gs.length ≤ 4000000000) :
    FCalls Try.prog N_queue_night_leave_1 #[.agg #[.int .i64 g, .int .i64 came], .pointer (some ⟨b44, 0, none⟩), .pointer (some ⟨b46, 0, none⟩)] σ fun v σ' => v = .bool (N.quits (g, came)) ∧ Lse (goneR b46 (gs ++ if N.quits (g, came) = true then [(g, came)] else [])) σ1 σ' := by
  refine M_queue_night_leave_1_ok _ _ _ _ _ _ ?_
  unfold M_queue_night_leave_1
  have hs := h.sub Port.gone
  have hS1 := hS.sub hs
  obtain ⟨v, hnb⟩ := (hr.sub hs).n
  have hpb := (hr.sub hs).p g hg
  refine (hx.sub hs).ldP (dr_i (bldI hnb rfl (wk_i (by omega) ((hx.sub hs).ldP (dr_i (bldS hnb rfl (hS1.pix hN g0 hg (dr_i (bldI hpb rfl (cut_intro fun J22 h22 => ?_))))))))))
  have eq : N.quits (g, came) = decide ((N.pa g).g.patience < N.tick - came) := rfl
  refine bc_d (fun hq => ?_) (fun hq => ?_)
  · obtain ⟨σ1', ⟨s, σ2, hb1, hb2⟩, hs2⟩ := h.exact Port.gone
    refine dr_i (bldS (hb2.sub _ _ hb1.get) rfl (adp_own hb2 (roomy_i (by show gs.length + 1 ≤ _; omega) ?_)))
    intro A28 l28 c28 σ29 o29
    obtain ⟨w1, w2, _⟩ := hb1.st o29.sub (k := 0) (show 0 < 1 by omega) (.slice A28 l28 c28)
    refine dr_i ⟨w1, ?_⟩
    rw [h22]
    intro _
    rw [decide_eq_true hq] at eq ⊢
    refine rt_of ⟨by rw [eq], Lse.low Port.gone (Lse.of ?_) hs2⟩
    rw [eq, if_pos rfl]
    exact ⟨⟨A28, l28, c28⟩, _, w2, o29.putb hb1.get _⟩
  · rw [h22]
    intro _
    rw [decide_eq_false hq] at eq ⊢
    refine rt_of ⟨by rw [eq], ?_⟩
    rw [eq, if_neg (by simp), List.append_nil]
    exact h

set_option maxRecDepth 20000 in
theorem c_leave (hso : SortQ) (hS : NSt W σ0 nr G) (hN : N.stat nr G) (h : NightR W σ0 σ N) (hr : nr ≤ 1000) (hql : ∀ i, (N.bo i).queue.length ≤ 1000000)
    (hqs : ∀ i, ∀ s ∈ (N.bo i).queue, 0 ≤ s.1 ∧ s.1.toNat < N.parties.length ∧ -1000000 ≤ s.2 ∧ s.2 ≤ 1000000) (hpl : N.parties.length ≤ 1000000) (ht : 0 ≤ N.tick ∧ N.tick ≤ 5000) (hnd : ((N.goneK N.rides.length).map Prod.fst).Nodup)
    (hok : ∀ k, (hk : k < N.gone.length) → ((N.gone.take k).foldl Ngt.quit (N.leaveK N.rides.length)).Dne N.gone[k].1 ∧ (((N.gone.take k).foldl Ngt.quit (N.leaveK N.rides.length)).done N.gone[k] false).Nxt N.gone[k].1) :
    FCalls Try.prog N_queue_night_leave #[.pointer (some ⟨W.nb, 0, none⟩)] σ fun v σ' => v = .tuple #[] ∧ NightR W σ0 σ' N.leave := by
  refine M_queue_night_leave_ok _ _ _ ?_
  unfold M_queue_night_leave
  have hnr : N.rides.length = nr := hN.1
  have hrl : W.r.n = N.rides.length := by rw [hS.r.1, ← hS.lr.trans hnr.symm]; exact List.length_map ..
  have hkN : ∀ k, (N.leaveK k).stat nr G := fun k => ⟨by rw [N.leaveK_len]; exact hnr, hN.2⟩
  refine cut_intro fun J3 h3 => ?_
  have k3 : ∀ b44 b46 σ0' σ1 σ2, Hp.Sub σ0 σ0' → Bx1 σ0' (some ⟨b44, 0, none⟩) (.pointer (some ⟨W.nb, 0, none⟩)) → NightR W σ0' σ1 (N.leaveK N.rides.length) → Lse (goneR b46 (N.goneK N.rides.length)) σ1 σ2 → J3 (some ⟨b44, 0, none⟩) (some ⟨b46, 0, none⟩) σ2 := by
    intro b44 b46 σ0' σ1 σ2 hs0 hx hn hg
    rw [h3]
    intro _
    have hgl := N.goneK_len hql N.rides.length (by omega)
    obtain ⟨σ1', ⟨s, σ3, hb1, hb2⟩, hs2⟩ := hg.exact Port.gone
    have hn' := hn.up hs2
    refine dr_i (bldS (hb2.sub _ _ hb1.get) rfl ?_)
    refine cl_of M_slices_SortFunc_queue_stand_enter (hso _ _ _ _ _ _ hb2 (by omega) (fun x hx => ?_) hnd) ?_
    · obtain ⟨i, hi⟩ := Ngt.goneK_mem hx
      have := hqs i x hi
      omega
    rintro _ σ10 ⟨rfl, hb10⟩
    refine dr_i (bldS (hb10.sub _ _ hb1.get) rfl ?_)
    change OwnSl 90 sQ σ3 s.A s.n s.c N.gone σ10 at hb10
    obtain ⟨σa, ha1, ha2⟩ := Lse.swap pieces_star Port.gone hn' (Lse.of (R := goneR b46 N.gone) ⟨s, σ3, hb1, hb10⟩)
    have hsa := ha1.sub Port.gone
    have hxa := hx.sub hsa
    have hra : RdS sQ σa s.A s.n N.gone := by
      obtain ⟨σb, ⟨s', σc, hc1, hc2⟩, hsb⟩ := ha1
      have e1 := ha2.sub pieces_star _ _ (hsb _ _ (hc2.sub _ _ hc1.get))
      have e2 := hb10.sub _ _ hb1.get
      rw [e1] at e2
      injection e2 with e2
      injection e2 with e2 _
      injection e2 with e2 _ _
      injection e2 with e2
      injection e2 with e2 _
      injection e2 with p1 p2 p3
      have := hc2.RdQ.sub hsb
      rw [p1, p2] at this
      exact this
    have hSa := hS.sub (hs0.trans hsa)
    have hgn : N.gone.length = (N.goneK N.rides.length).length := sortB_length ..
    have hl := hra.lenQ
    have hst : ∀ k, ((N.gone.take k).foldl Ngt.quit (N.leaveK N.rides.length)).stat nr G := fun k => foldl_stat (fun N s h => Ngt.next_stat (Ngt.done_stat h _ _) _) _ _ (hkN _)
    change NightR W σa σ10 (N.leaveK N.rides.length) at ha2
    refine ⟨fun w i τ => ∃ k : Nat, w = N.gone.length - k ∧ i = k ∧ k ≤ N.gone.length ∧ NightR W σa τ ((N.gone.take k).foldl Ngt.quit (N.leaveK N.rides.length)), ⟨_, 0, rfl, rfl, by omega, ha2⟩, ?_⟩
    rintro w i τ ⟨k, rfl, rfl, hk, hτ⟩ _
    refine bc_d (fun hlt => ?_) (fun hlt => ?_)
    · have hkl : k < N.gone.length := by omega
      obtain ⟨ok1, ok2⟩ := hok k hkl
      refine qix (hra.sub hτ.sub) (by omega) (by omega) ?_
      rw [qt_nat hkl]
      refine (hxa.sub hτ.sub).ldP ?_
      refine l_done hSa (hst k) hτ ok1 fun v σ7 h7 => ?_
      refine (hxa.sub h7.sub).ldP ?_
      refine l_next hSa (Ngt.done_stat (hst k) _ _) h7 ok2 fun v σ8 h8 => ?_
      refine wk_i (by omega) (bk_of _ (by omega) ⟨k + 1, rfl, by omega, by omega, ?_⟩)
      rw [take_fold hkl]
      exact h8
    · have : k = N.gone.length := by omega
      subst this
      rw [List.take_length] at hτ
      exact rt_of ⟨rfl, hτ.low (hs0.trans hsa)⟩
  obtain ⟨v, hnb, _⟩ := h.nblk
  refine dr_i (bldS hnb rfl ?_)
  refine ⟨fun w p q i τ => ∃ (k b44 b46 : Nat) (σ0' σ1 : Hp), w = N.rides.length - k ∧ p = some ⟨b44, 0, none⟩ ∧ q = some ⟨b46, 0, none⟩ ∧ i = k ∧ k ≤ N.rides.length ∧ Hp.Sub σ0 σ0' ∧ Bx1 σ0' (some ⟨b44, 0, none⟩) (.pointer (some ⟨W.nb, 0, none⟩)) ∧ NightR W σ0' σ1 (N.leaveK k) ∧ Lse (goneR b46 (N.goneK k)) σ1 τ, ⟨N.rides.length, ?_⟩, ?_⟩
  · intro b44 n44 b46 n46
    obtain ⟨σ0', u1, u2⟩ := Lse.swap pieces_star (Port.blk (b := b44) (o := .cells #[.pointer (some ⟨W.nb, 0, none⟩)] 81 (0, 0))) h (Lse.of ⟨n44, rfl⟩)
    refine ⟨0, b44, b46, σ0', _, rfl, rfl, rfl, rfl, by omega, u1.sub Port.blk, ?_, by rw [N.leaveK_zero]; exact u2, Lse.of ⟨⟨none, 0, 0⟩, _, ⟨n46, rfl⟩, OwnSl.nil ..⟩⟩
    obtain ⟨σb, c1, c2⟩ := u1
    exact ⟨b44, rfl, blk_cell (c2 _ _ c1.get) rfl⟩
  rintro w p q i τ ⟨k, b44, b46, σ0', σ1, rfl, rfl, rfl, rfl, hk, hs0, hx, hn, hg⟩ _
  refine bc_d (fun hlt => ?_) (fun hlt => ?_)
  · have hkl : k < N.rides.length := by omega
    have hki : ((k : Nat) : Int).toNat < (N.leaveK k).rides.length := by rw [N.leaveK_len]; exact hkl
    have hSτ := (hS.sub hs0).sub (hn.sub.trans (hg.sub Port.gone))
    have hgl := N.goneK_len hql k (by omega)
    obtain ⟨o, q, σ1', hrb, ho, hrd, hs1, hkk⟩ := hn.queR hki
    rw [N.leaveK_bo] at hrb ho hkk
    have hrd : RdN W σ1' N := hrd.congr rfl rfl rfl
    have hgs := hg.sub Port.gone
    refine hSτ.rix (hkN k) (by omega) hki (dr_i (bldS (hgs _ _ hrb) rfl ?_))
    obtain ⟨σ5, hg5, ho5⟩ := Lse.own_up Port.gone ho hg
    have hxl := hql k
    have hqk := hqs k
    have hS1' := hS.sub (hs0.trans hs1)
    have hx1 := hx.sub hs1
    refine cl_of M_slices_DeleteFunc_queue_stand_enter (c_DeleteFunc (p := N.quits) (T := fun j σ => Lse (goneR b46 (N.goneK k ++ ((N.bo k).queue.take j).filter N.quits)) σ1' σ) ho5 (by omega) (by simpa using hg5) ?_) ?_
    · intro j hj σ6 h6
      have hmem := hqk _ (List.getElem_mem hj)
      have hfl : (((N.bo k).queue.take j).filter N.quits).length ≤ 1000000 := Nat.le_trans (List.length_filter_le ..) (by rw [List.length_take]; omega)
      refine FFun.func M_queue_night_leave_1_enter ?_
      refine (c_leave_1 (g := ((N.bo k).queue[j]).1) (came := ((N.bo k).queue[j]).2) hS1' hN hrd hx1 h6 hmem.1 hmem.2.1 hmem.2.2 ht (by rw [List.length_append]; omega)).mono ?_
      rintro _ σ7 ⟨rfl, h7⟩
      refine ⟨rfl, ?_⟩
      show Lse (goneR b46 (N.goneK k ++ ((N.bo k).queue.take (j + 1)).filter N.quits)) σ1' σ7
      rw [filter_take_succ hj, ← List.append_assoc]
      exact h7
    · rintro _ σ58 ⟨σa', m, rfl, hT, hfo⟩
      rw [List.take_length, ← N.goneK_succ hkl] at hT
      obtain ⟨σ8, h8, h9⟩ := Lse.own_down Port.gone hT hfo
      obtain ⟨w1, h10⟩ := hkk _ ⟨q.A, m, q.c⟩ σ8 h8
      refine ⟨_, _, _, rfl, dr_i ⟨?_, ?_⟩⟩
      · obtain ⟨c, e, hb, hlt, hsp⟩ := w1
        exact ⟨c, e, h9.sub Port.gone _ _ hb, hlt, hsp⟩
      · obtain ⟨c, e, hb, hlt, hsp⟩ := w1
        refine wk_i (by omega) (bk_of _ (by omega) ⟨k + 1, b44, b46, σ0', _, rfl, rfl, rfl, by omega, by omega, hs0, hx, ?_, Lse.put Port.gone h9 hb _⟩)
        rw [N.leaveK_succ hkl]
        exact h10
  · have : k = N.rides.length := by omega
    subst this
    exact k3 _ _ _ _ _ hs0 hx hn hg
end
end Go.Proofs.Ytgcefaikdplbkaa
