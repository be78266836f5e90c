/- Contracts of layer 7: what is asked of an evening; the look at an example. -/
import Derived.Test.YtgcefaikdplbkaaQc3
namespace Go.Proofs.Ytgcefaikdplbkaa
open Go.RowKit

theorem OwnSl.less {e : TypeId} {ss : List Sh} {σ σ5 σ9 : Hp} {A : Option Addr} {n c : Nat} {xs : List (TyR ss)} (h : OwnSl e ss σ5 A n c xs σ9) (hs : Hp.Sub σ σ5) : ∃ σ', OwnSl e ss σ A n c xs σ' ∧ Hp.Sub σ' σ9 :=
  Port.less (R := fun σ σ' => OwnSl e ss σ A n c xs σ') Port.own h hs

theorem Ngt.last_stat {N : Ngt} {nr : Nat} {G : List Grp} (h : N.stat nr G) : N.last.stat nr G := h
theorem played_stat (w : Int) (B : List BthG) (G : List Grp) : (Ngt.played w B G).stat B.length G := Ngt.last_stat (Ngt.run_stat _)
section
variable {σ : Hp} {w : Int} {r l : SL} {B : List BthG} {ws : Nat → SL} {G : List Grp}
def ofL (c : Int) (xs : List Int) : List Int := if c = 0 then xs else []
theorem ofL_ok {c : Int} {xs : List Int} (h : c = 0) : ofL c xs = xs := if_pos h
theorem ofL_err {c : Int} {xs : List Int} (h : ¬ c = 0) : ofL c xs = [] := if_neg h
/-- numbers of the elements of an evening, or an error -/
def OfI (σ : Hp) (c : Int) (xs : List Int) : Value → Hp → Prop := fun v σ' => ∃ s : SL, v = .tuple #[s.v, .int .i64 c] ∧ OwnSl 3 [.int .i64] σ s.A s.n s.c (ofL c xs) σ'
theorem c_of_party {fe fn : Value} {f : Pty → Int} {N : Ngt} (hr : EvR σ r B l ws G) (hP : Ngt.played w B G = N)
    (hE : ∀ (τ σ1 : Hp) (W : NW) (N : Ngt), NightR W σ1 τ N → cl Try.prog fe #[.pointer (some ⟨W.nb, 0, none⟩)] τ fun v τ' => v = W.p.v ∧ τ' = τ)
    (hN : ∀ (τ σ1 : Hp) (W : NW) (N : Ngt) (g : Int), NightR W σ1 τ N → g.toNat < N.parties.length → cl Try.prog fn #[.pointer (some ⟨W.pb g, 0, none⟩)] τ fun v τ' => v = .int .i64 (f (N.pa g)) ∧ τ' = τ) :
    FCalls Try.prog N_queue_of__queue_party #[.agg #[r.v, .int .i64 w], l.v, fe, fn] σ (OfI σ (chkQ w B G) (N.parties.map f)) := by
  have hst := played_stat w B G
  rw [hP] at hst
  refine M_queue_of__queue_party_ok _ _ _ _ _ _ _ _ _ _ _ ?_
  unfold M_queue_of__queue_party
  refine clI M_queue_Check_enter (c_Check hr) (bc_nd (fun h => rt_of ⟨⟨none, 0, 0⟩, rfl, ?_⟩) (fun h => ?_))
  · exact (congrArg (fun z : List Int => OwnSl 3 [.int .i64] σ none 0 0 z σ) (ofL_err h)).mpr (OwnSl.nil ..)
  have hv := chkQ_val h
  refine cut_intro fun J6 h6 => ?_
  refine cl_of M_queue_play_enter (c_play_val hr hv) ?_
  rintro v σ11 ⟨W, σ1, rfl, hs1, hS, hn⟩
  rw [hP] at hn
  refine ⟨_, rfl, ?_⟩
  refine FFun.mono (hE σ11 σ1 W N hn) ?_
  rintro _ τ2 ⟨rfl, e2⟩
  rw [e2]
  clear e2 τ2
  have hpl : W.p.n = N.parties.length := by rw [hS.p.1, ← hS.lp.trans hst.len.symm]; exact List.length_map ..
  have hvn := hv.n
  have hpn := hst.len
  refine ⟨_, _, _, rfl, ⟨fun m xs i τ => ∃ k : Nat, m = N.parties.length - k ∧ xs = (N.parties.take k).map f ∧ i = k ∧ k ≤ N.parties.length ∧ τ = σ11, ⟨_, adp_nil.2 ⟨0, rfl, rfl, rfl, by omega, rfl⟩⟩, ?_⟩⟩
  rintro m xs i τ ⟨k, rfl, rfl, rfl, hk, rfl⟩ _
  refine bc_d (fun hlt => ?_) (fun hlt => ?_)
  · have hkl : k < N.parties.length := by omega
    refine (hS.sub hn.sub).pix hst (by omega) (by simpa using hkl) ?_
    refine FFun.mono (hN τ σ1 W N k hn (by simpa using hkl)) ?_
    rintro _ _ ⟨rfl, rfl⟩
    refine ⟨_, rfl, roomy_i (by simp; omega) (wk_i (by omega) (bk_of (N.parties.length - (k + 1)) (by omega) ⟨k + 1, rfl, ?_, by omega, by omega, rfl⟩))⟩
    rw [List.take_succ_eq_append_getElem hkl, List.map_append]
    have : N.pa k = N.parties[k] := by simp [Ngt.pa, List.getD, hkl]
    rw [this]
    rfl
  · have : k = N.parties.length := by omega
    subst this
    rw [List.take_length, h6]
    intro _
    intro A8 l8 c8 σ9 o9
    obtain ⟨σ', o1, o2⟩ := o9.less (hs1.trans hn.sub)
    refine rt_sub o2 ⟨⟨A8, l8, c8⟩, by rw [h]; rfl, ?_⟩
    exact (congrArg (fun z : List Int => OwnSl 3 [.int .i64] σ A8 l8 c8 z σ') (ofL_ok h)).mpr o1
theorem c_of_booth {fe fn : Value} {f : Bth → Int} {N : Ngt} (hr : EvR σ r B l ws G) (hP : Ngt.played w B G = N)
    (hE : ∀ (τ σ1 : Hp) (W : NW) (N : Ngt), NightR W σ1 τ N → cl Try.prog fe #[.pointer (some ⟨W.nb, 0, none⟩)] τ fun v τ' => v = W.r.v ∧ τ' = τ)
    (hN : ∀ (τ σ1 : Hp) (W : NW) (N : Ngt) (g : Int), NightR W σ1 τ N → g.toNat < N.rides.length → cl Try.prog fn #[.pointer (some ⟨W.rb g, 0, none⟩)] τ fun v τ' => v = .int .i64 (f (N.bo g)) ∧ τ' = τ) :
    FCalls Try.prog N_queue_of__queue_booth #[.agg #[r.v, .int .i64 w], l.v, fe, fn] σ (OfI σ (chkQ w B G) (N.rides.map f)) := by
  have hst := played_stat w B G
  rw [hP] at hst
  refine M_queue_of__queue_booth_ok _ _ _ _ _ _ _ _ _ _ _ ?_
  unfold M_queue_of__queue_booth
  refine clI M_queue_Check_enter (c_Check hr) (bc_nd (fun h => rt_of ⟨⟨none, 0, 0⟩, rfl, ?_⟩) (fun h => ?_))
  · exact (congrArg (fun z : List Int => OwnSl 3 [.int .i64] σ none 0 0 z σ) (ofL_err h)).mpr (OwnSl.nil ..)
  have hv := chkQ_val h
  refine cut_intro fun J6 h6 => ?_
  refine cl_of M_queue_play_enter (c_play_val hr hv) ?_
  rintro v σ11 ⟨W, σ1, rfl, hs1, hS, hn⟩
  rw [hP] at hn
  refine ⟨_, rfl, ?_⟩
  refine FFun.mono (hE σ11 σ1 W N hn) ?_
  rintro _ τ2 ⟨rfl, e2⟩
  rw [e2]
  clear e2 τ2
  have hrl : W.r.n = N.rides.length := by rw [hS.r.1, ← hS.lr.trans hst.1.symm]; exact List.length_map ..
  have hvn := hv.m
  have hpn := hst.1
  refine ⟨_, _, _, rfl, ⟨fun m xs i τ => ∃ k : Nat, m = N.rides.length - k ∧ xs = (N.rides.take k).map f ∧ i = k ∧ k ≤ N.rides.length ∧ τ = σ11, ⟨_, adp_nil.2 ⟨0, rfl, rfl, rfl, by omega, rfl⟩⟩, ?_⟩⟩
  rintro m xs i τ ⟨k, rfl, rfl, rfl, hk, rfl⟩ _
  refine bc_d (fun hlt => ?_) (fun hlt => ?_)
  · have hkl : k < N.rides.length := by omega
    refine (hS.sub hn.sub).rix hst (by omega) (by simpa using hkl) ?_
    refine FFun.mono (hN τ σ1 W N k hn (by simpa using hkl)) ?_
    rintro _ _ ⟨rfl, rfl⟩
    refine ⟨_, rfl, roomy_i (by simp; omega) (wk_i (by omega) (bk_of (N.rides.length - (k + 1)) (by omega) ⟨k + 1, rfl, ?_, by omega, by omega, rfl⟩))⟩
    rw [List.take_succ_eq_append_getElem hkl, List.map_append]
    have : N.bo k = N.rides[k] := by simp [Ngt.bo, List.getD, hkl]
    rw [this]
    rfl
  · have : k = N.rides.length := by omega
    subst this
    rw [List.take_length, h6]
    intro _
    intro A8 l8 c8 σ9 o9
    obtain ⟨σ', o1, o2⟩ := o9.less (hs1.trans hn.sub)
    refine rt_sub o2 ⟨⟨A8, l8, c8⟩, by rw [h]; rfl, ?_⟩
    exact (congrArg (fun z : List Int => OwnSl 3 [.int .i64] σ A8 l8 c8 z σ') (ofL_ok h)).mpr o1

theorem e_parties (τ σ1 : Hp) (W : NW) (N : Ngt) (h : NightR W σ1 τ N) : cl Try.prog (.func (.func N_queue_parties) #[] #[]) #[.pointer (some ⟨W.nb, 0, none⟩)] τ fun v τ' => v = W.p.v ∧ τ' = τ := by
  refine FFun.func M_queue_parties_enter ?_
  refine M_queue_parties_ok _ _ _ ?_
  unfold M_queue_parties
  obtain ⟨v, hnb, _⟩ := h.nblk
  exact dr_i (bldS hnb rfl (rt_of ⟨rfl, rfl⟩))
theorem e_rides (τ σ1 : Hp) (W : NW) (N : Ngt) (h : NightR W σ1 τ N) : cl Try.prog (.func (.func N_queue_rides) #[] #[]) #[.pointer (some ⟨W.nb, 0, none⟩)] τ fun v τ' => v = W.r.v ∧ τ' = τ := by
  refine FFun.func M_queue_rides_enter ?_
  refine M_queue_rides_ok _ _ _ ?_
  unfold M_queue_rides
  obtain ⟨v, hnb, _⟩ := h.nblk
  exact dr_i (bldS hnb rfl (rt_of ⟨rfl, rfl⟩))
theorem e_held (τ σ1 : Hp) (W : NW) (N : Ngt) (g : Int) (h : NightR W σ1 τ N) (hg : g.toNat < N.parties.length) : cl Try.prog (.func (.func N_queue_Held_1) #[] #[]) #[.pointer (some ⟨W.pb g, 0, none⟩)] τ fun v τ' => v = .int .i64 (N.pa g).purse ∧ τ' = τ := by
  refine FFun.func M_queue_Held_1_enter ?_
  refine M_queue_Held_1_ok _ _ _ ?_
  unfold M_queue_Held_1
  exact dr_i (bldI (h.pblk hg) rfl (rt_of ⟨rfl, rfl⟩))
theorem e_home (τ σ1 : Hp) (W : NW) (N : Ngt) (g : Int) (h : NightR W σ1 τ N) (hg : g.toNat < N.parties.length) : cl Try.prog (.func (.func N_queue_Home_1) #[] #[]) #[.pointer (some ⟨W.pb g, 0, none⟩)] τ fun v τ' => v = .int .i64 (N.pa g).home ∧ τ' = τ := by
  refine FFun.func M_queue_Home_1_enter ?_
  refine M_queue_Home_1_ok _ _ _ ?_
  unfold M_queue_Home_1
  exact dr_i (bldI (h.pblk hg) rfl (rt_of ⟨rfl, rfl⟩))
theorem e_takes (τ σ1 : Hp) (W : NW) (N : Ngt) (g : Int) (h : NightR W σ1 τ N) (hg : g.toNat < N.rides.length) : cl Try.prog (.func (.func N_queue_Takes_1) #[] #[]) #[.pointer (some ⟨W.rb g, 0, none⟩)] τ fun v τ' => v = .int .i64 (N.bo g).takes ∧ τ' = τ := by
  refine FFun.func M_queue_Takes_1_enter ?_
  refine M_queue_Takes_1_ok _ _ _ ?_
  unfold M_queue_Takes_1
  obtain ⟨o, q, hb, _⟩ := h.rblk hg
  exact dr_i (bldI hb rfl (rt_of ⟨rfl, rfl⟩))
theorem c_Held (hr : EvR σ r B l ws G) : FCalls Try.prog N_queue_Held #[.agg #[r.v, .int .i64 w], l.v] σ (OfI σ (chkQ w B G) ((Ngt.played w B G).parties.map Pty.purse)) := by
  refine M_queue_Held_ok _ _ _ _ _ _ _ _ _ ?_
  unfold M_queue_Held
  refine cl_of M_queue_of__queue_party_enter (c_of_party hr rfl e_parties e_held) ?_
  rintro v σ2 ⟨s, rfl, ho⟩
  exact ⟨_, _, _, _, rfl, rt_of ⟨s, rfl, ho⟩⟩
theorem c_Home (hr : EvR σ r B l ws G) : FCalls Try.prog N_queue_Home #[.agg #[r.v, .int .i64 w], l.v] σ (OfI σ (chkQ w B G) ((Ngt.played w B G).parties.map Pty.home)) := by
  refine M_queue_Home_ok _ _ _ _ _ _ _ _ _ ?_
  unfold M_queue_Home
  refine cl_of M_queue_of__queue_party_enter (c_of_party hr rfl e_parties e_home) ?_
  rintro v σ2 ⟨s, rfl, ho⟩
  exact ⟨_, _, _, _, rfl, rt_of ⟨s, rfl, ho⟩⟩
theorem c_Takes (hr : EvR σ r B l ws G) : FCalls Try.prog N_queue_Takes #[.agg #[r.v, .int .i64 w], l.v] σ (OfI σ (chkQ w B G) ((Ngt.played w B G).rides.map Bth.takes)) := by
  refine M_queue_Takes_ok _ _ _ _ _ _ _ _ _ ?_
  unfold M_queue_Takes
  refine cl_of M_queue_of__queue_booth_enter (c_of_booth hr rfl e_rides e_takes) ?_
  rintro v σ2 ⟨s, rfl, ho⟩
  exact ⟨_, _, _, _, rfl, rt_of ⟨s, rfl, ho⟩⟩
theorem c_Example : FCalls Try.prog N_law07_Example #[] σ fun v σ' => ∃ (r l : SL) (ws : Nat → SL), v = .tuple #[.agg #[r.v, .int .i64 1], l.v] ∧ Hp.Sub σ σ' ∧ EvR σ' r exB l ws exG := by
  refine M_law07_Example_ok _ _ ?_
  unfold M_law07_Example
  intro A1 l1 c1 σ2 o2 A3 l3 c3 σ4 o4 A5 l5 c5 σ6 o6 A7 l7 c7 σ8 o8
  refine rt_of ⟨⟨A1, l1, c1⟩, ⟨A7, l7, c7⟩, fun i => if i = 0 then ⟨A3, l3, c3⟩ else ⟨A5, l5, c5⟩, rfl, o2.sub.trans (o4.sub.trans (o6.sub.trans o8.sub)), ⟨RdS.sub o2.rd (o4.sub.trans (o6.sub.trans o8.sub)), o8.rd, fun i hi => ?_⟩⟩
  match i, hi with
  | 0, _ => exact RdS.sub o4.rd (o6.sub.trans o8.sub)
  | 1, _ => exact RdS.sub o6.rd o8.sub
theorem c_works : FCalls Try.prog N_law07_works #[] σ fun v σ' => v = .bool true ∧ σ' = σ := by
  refine M_law07_works_ok _ _ ?_
  unfold M_law07_works
  refine cl_of M_law07_Example_enter c_Example ?_
  rintro v σ2 ⟨r, l, ws, rfl, hs, he⟩
  refine ⟨_, _, _, _, _, _, _, rfl, cl_of M_queue_Held_enter (c_Held he) ?_⟩
  rintro v σ7 ⟨s, rfl, ho⟩
  have e1 : ofL (chkQ 1 exB exG) ((Ngt.played 1 exB exG).parties.map Pty.purse) = [14, 16] := (ofL_ok ex_chk).trans ex_held
  have ho : OwnSl 3 [.int .i64] σ2 s.A s.n s.c ([14, 16] : List Int) σ7 := (congrArg (fun z : List Int => OwnSl 3 [.int .i64] σ2 s.A s.n s.c z σ7) e1).mp ho
  rw [ex_chk]
  have hrd : RdS [.int .i64] σ7 s.A s.n ([14, 16] : List Int) := ho.RdI
  have hl := hrd.lenI
  have hl : s.n = 2 := hl
  refine ⟨_, _, _, _, rfl, bc_d (fun _ => bc_d (fun _ => gixg hrd (by omega) (by decide) (bc_d (fun _ => gixg hrd (by omega) (by decide) (rt_sub (hs.trans ho.sub) ⟨rfl, rfl⟩)) (fun h => absurd rfl h))) (fun h => absurd (by rw [hl]; rfl) h)) (fun h => absurd rfl h)⟩
theorem l_works {K : Bool → Hp → Prop} (h : K true σ) : cl Try.prog (.func (.func N_law07_works) #[] #[]) #[] σ fun v σ' => ∃ t : Bool, (v = .bool t ∧ K t σ') := clB M_law07_works_enter c_works h
end
end Go.Proofs.Ytgcefaikdplbkaa
