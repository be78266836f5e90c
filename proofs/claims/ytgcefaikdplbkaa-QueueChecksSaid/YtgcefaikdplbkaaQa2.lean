/- Contracts of layer 7, program: arrive, next, done. -/
import Derived.Test.YtgcefaikdplbkaaQa1
import Derived.Test.YtgcefaikdplbkaaQ2
namespace Go.Proofs.Ytgcefaikdplbkaa
open Go.RowKit

def Ngt.arrive (N : Ngt) (g : Int) : Ngt :=
  (N.setP g { N.pa g with comes := -1 }).setR (gt (N.pa g).g.wants (N.pa g).wish) { N.bo (gt (N.pa g).g.wants (N.pa g).wish) with queue := (N.bo (gt (N.pa g).g.wants (N.pa g).wish)).queue ++ [(g, N.tick)] }
def Ngt.next (N : Ngt) (g : Int) : Ngt :=
  if (N.pa g).wish = (N.pa g).g.wants.length then N.setP g { N.pa g with home := N.tick }
  else if N.walk = 0 then N.arrive g
  else N.setP g { N.pa g with comes := N.tick + N.walk }
def Ngt.done (N : Ngt) (s : Int × Int) (on : Bool) : Ngt :=
  (N.setV (N.visits ++ [(s.1, (N.pa s.1).wish, gt (N.pa s.1).g.wants (N.pa s.1).wish, on, s.2, N.tick)])).setP s.1 { N.pa s.1 with wish := (N.pa s.1).wish + 1 }

/-- how many rides there are, and the groups as they are given -/
def Ngt.stat (N : Ngt) (nr : Nat) (G : List Grp) : Prop := N.rides.length = nr ∧ N.parties.map Pty.g = G
theorem Ngt.stat.len {N : Ngt} {nr : Nat} {G : List Grp} (h : N.stat nr G) : N.parties.length = G.length := by rw [← h.2, List.length_map]
theorem Ngt.stat.setP {N : Ngt} {nr : Nat} {G : List Grp} (h : N.stat nr G) {g : Int} {p : Pty} (hp : p.g = (N.pa g).g) : (N.setP g p).stat nr G := by
  refine ⟨h.1, ?_⟩
  rw [← h.2]
  show (N.parties.set g.toNat p).map Pty.g = _
  apply List.ext_getElem
  · simp
  · intro i h1 h2
    simp only [List.getElem_map, List.getElem_set]
    split
    · rename_i e
      subst e
      rw [hp]
      simp only [List.length_map] at h2
      simp [Ngt.pa, List.getD, h2]
    · rfl
theorem Ngt.stat.setR {N : Ngt} {nr : Nat} {G : List Grp} (h : N.stat nr G) {i : Int} {r : Bth} : (N.setR i r).stat nr G := by
  refine ⟨?_, h.2⟩
  show (N.rides.set i.toNat r).length = nr
  rw [List.length_set]
  exact h.1
theorem Ngt.pa_setP {N : Ngt} {g k : Int} {p : Pty} (hg : g.toNat < N.parties.length) : (N.setP g p).pa k = if k.toNat = g.toNat then p else N.pa k := by
  unfold Ngt.pa Ngt.setP
  simp only [List.getD, List.getElem?_set]
  by_cases e : k.toNat = g.toNat
  · rw [if_pos e, if_pos e.symm]; simp [hg]
  · rw [if_neg e, if_neg (fun h => e h.symm)]
theorem Ngt.bo_setR {N : Ngt} {i k : Int} {r : Bth} (hi : i.toNat < N.rides.length) : (N.setR i r).bo k = if k.toNat = i.toNat then r else N.bo k := by
  unfold Ngt.bo Ngt.setR
  simp only [List.getD, List.getElem?_set]
  by_cases e : k.toNat = i.toNat
  · rw [if_pos e, if_pos e.symm]; simp [hi]
  · rw [if_neg e, if_neg (fun h => e h.symm)]
theorem getD_pto {xs : List Nat} {i : Nat} (h : i < xs.length) : (xs.map pto).getD i none = pto (xs.getD i 0) := by
  simp [List.getD, h]

section
variable {W : NW} {σ0 σ : Hp} {N : Ngt} {nr : Nat} {G : List Grp}
theorem NSt.want (hS : NSt W σ nr G) (hN : N.stat nr G) {g : Int} (hg : g.toNat < N.parties.length) : RdS [.int .i64] σ (W.ws g.toNat).A (W.ws g.toNat).n (N.pa g).g.wants := by
  have hl : g.toNat < G.length := by rw [← hN.len]; exact hg
  have := hS.w g.toNat hl
  have e : (N.pa g).g = G[g.toNat] := by
    have e2 : G[g.toNat] = (N.parties.map Pty.g)[g.toNat]'(by simpa using hg) := by
      congr 1
      exact hN.2.symm
    rw [e2, List.getElem_map]
    simp [Ngt.pa, List.getD, hg]
  rw [e]
  exact this
/-- the pointer to a group -/
theorem NSt.pix (hS : NSt W σ nr G) (hN : N.stat nr G) {g : Int} {K : Option Addr → Prop} (h0 : 0 ≤ g) (hg : g.toNat < N.parties.length) (hk : K (some ⟨W.pb g, 0, none⟩)) : ix W.p.A W.p.n g 1 fun b a => ldP σ b a K := by
  have hl : g.toNat < W.ps.length := by rw [hS.lp, ← hN.len]; exact hg
  exact pixp (xs := (W.ps.map pto : List (Option Addr))) hS.p h0 (by simpa using hl) (by rw [getD_pto hl]; exact hk)
/-- the pointer to a ride -/
theorem NSt.rix (hS : NSt W σ nr G) (hN : N.stat nr G) {i : Int} {K : Option Addr → Prop} (h0 : 0 ≤ i) (hi : i.toNat < N.rides.length) (hk : K (some ⟨W.rb i, 0, none⟩)) : ix W.r.A W.r.n i 1 fun b a => ldP σ b a K := by
  have hl : i.toNat < W.rs.length := by rw [hS.lr, ← hN.1]; exact hi
  exact pixp (xs := (W.rs.map pto : List (Option Addr))) hS.r h0 (by simpa using hl) (by rw [getD_pto hl]; exact hk)

theorem c_arrive (hS : NSt W σ0 nr G) (hN : N.stat nr G) (h : NightR W σ0 σ N) {g : Int} (g0 : 0 ≤ g) (hg : g.toNat < N.parties.length)
    (hw : 0 ≤ (N.pa g).wish ∧ (N.pa g).wish < (N.pa g).g.wants.length) (hr : 0 ≤ gt (N.pa g).g.wants (N.pa g).wish ∧ (gt (N.pa g).g.wants (N.pa g).wish).toNat < N.rides.length)
    (hq : (N.bo (gt (N.pa g).g.wants (N.pa g).wish)).queue.length ≤ 4000000000) :
    FCalls Try.prog N_queue_night_arrive #[.pointer (some ⟨W.nb, 0, none⟩), .int .i64 g] σ fun v σ' => v = .tuple #[] ∧ NightR W σ0 σ' (N.arrive g) := by
  refine M_queue_night_arrive_ok _ _ _ _ ?_
  unfold M_queue_night_arrive
  have hS1 := hS.sub h.sub
  obtain ⟨v, hb, _⟩ := h.nblk
  refine dr_i (bldS hb rfl (hS1.pix hN g0 hg (dr_i ?_)))
  obtain ⟨w1, h1⟩ := h.stP hg (k := 7) (v := .int .i64 (-1)) (p' := { N.pa g with comes := -1 }) (by omega) rfl
  refine ⟨w1, ?_⟩
  show dr _ _
  generalize σ.put ⟨W.pb g, 0 + 7, none⟩ (.int .i64 (-1)) = σ9 at *
  have hN1 := hN.setP (g := g) (p := { N.pa g with comes := -1 }) rfl
  have hS2 := hS.sub h1.sub
  obtain ⟨v2, hb2, _⟩ := h1.nblk
  have hg1 : g.toNat < (N.setP g { N.pa g with comes := -1 }).parties.length := by show _ < (List.set _ _ _).length; rw [List.length_set]; exact hg
  have hp2 := h1.pblk hg1
  have e2 : (N.setP g { N.pa g with comes := -1 }).pa g = { N.pa g with comes := -1 } := by rw [Ngt.pa_setP hg, if_pos rfl]
  rw [e2] at hp2
  have hwt : RdS [.int .i64] σ9 (W.ws g.toNat).A (W.ws g.toNat).n (N.pa g).g.wants := by
    have := hS2.want hN1 hg1
    rw [e2] at this
    exact this
  refine dr_i (bldS hb2 rfl (dr_i (bldS hp2 rfl (dr_i (bldI hp2 rfl (gixg hwt hw.1 hw.2 (hS2.rix hN1 hr.1 hr.2 (dr_i ?_))))))))
  obtain ⟨o, q, σ1, hrb, hq1, hk⟩ := h1.que (i := gt (N.pa g).g.wants (N.pa g).wish) hr.2
  refine bldS hrb rfl (dr_i (bldI hb2 rfl (adp_own hq1 (roomy_i ?_ (dr_i ?_)))))
  · show (N.bo _).queue.length + 1 ≤ _
    omega
  · intro A n c σ2 ho
    obtain ⟨w3, h3⟩ := hk _ ⟨A, n, c⟩ σ2 ho
    exact ⟨w3, rt_of ⟨rfl, h3⟩⟩

theorem c_next (hS : NSt W σ0 nr G) (hN : N.stat nr G) (h : NightR W σ0 σ N) {g : Int} (g0 : 0 ≤ g) (hg : g.toNat < N.parties.length)
    (hw : 0 ≤ (N.pa g).wish ∧ (N.pa g).wish ≤ (N.pa g).g.wants.length) (hr : (N.pa g).wish < (N.pa g).g.wants.length → 0 ≤ gt (N.pa g).g.wants (N.pa g).wish ∧ (gt (N.pa g).g.wants (N.pa g).wish).toNat < N.rides.length)
    (hq : ∀ i, (N.bo i).queue.length ≤ 4000000000) (ht : 0 ≤ N.tick ∧ N.tick ≤ 5000) (hwk : 0 ≤ N.walk ∧ N.walk ≤ 100) :
    FCalls Try.prog N_queue_night_next #[.pointer (some ⟨W.nb, 0, none⟩), .int .i64 g] σ fun v σ' => v = .tuple #[] ∧ NightR W σ0 σ' (N.next g) := by
  refine M_queue_night_next_ok _ _ _ _ ?_
  unfold M_queue_night_next
  have hS1 := hS.sub h.sub
  obtain ⟨v, hb, _⟩ := h.nblk
  have hp := h.pblk hg
  have hwn := (hS1.want hN hg).lenI
  refine dr_i (bldS hb rfl (hS1.pix hN g0 hg (dr_i (bldI hp rfl (dr_i (bldS hp rfl (bc_d (fun e => ?_) (fun e => ?_))))))))
  · refine dr_i (bldI hb rfl (dr_i ?_))
    obtain ⟨w1, h1⟩ := h.stP hg (k := 8) (v := .int .i64 N.tick) (p' := { N.pa g with home := N.tick }) (by omega) rfl
    refine ⟨w1, rt_of ⟨rfl, ?_⟩⟩
    rw [Ngt.next, if_pos (by rw [e, hwn])]
    exact h1
  · have e' : (N.pa g).wish ≠ (N.pa g).g.wants.length := by rw [hwn] at e; exact e
    refine dr_i (bldI hb rfl (bc_d (fun e0 => ?_) (fun e0 => ?_)))
    · refine cl_of M_queue_night_arrive_enter (c_arrive hS hN h g0 hg ⟨hw.1, by omega⟩ (hr (by omega)) (hq _)) ?_
      rintro v σ' ⟨rfl, h1⟩
      refine rt_of ⟨rfl, ?_⟩
      rw [Ngt.next, if_neg e', if_pos e0]
      exact h1
    · refine dr_i (bldI hb rfl (dr_i (bldI hb rfl (wk_i (by omega) (dr_i ?_)))))
      obtain ⟨w1, h1⟩ := h.stP hg (k := 7) (v := .int .i64 (N.tick + N.walk)) (p' := { N.pa g with comes := N.tick + N.walk }) (by omega) rfl
      refine ⟨w1, rt_of ⟨rfl, ?_⟩⟩
      rw [Ngt.next, if_neg e', if_neg e0]
      exact h1

theorem c_done (hS : NSt W σ0 nr G) (hN : N.stat nr G) (h : NightR W σ0 σ N) {g came : Int} {on : Bool} (g0 : 0 ≤ g) (hg : g.toNat < N.parties.length)
    (hw : 0 ≤ (N.pa g).wish ∧ (N.pa g).wish < (N.pa g).g.wants.length) (hl : (N.pa g).g.wants.length ≤ 1000) (hv : N.visits.length ≤ 4000000000) :
    FCalls Try.prog N_queue_night_done #[.pointer (some ⟨W.nb, 0, none⟩), .agg #[.int .i64 g, .int .i64 came], .bool on] σ fun v σ' => v = .tuple #[] ∧ NightR W σ0 σ' (N.done (g, came) on) := by
  refine M_queue_night_done_ok _ _ _ _ _ _ ?_
  unfold M_queue_night_done
  have hS1 := hS.sub h.sub
  obtain ⟨v, σ1, hb, ho, hk⟩ := h.vis
  have hp := h.pblk hg
  refine dr_i (bldS hb rfl (hS1.pix hN g0 hg (dr_i (bldS hb rfl (dr_i (bldI hp rfl (dr_i (bldS hp rfl (dr_i (bldI hp rfl (gixg (hS1.want hN hg) hw.1 hw.2 (dr_i (bldI hb rfl (adp_own ho (roomy_i ?_ (dr_i ?_))))))))))))))))
  · show N.visits.length + 1 ≤ _
    omega
  · intro A n c σ2 ho2
    obtain ⟨w3, h3⟩ := hk _ ⟨A, n, c⟩ σ2 ho2
    refine ⟨w3, ?_⟩
    have hp3 := h3.pblk (g := g) hg
    refine dr_i (bldI hp3 rfl (wk_i ?_ (dr_i ?_)))
    · show _ ≤ (N.pa g).wish + 1 ∧ (N.pa g).wish + 1 ≤ _
      omega
    · obtain ⟨w4, h4⟩ := h3.stP (g := g) hg (k := 5) (v := .int .i64 ((N.pa g).wish + 1)) (p' := { N.pa g with wish := (N.pa g).wish + 1 }) (by omega) rfl
      exact ⟨w4, rt_of ⟨rfl, h4⟩⟩
end
end Go.Proofs.Ytgcefaikdplbkaa
