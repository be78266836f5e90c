/- Contracts of layer 7, program: end, come. -/
import Derived.Test.YtgcefaikdplbkaaQa2
import Derived.Test.YtgcefaikdplbkaaHs5
import Derived.Test.YtgcefaikdplbkaaQ4
namespace Go.Proofs.Ytgcefaikdplbkaa
open Go.RowKit

structure Ngt.Arr (N : Ngt) (g : Int) : Prop where
  g0 : 0 ≤ g
  hg : g.toNat < N.parties.length
  w0 : 0 ≤ (N.pa g).wish
  w1 : (N.pa g).wish < (N.pa g).g.wants.length
  r0 : 0 ≤ gt (N.pa g).g.wants (N.pa g).wish
  r1 : (gt (N.pa g).g.wants (N.pa g).wish).toNat < N.rides.length
  hq : ∀ i, (N.bo i).queue.length ≤ 4000000000
structure Ngt.Nxt (N : Ngt) (g : Int) : Prop where
  g0 : 0 ≤ g
  hg : g.toNat < N.parties.length
  w0 : 0 ≤ (N.pa g).wish
  w1 : (N.pa g).wish ≤ (N.pa g).g.wants.length
  r : (N.pa g).wish < (N.pa g).g.wants.length → 0 ≤ gt (N.pa g).g.wants (N.pa g).wish ∧ (gt (N.pa g).g.wants (N.pa g).wish).toNat < N.rides.length
  hq : ∀ i, (N.bo i).queue.length ≤ 4000000000
  ht : 0 ≤ N.tick ∧ N.tick ≤ 5000
  hk : 0 ≤ N.walk ∧ N.walk ≤ 100
structure Ngt.Dne (N : Ngt) (g : Int) : Prop where
  g0 : 0 ≤ g
  hg : g.toNat < N.parties.length
  w0 : 0 ≤ (N.pa g).wish
  w1 : (N.pa g).wish < (N.pa g).g.wants.length
  hl : (N.pa g).g.wants.length ≤ 1000
  hv : N.visits.length ≤ 4000000000

theorem Ngt.arrive_stat {N : Ngt} {nr : Nat} {G : List Grp} (h : N.stat nr G) (g : Int) : (N.arrive g).stat nr G := by
  unfold Ngt.arrive
  exact (h.setP (p := { N.pa g with comes := -1 }) rfl).setR
theorem Ngt.next_stat {N : Ngt} {nr : Nat} {G : List Grp} (h : N.stat nr G) (g : Int) : (N.next g).stat nr G := by
  unfold Ngt.next
  split
  · exact h.setP rfl
  · split
    · exact N.arrive_stat h g
    · exact h.setP rfl
theorem Ngt.done_stat {N : Ngt} {nr : Nat} {G : List Grp} (h : N.stat nr G) (s : Int × Int) (on : Bool) : (N.done s on).stat nr G := by
  unfold Ngt.done
  exact Ngt.stat.setP (N := N.setV _) h rfl
theorem foldl_stat {α : Type} {f : Ngt → α → Ngt} {nr : Nat} {G : List Grp} (hf : ∀ N a, Ngt.stat N nr G → (f N a).stat nr G) : ∀ (xs : List α) (N : Ngt), N.stat nr G → (xs.foldl f N).stat nr G
  | [], _, h => h
  | x :: xs, N, h => foldl_stat hf xs _ (hf N x h)

/-- a ride that ends -/
def Bth.ends (t : Int) (r : Bth) : Bool := decide (0 < r.on.length) && decide (r.begun + r.b.cycle = t)
def Bth.end1 (t : Int) (r : Bth) : Bth := if r.ends t = true then { r with on := [], ended := t } else r
def Bth.off (t : Int) (r : Bth) : List Int := if r.ends t = true then r.on else []
def isort (xs : List Int) : List Int := sortB (fun x y => decide (x ≤ y)) xs
def Ngt.endK (N : Ngt) (k : Nat) : Ngt := { N with rides := (N.rides.take k).map (Bth.end1 N.tick) ++ N.rides.drop k }
def Ngt.offK (N : Ngt) (k : Nat) : List Int := (N.rides.take k).flatMap (Bth.off N.tick)
def Ngt.off (N : Ngt) : List Int := isort (N.offK N.rides.length)
def Ngt.end_ (N : Ngt) : Ngt := N.off.foldl Ngt.next (N.endK N.rides.length)
theorem Ngt.endK_zero (N : Ngt) : N.endK 0 = N := by simp [Ngt.endK]
theorem Ngt.endK_len (N : Ngt) (k : Nat) : (N.endK k).rides.length = N.rides.length := by simp [Ngt.endK]; omega
theorem Ngt.endK_bo (N : Ngt) (k : Nat) : (N.endK k).bo k = N.bo k := by
  by_cases h : k < N.rides.length
  · simp [Ngt.endK, Ngt.bo, List.getD, List.getElem?_append, h, Nat.le_of_lt h]
  · have h' : N.rides.length ≤ k := by omega
    simp [Ngt.endK, Ngt.bo, List.getD, List.getElem?_append, h']
theorem Ngt.endK_succ (N : Ngt) {k : Nat} (h : k < N.rides.length) : N.endK (k + 1) = (N.endK k).setR k ((N.bo k).end1 N.tick) := by
  unfold Ngt.endK Ngt.setR
  congr 1
  simp only [Int.toNat_natCast]
  have e : (N.bo k) = N.rides[k] := by simp [Ngt.bo, List.getD, h]
  rw [e, List.take_succ_eq_append_getElem h, List.map_append, List.append_assoc, List.set_append_right _ _ (by simp; omega)]
  congr 1
  have : k - (List.map (Bth.end1 N.tick) (List.take k N.rides)).length = 0 := by simp; omega
  rw [this, List.drop_eq_getElem_cons h]
  rfl
theorem Ngt.offK_succ (N : Ngt) {k : Nat} (h : k < N.rides.length) : N.offK (k + 1) = N.offK k ++ (N.bo k).off N.tick := by
  have e : (N.bo k) = N.rides[k] := by simp [Ngt.bo, List.getD, h]
  rw [e]
  unfold Ngt.offK
  rw [List.take_succ_eq_append_getElem h, List.flatMap_append]
  simp
theorem Ngt.offK_len (N : Ngt) (ho : ∀ i, (N.bo i).on.length ≤ 1000000) : ∀ k : Nat, k ≤ N.rides.length → (N.offK k).length ≤ k * 1000000
  | 0, _ => by simp [Ngt.offK]
  | k + 1, h => by
    have := N.offK_len ho k (by omega)
    rw [N.offK_succ (by omega), List.length_append]
    have h2 : ((N.bo k).off N.tick).length ≤ 1000000 := by
      unfold Bth.off
      split
      · exact ho k
      · simp
    omega
theorem Ngt.setR_setR (N : Ngt) (i : Int) (a b : Bth) : (N.setR i a).setR i b = N.setR i b := by
  unfold Ngt.setR
  simp
theorem Ngt.setR_self (N : Ngt) (i : Int) : N.setR i (N.bo i) = N := by
  unfold Ngt.setR Ngt.bo
  by_cases h : i.toNat < N.rides.length
  · simp [List.getD, h]
  · have h' : N.rides.length ≤ i.toNat := by omega
    rw [List.set_eq_of_length_le h']

def SortI : Prop := ∀ (σ0 σ : Hp) (A : Option Addr) (n c : Nat) (xs : List Int), OwnSl 3 [.int .i64] σ0 A n c xs σ → xs.length ≤ 4294967296 →
  FCalls Try.prog N_slices_Sort_int #[.slice A n c] σ fun v σ' => v = .tuple #[] ∧ OwnSl 3 [.int .i64] σ0 A n c (isort xs) σ'

section
variable {W : NW} {σ0 σ : Hp} {N : Ngt} {nr : Nat} {G : List Grp}
theorem l_next (hS : NSt W σ0 nr G) (hN : N.stat nr G) (h : NightR W σ0 σ N) {g : Int} (hg : N.Nxt g) {K : Value → Hp → Prop} (hk : ∀ v σ', NightR W σ0 σ' (N.next g) → K v σ') : cl Try.prog (.func (.func N_queue_night_next) #[] #[]) #[.pointer (some ⟨W.nb, 0, none⟩), .int .i64 g] σ K :=
  cl_of M_queue_night_next_enter (c_next hS hN h hg.g0 hg.hg ⟨hg.w0, hg.w1⟩ hg.r hg.hq hg.ht hg.hk) fun v σ' h => hk v σ' h.2
theorem l_arrive (hS : NSt W σ0 nr G) (hN : N.stat nr G) (h : NightR W σ0 σ N) {g : Int} (hg : N.Arr g) {K : Value → Hp → Prop} (hk : ∀ v σ', NightR W σ0 σ' (N.arrive g) → K v σ') : cl Try.prog (.func (.func N_queue_night_arrive) #[] #[]) #[.pointer (some ⟨W.nb, 0, none⟩), .int .i64 g] σ K :=
  cl_of M_queue_night_arrive_enter (c_arrive hS hN h hg.g0 hg.hg ⟨hg.w0, hg.w1⟩ ⟨hg.r0, hg.r1⟩ (hg.hq _)) fun v σ' h => hk v σ' h.2
theorem l_done (hS : NSt W σ0 nr G) (hN : N.stat nr G) (h : NightR W σ0 σ N) {g came : Int} {on : Bool} (hg : N.Dne g) {K : Value → Hp → Prop} (hk : ∀ v σ', NightR W σ0 σ' (N.done (g, came) on) → K v σ') : cl Try.prog (.func (.func N_queue_night_done) #[] #[]) #[.pointer (some ⟨W.nb, 0, none⟩), .agg #[.int .i64 g, .int .i64 came], .bool on] σ K :=
  cl_of M_queue_night_done_enter (c_done hS hN h hg.g0 hg.hg ⟨hg.w0, hg.w1⟩ hg.hl hg.hv) fun v σ' h => hk v σ' h.2

/-- nobody is on a ride any more -/
theorem NightR.offO (h : NightR W σ0 σ N) {i : Int} (hi : i.toNat < N.rides.length) : σ.wr ⟨W.rb i, 5, none⟩ ∧ NightR W σ0 (σ.put ⟨W.rb i, 5, none⟩ (.slice none 0 0)) (N.setR i { N.bo i with on := [] }) := by
  obtain ⟨o, q, σ1, hb, ho, hk⟩ := h.ons hi
  obtain ⟨w, h1⟩ := hk [] ⟨none, 0, 0⟩ σ1 (OwnSl.nil ..)
  have hb1 : ∃ x, σ1 (W.rb i) = some x := by
    obtain ⟨c, e, hx, _⟩ := w
    exact ⟨_, hx⟩
  obtain ⟨x, hx⟩ := hb1
  exact ⟨blk_wr hb (show 5 < 11 by omega), h1.up (sub_put ho.sub hx _)⟩

theorem c_end (hso : SortI) (hS : NSt W σ0 nr G) (hN : N.stat nr G) (h : NightR W σ0 σ N) (hr : nr ≤ 1000) (hon : ∀ i, (N.bo i).on.length ≤ 1000000)
    (hb : ∀ i, -1000000 ≤ (N.bo i).begun + (N.bo i).b.cycle ∧ (N.bo i).begun + (N.bo i).b.cycle ≤ 1000000)
    (hok : ∀ k, (hk : k < N.off.length) → ((N.off.take k).foldl Ngt.next (N.endK N.rides.length)).Nxt N.off[k]) :
    FCalls Try.prog N_queue_night_end #[.pointer (some ⟨W.nb, 0, none⟩)] σ fun v σ' => v = .tuple #[] ∧ NightR W σ0 σ' N.end_ := by
  refine M_queue_night_end_ok _ _ _ ?_
  unfold M_queue_night_end
  have hnr : N.rides.length = nr := hN.1
  refine cut_intro fun J3 h3 => ?_
  have k3 : ∀ A l c σa σ2, NightR W σ0 σa (N.endK N.rides.length) → OwnSl 3 [.int .i64] σa A l c (N.offK N.rides.length) σ2 → J3 A l c σ2 := by
    intro A4 l4 c4 σa σ2 ha ho
    rw [h3]
    intro _
    have hol := N.offK_len hon N.rides.length (by omega)
    refine cl_of M_slices_Sort_int_enter (hso _ _ _ _ _ _ ho (by omega)) ?_
    rintro _ σ6 ⟨rfl, ho6⟩
    obtain ⟨σ', ho', h'⟩ := Lse.own_down pieces_star ha ho6
    have hS' := hS.sub ho'.sub
    have hl := ho'.RdI.lenI
    have hoff : N.off.length = (N.offK N.rides.length).length := sortB_length ..
    have hlow : NightR W σ' σ6 (N.endK N.rides.length) := h'
    have hNe : (N.endK N.rides.length).stat nr G := ⟨by rw [N.endK_len]; exact hnr, hN.2⟩
    change OwnSl 3 [.int .i64] σ0 A4 l4 c4 N.off σ' at ho'
    change l4 = N.off.length at hl
    refine ⟨fun w i τ => ∃ k : Nat, w = N.off.length - k ∧ i = k ∧ k ≤ N.off.length ∧ NightR W σ' τ ((N.off.take k).foldl Ngt.next (N.endK N.rides.length)), ⟨_, 0, rfl, rfl, by omega, hlow⟩, ?_⟩
    rintro w i τ ⟨k, rfl, rfl, hk, hτ⟩ _
    refine bc_d (fun hlt => ?_) (fun hlt => ?_)
    · have hkl : k < N.off.length := by omega
      have hrd : RdS [.int .i64] τ A4 l4 N.off := RdS.sub ho'.rd hτ.sub
      refine gixg hrd (by omega) (by omega) ?_
      rw [gt_nat hkl]
      refine l_next hS' (foldl_stat (fun N g h => N.next_stat h g) _ _ hNe) hτ (hok k hkl) fun v σ7 h7 => ?_
      refine wk_i (by omega) (bk_of _ (by omega) ⟨k + 1, rfl, by omega, by omega, ?_⟩)
      rw [take_fold hkl]
      exact h7
    · have : k = N.off.length := by omega
      subst this
      rw [List.take_length] at hτ
      exact rt_of ⟨rfl, hτ.low ho'.sub⟩
  obtain ⟨v, hnb, _⟩ := h.nblk
  refine dr_i (bldS hnb rfl ?_)
  have hrl : W.r.n = N.rides.length := by rw [hS.r.1, ← hS.lr.trans hnr.symm]; exact List.length_map ..
  refine ⟨fun w A l c i τ => ∃ (k : Nat) (σa : Hp), w = N.rides.length - k ∧ i = k ∧ k ≤ N.rides.length ∧ NightR W σ0 σa (N.endK k) ∧ OwnSl 3 [.int .i64] σa A l c (N.offK k) τ, ⟨_, 0, σ, rfl, rfl, by omega, by rw [N.endK_zero]; exact h, OwnSl.nil ..⟩, ?_⟩
  rintro w A l c i τ ⟨k, σa, rfl, rfl, hk, ha, ho⟩ _
  refine bc_d (fun hlt => ?_) (fun hlt => ?_)
  · have hkl : k < N.rides.length := by omega
    have hkN : (N.endK k).stat nr G := ⟨by rw [N.endK_len]; exact hnr, hN.2⟩
    have hki : ((k : Nat) : Int).toNat < (N.endK k).rides.length := by rw [N.endK_len]; exact hkl
    have hS1 := (hS.sub ha.sub).sub ho.sub
    have hlen := N.offK_len hon k (by omega)
    obtain ⟨o, q, hrb, hro, _⟩ := ha.rblk hki
    obtain ⟨v, hnb, _⟩ := ha.nblk
    have hol := hro.lenI
    rw [N.endK_bo] at hrb hro hol
    have honk := hon k
    have hbk := hb k
    refine cut_intro fun J32 h32 => ?_
    have k32 : ∀ A l c σb τ', NightR W σ0 σb (N.endK (k + 1)) → OwnSl 3 [.int .i64] σb A l c (N.offK (k + 1)) τ' → J32 A l c τ' := by
      intro A l c σb τ' hb' ho'
      rw [h32]
      intro _
      exact wk_i (by omega) (bk_of _ (by omega) ⟨k + 1, σb, rfl, by omega, by omega, hb', ho'⟩)
    have e1 := N.endK_succ hkl
    have e2 := N.offK_succ hkl
    refine hS1.rix hkN (by omega) hki (cut_intro fun J42 h42 => ?_)
    have k42 : ∀ t, t = (N.bo k).ends N.tick → J42 t τ := by
      rintro t rfl
      rw [h42]
      intro _
      refine bc_b (fun he => ?_) (fun he => ?_)
      · rw [Bth.end1, if_pos he] at e1
        rw [Bth.off, if_pos he] at e2
        refine dr_i (bldS (ho.sub _ _ hrb) rfl (adp_own ho ⟨(N.bo k).on, hro, roomy_i (by show (N.offK k).length + _ ≤ _; omega) (dr_i (bldI hnb rfl (dr_i ?_)))⟩))
        obtain ⟨w1, h1⟩ := ha.offO hki
        refine ⟨w1, dr_i ?_⟩
        have hki1 : ((k : Nat) : Int).toNat < ((N.endK k).setR k { (N.endK k).bo k with on := [] }).rides.length := by show _ < (List.set _ _ _).length; rw [List.length_set]; exact hki
        obtain ⟨w2, h2⟩ := h1.stR hki1 (k := 7) (v := .int .i64 N.tick) (r' := { N.bo k with on := [], ended := N.tick }) (by omega) (by rw [Ngt.bo_setR hki, if_pos rfl]) (by rw [Ngt.bo_setR hki, if_pos rfl, N.endK_bo]) (fun o q => by rw [Ngt.bo_setR hki, if_pos rfl, N.endK_bo]; rfl)
        refine ⟨w2, ?_⟩
        intro A59 l59 c59 σ60 o60
        rw [Ngt.setR_setR, ← e1] at h2
        refine k32 _ _ _ _ _ h2 ?_
        rw [e2]
        exact o60
      · rw [Bth.end1, if_neg (by rw [he]; simp), ← N.endK_bo k, Ngt.setR_self] at e1
        rw [Bth.off, if_neg (by rw [he]; simp), List.append_nil] at e2
        refine k32 _ _ _ _ _ (by rw [e1]; exact ha) (by rw [e2]; exact ho)
    have hrb1 := ho.sub _ _ hrb
    have hnb1 := ho.sub _ _ hnb
    refine dr_i (bldS hrb1 rfl (bc_d (fun h0 => ?_) (fun h0 => k42 _ ?_)))
    · refine dr_i (bldI hrb1 rfl (dr_i (bldI hrb1 rfl (wk_i (by omega) (dr_i (bldI hnb1 rfl (k42 _ ?_)))))))
      unfold Bth.ends
      rw [decide_eq_true (show 0 < (N.bo k).on.length by omega), Bool.true_and]
      rfl
    · unfold Bth.ends
      rw [decide_eq_false (show ¬ 0 < (N.bo k).on.length by omega), Bool.false_and]
  · have : k = N.rides.length := by omega
    subst this
    exact k3 _ _ _ _ _ ha ho

/-! ### come -/
def Ngt.comeA (N : Ngt) (i : Nat) : Ngt := if (N.pa i).g.came = N.tick then N.next i else N
def Ngt.comeB (N : Ngt) (i : Nat) : Ngt := if (N.pa i).comes = N.tick then N.arrive i else N
def Ngt.come (N : Ngt) : Ngt := (List.range N.parties.length).foldl Ngt.comeB ((List.range N.parties.length).foldl Ngt.comeA N)
theorem Ngt.comeA_stat {N : Ngt} {nr : Nat} {G : List Grp} (h : N.stat nr G) (g : Nat) : (N.comeA g).stat nr G := by
  unfold Ngt.comeA
  split
  · exact N.next_stat h _
  · exact h
theorem Ngt.comeB_stat {N : Ngt} {nr : Nat} {G : List Grp} (h : N.stat nr G) (g : Nat) : (N.comeB g).stat nr G := by
  unfold Ngt.comeB
  split
  · exact N.arrive_stat h _
  · exact h
theorem range_fold {β : Type} {f : β → Nat → β} {b : β} {k : Nat} : (List.range (k + 1)).foldl f b = f ((List.range k).foldl f b) k := by
  rw [List.range_succ, List.foldl_append]
  rfl

theorem c_come (hS : NSt W σ0 nr G) (hN : N.stat nr G) (h : NightR W σ0 σ N) (hp : N.parties.length ≤ 1000)
    (hA : ∀ k, k < N.parties.length → (((List.range k).foldl Ngt.comeA N).pa k).g.came = ((List.range k).foldl Ngt.comeA N).tick → ((List.range k).foldl Ngt.comeA N).Nxt k)
    (hB : ∀ k, k < N.parties.length → (((List.range k).foldl Ngt.comeB ((List.range N.parties.length).foldl Ngt.comeA N)).pa k).comes = ((List.range k).foldl Ngt.comeB ((List.range N.parties.length).foldl Ngt.comeA N)).tick → ((List.range k).foldl Ngt.comeB ((List.range N.parties.length).foldl Ngt.comeA N)).Arr k) :
    FCalls Try.prog N_queue_night_come #[.pointer (some ⟨W.nb, 0, none⟩)] σ fun v σ' => v = .tuple #[] ∧ NightR W σ0 σ' N.come := by
  refine M_queue_night_come_ok _ _ _ ?_
  unfold M_queue_night_come
  have hpl : W.p.n = N.parties.length := by rw [hS.p.1, ← hS.lp.trans hN.len.symm]; exact List.length_map ..
  refine cut_intro fun J3 h3 => ?_
  have hsA : ∀ k, ((List.range k).foldl Ngt.comeA N).stat nr G := fun k => foldl_stat (fun N g h => N.comeA_stat h g) _ _ hN
  have k3 : ∀ σ2, NightR W σ0 σ2 ((List.range N.parties.length).foldl Ngt.comeA N) → J3 σ2 := by
    intro σ2 h2
    rw [h3]
    intro _
    obtain ⟨v, hnb, _⟩ := h2.nblk
    refine dr_i (bldS hnb rfl ?_)
    have hN2 := hsA N.parties.length
    have hsB : ∀ k, ((List.range k).foldl Ngt.comeB ((List.range N.parties.length).foldl Ngt.comeA N)).stat nr G := fun k => foldl_stat (fun N g h => N.comeB_stat h g) _ _ hN2
    generalize e2 : (List.range N.parties.length).foldl Ngt.comeA N = N2 at *
    refine ⟨fun w i τ => ∃ k : Nat, w = N.parties.length - k ∧ i = k ∧ k ≤ N.parties.length ∧ NightR W σ0 τ ((List.range k).foldl Ngt.comeB N2), ⟨_, 0, rfl, rfl, by omega, h2⟩, ?_⟩
    rintro w i τ ⟨k, rfl, rfl, hk, hτ⟩ _
    refine bc_d (fun hlt => ?_) (fun hlt => ?_)
    · have hkl : k < N.parties.length := by omega
      have hS1 := hS.sub hτ.sub
      have hNk := hsB k
      have hBk := hB k hkl
      have hf := range_fold (f := Ngt.comeB) (b := N2) (k := k)
      generalize (List.range k).foldl Ngt.comeB N2 = Nk at *
      have hki : ((k : Nat) : Int).toNat < Nk.parties.length := by rw [hNk.len, ← hN.len]; exact hkl
      obtain ⟨v, hnb, _⟩ := hτ.nblk
      have hpb := hτ.pblk hki
      refine cut_intro fun J15 h15 => ?_
      have k15 : ∀ τ', NightR W σ0 τ' (Nk.comeB k) → J15 τ' := by
        intro τ' h'
        rw [h15]
        intro _
        refine wk_i (by omega) (bk_of _ (by omega) ⟨k + 1, rfl, by omega, by omega, ?_⟩)
        rw [hf]
        exact h'
      refine hS1.pix hNk (by omega) hki (dr_i (bldI hpb rfl (dr_i (bldI hnb rfl (bc_d (fun e => ?_) (fun e => ?_))))))
      · refine l_arrive hS hNk hτ (hBk e) fun v σ' h' => k15 _ ?_
        rw [Ngt.comeB, if_pos e]
        exact h'
      · refine k15 _ ?_
        rw [Ngt.comeB, if_neg e]
        exact hτ
    · have : k = N.parties.length := by omega
      subst this
      refine rt_of ⟨rfl, ?_⟩
      rw [Ngt.come, e2]
      exact hτ
  obtain ⟨v, hnb, _⟩ := h.nblk
  refine dr_i (bldS hnb rfl ?_)
  refine ⟨fun w i τ => ∃ k : Nat, w = N.parties.length - k ∧ i = k ∧ k ≤ N.parties.length ∧ NightR W σ0 τ ((List.range k).foldl Ngt.comeA N), ⟨_, 0, rfl, rfl, by omega, h⟩, ?_⟩
  rintro w i τ ⟨k, rfl, rfl, hk, hτ⟩ _
  refine bc_d (fun hlt => ?_) (fun hlt => ?_)
  · have hkl : k < N.parties.length := by omega
    have hS1 := hS.sub hτ.sub
    have hNk := hsA k
    have hAk := hA k hkl
    have hf := range_fold (f := Ngt.comeA) (b := N) (k := k)
    generalize (List.range k).foldl Ngt.comeA N = Nk at *
    have hki : ((k : Nat) : Int).toNat < Nk.parties.length := by rw [hNk.len, ← hN.len]; exact hkl
    obtain ⟨v, hnb, _⟩ := hτ.nblk
    have hpb := hτ.pblk hki
    refine cut_intro fun J15 h15 => ?_
    have k15 : ∀ τ', NightR W σ0 τ' (Nk.comeA k) → J15 τ' := by
      intro τ' h'
      rw [h15]
      intro _
      refine wk_i (by omega) (bk_of _ (by omega) ⟨k + 1, rfl, by omega, by omega, ?_⟩)
      rw [hf]
      exact h'
    refine hS1.pix hNk (by omega) hki (dr_i (bldI hpb rfl (dr_i (bldI hnb rfl (bc_d (fun e => ?_) (fun e => ?_))))))
    · refine l_next hS hNk hτ (hAk e) fun v σ' h' => k15 _ ?_
      rw [Ngt.comeA, if_pos e]
      exact h'
    · refine k15 _ ?_
      rw [Ngt.comeA, if_neg e]
      exact hτ
  · have : k = N.parties.length := by omega
    subst this
    exact k3 _ hτ
end
end Go.Proofs.Ytgcefaikdplbkaa
