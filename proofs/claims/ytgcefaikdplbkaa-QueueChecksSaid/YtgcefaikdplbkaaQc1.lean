/- Contracts of layer 7: Check, of the program and of the reference. -/
import Derived.Test.YtgcefaikdplbkaaQb10
namespace Go.Proofs.Ytgcefaikdplbkaa
open Go.RowKit

def okB (b : BthG) : Bool := decide (1 ≤ b.seats ∧ b.seats ≤ 40) && (decide (0 ≤ b.price ∧ b.price ≤ 100) && (decide (1 ≤ b.cycle ∧ b.cycle ≤ 100) && decide (0 ≤ b.pause ∧ b.pause ≤ 100)))
def evOK (w : Int) (B : List BthG) : Bool := decide (B.length ≤ 8) && (decide (0 ≤ w ∧ w ≤ 100) && (List.range B.length).all fun k => okB (bd B k))
def okW (m : Nat) (x : Int) : Bool := decide (0 ≤ x ∧ x ≤ (m : Int) - 1)
def okG (m : Nat) (g : Grp) : Bool := decide (0 ≤ g.came ∧ g.came ≤ 2000) && (decide (1 ≤ g.size ∧ g.size ≤ 40) && (decide (0 ≤ g.tokens ∧ g.tokens ≤ 10000) && (decide (0 ≤ g.patience ∧ g.patience ≤ 2000) && (decide (g.wants.length ≤ 10) && (List.range g.wants.length).all fun j => okW m (gt g.wants j)))))
def chkQ (w : Int) (B : List BthG) (G : List Grp) : Int := if evOK w B = false then 70 else if 60 < G.length then 71 else if ((List.range G.length).all fun k => okG B.length (gd G k)) = false then 71 else 0
theorem all_range {n : Nat} {p : Nat → Bool} (h : ((List.range n).all p) = true) {k : Nat} (hk : k < n) : p k = true := List.all_eq_true.1 h k (List.mem_range.2 hk)
theorem chkQ_val {w : Int} {B : List BthG} {G : List Grp} (h : chkQ w B G = 0) : Val w B G := by
  unfold chkQ at h
  split at h
  · omega
  · rename_i h1
    split at h
    · omega
    · rename_i h2
      split at h
      · omega
      · rename_i h3
        have h1 : evOK w B = true := by simpa using h1
        have h3 : ((List.range G.length).all fun k => okG B.length (gd G k)) = true := by simpa using h3
        unfold evOK at h1
        rw [Bool.and_eq_true, Bool.and_eq_true, decide_eq_true_eq, decide_eq_true_eq] at h1
        obtain ⟨a1, a2, a3⟩ := h1
        refine ⟨a2, a1, fun b hb => ?_, by omega, fun g hg => ?_⟩
        · obtain ⟨i, hi, rfl⟩ := List.getElem_of_mem hb
          have := all_range a3 hi
          have e1 : bd B i = B[i] := by unfold bd; simp [List.getD, hi]
          rw [e1] at this
          unfold okB at this
          simp only [Bool.and_eq_true, decide_eq_true_eq] at this
          exact this
        · obtain ⟨i, hi, rfl⟩ := List.getElem_of_mem hg
          have := all_range h3 hi
          have e1 : gd G i = G[i] := by unfold gd; simp [List.getD, hi]
          rw [e1] at this
          unfold okG at this
          simp only [Bool.and_eq_true, decide_eq_true_eq] at this
          obtain ⟨b1, b2, b3, b4, b5, b6⟩ := this
          refine ⟨b1, b2, b3, b5, b4, fun x hx => ?_⟩
          obtain ⟨j, hj, rfl⟩ := List.getElem_of_mem hx
          have := all_range b6 hj
          rw [gt_nat hj] at this
          unfold okW at this
          have := of_decide_eq_true this
          omega
theorem all_succ {n : Nat} {p : Nat → Bool} : (List.range (n + 1)).all p = ((List.range n).all p && p n) := by
  rw [List.range_succ, List.all_append]
  simp
theorem any_succ {n : Nat} {p : Nat → Bool} : (List.range (n + 1)).any p = ((List.range n).any p || p n) := by
  rw [List.range_succ, List.any_append]
  simp
theorem all_false {n k : Nat} {p : Nat → Bool} (hk : k < n) (h : p k = false) : (List.range n).all p = false := by
  cases e : (List.range n).all p with
  | false => rfl
  | true => rw [all_range e hk] at h; cases h
theorem any_true {n k : Nat} {p : Nat → Bool} (hk : k < n) (h : p k = true) : (List.range n).any p = true := List.any_eq_true.2 ⟨k, List.mem_range.2 hk, h⟩
theorem any_false {n : Nat} {p : Nat → Bool} (h : ∀ k, k < n → p k = false) : (List.range n).any p = false := by
  cases e : (List.range n).any p with
  | false => rfl
  | true =>
    obtain ⟨k, hk, hp⟩ := List.any_eq_true.1 e
    rw [h k (List.mem_range.1 hk)] at hp
    cases hp
theorem any_not_all {n : Nat} {p : Nat → Bool} : (List.range n).any (fun k => !p k) = !(List.range n).all p := by
  induction n with
  | zero => rfl
  | succ n ih => rw [any_succ, all_succ, ih]; cases (List.range n).all p <;> cases p n <;> rfl

section
variable {σ : Hp} {w : Int} {r l : SL} {B : List BthG} {ws : Nat → SL} {G : List Grp}
theorem c_within {n lo hi : Int} : FCalls Try.prog N_queue_within #[.int .i64 n, .int .i64 lo, .int .i64 hi] σ fun v σ' => v = .bool (decide (lo ≤ n ∧ n ≤ hi)) ∧ σ' = σ := by
  refine M_queue_within_ok _ _ _ _ _ ?_
  unfold M_queue_within
  refine bc_d (fun h => rt_of ⟨?_, rfl⟩) (fun h => rt_of ⟨?_, rfl⟩)
  · rw [decide_eq_decide.2 (show n ≤ hi ↔ lo ≤ n ∧ n ≤ hi from ⟨fun h' => ⟨h, h'⟩, fun h' => h'.2⟩)]
  · rw [decide_eq_false fun h' => h h'.1]
theorem l_in {n lo hi : Int} {K : Bool → Hp → Prop} (h : K (decide (lo ≤ n ∧ n ≤ hi)) σ) : cl Try.prog (.func (.func N_queue_within) #[] #[]) #[.int .i64 n, .int .i64 lo, .int .i64 hi] σ fun v σ' => ∃ t : Bool, (v = .bool t ∧ K t σ') := clB M_queue_within_enter c_within h
theorem c_from {n lo hi : Int} : FCalls Try.prog N_ref07_from #[.int .i64 n, .int .i64 lo, .int .i64 hi] σ fun v σ' => v = .bool (decide (lo ≤ n ∧ n ≤ hi)) ∧ σ' = σ := by
  refine M_ref07_from_ok _ _ _ _ _ ?_
  unfold M_ref07_from
  refine bc_d (fun h => rt_of ⟨?_, rfl⟩) (fun h => rt_of ⟨?_, rfl⟩)
  · rw [decide_eq_decide.2 (show n ≤ hi ↔ lo ≤ n ∧ n ≤ hi from ⟨fun h' => ⟨h, h'⟩, fun h' => h'.2⟩)]
  · rw [decide_eq_false fun h' => h h'.1]
theorem l_fr {n lo hi : Int} {K : Bool → Hp → Prop} (h : K (decide (lo ≤ n ∧ n ≤ hi)) σ) : cl Try.prog (.func (.func N_ref07_from) #[] #[]) #[.int .i64 n, .int .i64 lo, .int .i64 hi] σ fun v σ' => ∃ t : Bool, (v = .bool t ∧ K t σ') := clB M_ref07_from_enter c_from h

/-! ### Is there one? -/
theorem c_Index_int {A : Option Addr} {n c : Nat} {xs : List Int} {f : Value} {p : Nat → Bool} (hx : RdS [.int .i64] σ A n xs) (hl : xs.length ≤ 4294967296)
    (hf : ∀ k, k < xs.length → cl Try.prog f #[.int .i64 (gt xs k)] σ fun v σ' => v = .bool (p k) ∧ σ' = σ) :
    FCalls Try.prog N_slices_IndexFunc_int #[.slice A n c, f] σ fun v σ' => ∃ j : Int, v = .int .i64 j ∧ decide (0 ≤ j) = (List.range xs.length).any p ∧ σ' = σ := by
  refine M_slices_IndexFunc_int_ok _ _ _ _ _ _ ?_
  unfold M_slices_IndexFunc_int
  have hn := hx.lenI
  refine cut_intro fun J3 h3 => ?_
  refine ⟨fun m i τ => ∃ k : Nat, m = xs.length - k ∧ i = k ∧ k ≤ xs.length ∧ τ = σ ∧ ∀ j, j < k → p j = false, ⟨_, 0, rfl, rfl, by omega, rfl, fun j h => by omega⟩, ?_⟩
  rintro m i τ ⟨k, rfl, rfl, hk, rfl, hj⟩ _
  refine bc_d (fun hlt => ?_) (fun hlt => ?_)
  · have hkl : k < xs.length := by omega
    refine gixg hx (by omega) (by omega) (FFun.mono (hf k hkl) ?_)
    rintro _ _ ⟨rfl, rfl⟩
    refine ⟨_, rfl, bc_b (fun hp => rt_of ⟨k, rfl, ?_, rfl⟩) (fun hp => wk_i (by omega) (bk_of _ (by omega) ⟨k + 1, rfl, by omega, by omega, rfl, fun j hjk => ?_⟩))⟩
    · rw [any_true hkl hp, decide_eq_true (by omega)]
    · rcases Nat.lt_or_ge j k with h1 | h1
      · exact hj j h1
      · have : j = k := by omega
        subst this; exact hp
  · have : k = xs.length := by omega
    subst this
    rw [h3]
    intro _
    refine rt_of ⟨-1, rfl, ?_, rfl⟩
    rw [any_false fun j h => hj j h]
    rfl
theorem c_Contains_int {A : Option Addr} {n c : Nat} {xs : List Int} {f : Value} {p : Nat → Bool} (hx : RdS [.int .i64] σ A n xs) (hl : xs.length ≤ 4294967296)
    (hf : ∀ k, k < xs.length → cl Try.prog f #[.int .i64 (gt xs k)] σ fun v σ' => v = .bool (p k) ∧ σ' = σ) :
    FCalls Try.prog N_slices_ContainsFunc_int #[.slice A n c, f] σ fun v σ' => v = .bool ((List.range xs.length).any p) ∧ σ' = σ := by
  refine M_slices_ContainsFunc_int_ok _ _ _ _ _ _ ?_
  unfold M_slices_ContainsFunc_int
  refine cl_of M_slices_IndexFunc_int_enter (c_Index_int hx hl hf) ?_
  rintro _ _ ⟨j, rfl, hj, rfl⟩
  exact ⟨_, rfl, rt_of ⟨by rw [hj], rfl⟩⟩
theorem c_Contains_booth {f : Value} {p : Nat → Bool} (hr : EvR σ r B l ws G) (hl : B.length ≤ 4294967296)
    (hf : ∀ k, (hk : k < B.length) → cl Try.prog f #[.agg #[.int .i64 B[k].seats, .int .i64 B[k].price, .int .i64 B[k].cycle, .int .i64 B[k].pause, .bool B[k].fill]] σ fun v σ' => v = .bool (p k) ∧ σ' = σ) :
    FCalls Try.prog N_slices_ContainsFunc_api_Booth #[r.v, f] σ fun v σ' => v = .bool ((List.range B.length).any p) ∧ σ' = σ := by
  refine M_slices_ContainsFunc_api_Booth_ok _ _ _ _ _ _ ?_
  unfold M_slices_ContainsFunc_api_Booth
  have hn := hr.lenR
  have : FCalls Try.prog N_slices_IndexFunc_api_Booth #[.slice r.A r.n r.c, f] σ fun v σ' => ∃ j : Int, v = .int .i64 j ∧ decide (0 ≤ j) = (List.range B.length).any p ∧ σ' = σ := by
    refine M_slices_IndexFunc_api_Booth_ok _ _ _ _ _ _ ?_
    unfold M_slices_IndexFunc_api_Booth
    refine cut_intro fun J3 h3 => ?_
    refine ⟨fun m i τ => ∃ k : Nat, m = B.length - k ∧ i = k ∧ k ≤ B.length ∧ τ = σ ∧ ∀ j, j < k → p j = false, ⟨_, 0, rfl, rfl, by omega, rfl, fun j h => by omega⟩, ?_⟩
    rintro m i τ ⟨k, rfl, rfl, hk, rfl, hj⟩ _
    refine bc_d (fun hlt => ?_) (fun hlt => ?_)
    · have hkl : k < B.length := by omega
      refine hr.ride hkl fun b o c0 c1 c2 c3 c4 => ?_
      refine ⟨_, c0, _, c1, _, c2, _, c3, _, c4, FFun.mono (hf k hkl) ?_⟩
      rintro _ _ ⟨rfl, rfl⟩
      refine ⟨_, rfl, bc_b (fun hp => rt_of ⟨k, rfl, ?_, rfl⟩) (fun hp => wk_i (by omega) (bk_of _ (by omega) ⟨k + 1, rfl, by omega, by omega, rfl, fun j hjk => ?_⟩))⟩
      · rw [any_true hkl hp, decide_eq_true (by omega)]
      · rcases Nat.lt_or_ge j k with h1 | h1
        · exact hj j h1
        · have : j = k := by omega
          subst this; exact hp
    · have : k = B.length := by omega
      subst this
      rw [h3]
      intro _
      refine rt_of ⟨-1, rfl, ?_, rfl⟩
      rw [any_false fun j h => hj j h]
      rfl
  refine cl_of M_slices_IndexFunc_api_Booth_enter this ?_
  rintro _ _ ⟨j, rfl, hj, rfl⟩
  exact ⟨_, rfl, rt_of ⟨by rw [hj], rfl⟩⟩
theorem c_Contains_group {f : Value} {p : Nat → Bool} (hr : EvR σ r B l ws G) (hl : G.length ≤ 4294967296)
    (hf : ∀ k, (hk : k < G.length) → cl Try.prog f #[.agg #[.int .i64 G[k].came, .int .i64 G[k].size, .int .i64 G[k].tokens, (ws k).v, .int .i64 G[k].patience]] σ fun v σ' => v = .bool (p k) ∧ σ' = σ) :
    FCalls Try.prog N_slices_ContainsFunc_api_Group #[l.v, f] σ fun v σ' => v = .bool ((List.range G.length).any p) ∧ σ' = σ := by
  refine M_slices_ContainsFunc_api_Group_ok _ _ _ _ _ _ ?_
  unfold M_slices_ContainsFunc_api_Group
  have hn := hr.lenL
  have : FCalls Try.prog N_slices_IndexFunc_api_Group #[.slice l.A l.n l.c, f] σ fun v σ' => ∃ j : Int, v = .int .i64 j ∧ decide (0 ≤ j) = (List.range G.length).any p ∧ σ' = σ := by
    refine M_slices_IndexFunc_api_Group_ok _ _ _ _ _ _ ?_
    unfold M_slices_IndexFunc_api_Group
    refine cut_intro fun J3 h3 => ?_
    refine ⟨fun m i τ => ∃ k : Nat, m = G.length - k ∧ i = k ∧ k ≤ G.length ∧ τ = σ ∧ ∀ j, j < k → p j = false, ⟨_, 0, rfl, rfl, by omega, rfl, fun j h => by omega⟩, ?_⟩
    rintro m i τ ⟨k, rfl, rfl, hk, rfl, hj⟩ _
    refine bc_d (fun hlt => ?_) (fun hlt => ?_)
    · have hkl : k < G.length := by omega
      refine hr.group hkl fun b o c0 c1 c2 c3 c4 => ?_
      refine ⟨_, c0, _, c1, _, c2, _, _, _, c3, _, c4, FFun.mono (hf k hkl) ?_⟩
      rintro _ _ ⟨rfl, rfl⟩
      refine ⟨_, rfl, bc_b (fun hp => rt_of ⟨k, rfl, ?_, rfl⟩) (fun hp => wk_i (by omega) (bk_of _ (by omega) ⟨k + 1, rfl, by omega, by omega, rfl, fun j hjk => ?_⟩))⟩
      · rw [any_true hkl hp, decide_eq_true (by omega)]
      · rcases Nat.lt_or_ge j k with h1 | h1
        · exact hj j h1
        · have : j = k := by omega
          subst this; exact hp
    · have : k = G.length := by omega
      subst this
      rw [h3]
      intro _
      refine rt_of ⟨-1, rfl, ?_, rfl⟩
      rw [any_false fun j h => hj j h]
      rfl
  refine cl_of M_slices_IndexFunc_api_Group_enter this ?_
  rintro _ _ ⟨j, rfl, hj, rfl⟩
  exact ⟨_, rfl, rt_of ⟨by rw [hj], rfl⟩⟩

/-! ### Check of the program -/
theorem c_evening_1 {b : BthG} : FCalls Try.prog N_queue_evening_1 #[.agg #[.int .i64 b.seats, .int .i64 b.price, .int .i64 b.cycle, .int .i64 b.pause, .bool b.fill]] σ fun v σ' => v = .bool (!okB b) ∧ σ' = σ := by
  refine M_queue_evening_1_ok _ _ _ _ _ _ _ ?_
  unfold M_queue_evening_1
  unfold okB
  refine l_in (bc_nd (fun h => rt_of ⟨by rw [decide_eq_false h]; rfl, rfl⟩) (fun h1 => l_in (bc_nd (fun h => rt_of ⟨by rw [decide_eq_true h1, decide_eq_false h]; rfl, rfl⟩) (fun h2 => l_in (bc_nd (fun h => rt_of ⟨by rw [decide_eq_true h1, decide_eq_true h2, decide_eq_false h]; rfl, rfl⟩) (fun h3 => l_in (rt_of ⟨by rw [decide_eq_true h1, decide_eq_true h2, decide_eq_true h3]; rfl, rfl⟩)))))))
theorem c_evening (hr : EvR σ r B l ws G) : FCalls Try.prog N_queue_evening #[.agg #[r.v, .int .i64 w]] σ fun v σ' => v = .int .i64 (if evOK w B = true then 0 else 70) ∧ σ' = σ := by
  refine M_queue_evening_ok _ _ _ _ _ _ ?_
  unfold M_queue_evening
  have hn := hr.lenR
  refine cut_intro fun J3 h3 => cut_intro fun J6 h6 => ?_
  have k6 : ∀ t, t = !evOK w B → J6 t σ := by
    rintro t rfl
    rw [h6]
    intro _
    refine bc_nb (fun h => rt_of ⟨by rw [h]; rfl, rfl⟩) (fun h => ?_)
    rw [h3]
    intro _
    exact rt_of ⟨by rw [h]; rfl, rfl⟩
  refine bc_d (fun h => k6 _ ?_) (fun h => l_in (bc_nd (fun h2 => k6 _ ?_) (fun h2 => clB M_slices_ContainsFunc_api_Booth_enter (c_Contains_booth (p := fun k => !okB (bd B k)) hr (by omega) fun k hk => ?_) (k6 _ ?_))))
  · unfold evOK; rw [decide_eq_false (by omega)]; rfl
  · unfold evOK; rw [decide_eq_false h2, Bool.false_and, Bool.and_false]; rfl
  · have e1 : bd B k = B[k] := by unfold bd; simp [List.getD, hk]
    rw [e1]
    exact cl_of M_queue_evening_1_enter c_evening_1 fun v σ' h => h
  · unfold evOK
    rw [any_not_all, decide_eq_true (show B.length ≤ 8 by omega), decide_eq_true h2]
    rfl
theorem c_Check_1 {p : Option Addr} {g : Grp} {s : SL} (hp : ∃ b rw, p = some ⟨b, 0, none⟩ ∧ σ b = some (.cells #[r.v, .int .i64 w] 24 (0, 0), rw)) (hm : r.n ≤ 1000000) (hw : RdS [.int .i64] σ s.A s.n g.wants) :
    FCalls Try.prog N_queue_Check_1 #[.agg #[.int .i64 g.came, .int .i64 g.size, .int .i64 g.tokens, s.v, .int .i64 g.patience], .pointer p] σ fun v σ' => v = .bool (!okG r.n g) ∧ σ' = σ := by
  refine M_queue_Check_1_ok _ _ _ _ _ _ _ _ _ _ ?_
  unfold M_queue_Check_1
  unfold okG
  have hwl := hw.lenI
  refine l_in (bc_nd (fun h => rt_of ⟨by rw [decide_eq_false h]; rfl, rfl⟩) (fun h1 => l_in (bc_nd (fun h => rt_of ⟨by rw [decide_eq_true h1, decide_eq_false h]; rfl, rfl⟩) (fun h2 => l_in (bc_nd (fun h => rt_of ⟨by rw [decide_eq_true h1, decide_eq_true h2, decide_eq_false h]; rfl, rfl⟩) (fun h3 => l_in (bc_nd (fun h => rt_of ⟨by rw [decide_eq_true h1, decide_eq_true h2, decide_eq_true h3, decide_eq_false h]; rfl, rfl⟩) (fun h4 => ?_))))))))
  rw [decide_eq_true h1, decide_eq_true h2, decide_eq_true h3, decide_eq_true h4]
  refine bc_d (fun h5 => rt_of ⟨?_, rfl⟩) (fun h5 => clB M_slices_ContainsFunc_int_enter (c_Contains_int (p := fun j => !okW r.n (gt g.wants j)) hw (by omega) fun k hk => ?_) (rt_of ⟨?_, rfl⟩))
  · rw [decide_eq_false (show ¬ g.wants.length ≤ 10 by omega)]; rfl
  · obtain ⟨b, rw', rfl, hb⟩ := hp
    refine FFun.func M_queue_Check_1_1_enter ?_
    refine M_queue_Check_1_1_ok _ _ _ _ ?_
    unfold M_queue_Check_1_1
    refine dr_i (bldS hb rfl (wk_i (by omega) (l_in (rt_of ⟨rfl, rfl⟩))))
  · rw [any_not_all, decide_eq_true (show g.wants.length ≤ 10 by omega)]; rfl
theorem c_Check (hr : EvR σ r B l ws G) : FCalls Try.prog N_queue_Check #[.agg #[r.v, .int .i64 w], l.v] σ fun v σ' => v = .int .i64 (chkQ w B G) ∧ σ' = σ := by
  refine M_queue_Check_ok _ _ _ _ _ _ _ _ _ ?_
  unfold M_queue_Check
  have hn := hr.lenR
  have hl := hr.lenL
  unfold chkQ
  refine clI M_queue_evening_enter (c_evening hr) (bc_nd (fun h => ?_) (fun h => ?_))
  · have h1 : ¬ evOK w B = true := fun h' => h (if_pos h')
    have h2 : evOK w B = false := by simpa using h1
    rw [if_neg h1, if_pos h2]
    exact rt_of ⟨rfl, rfl⟩
  · have h1 : evOK w B = true := by
      by_cases c : evOK w B = true
      · exact c
      · rw [if_neg c] at h; omega
    rw [h1, if_neg (show ¬ true = false by simp)]
    have hB : B.length ≤ 8 := by
      unfold evOK at h1
      rw [Bool.and_eq_true, decide_eq_true_eq] at h1
      exact h1.1
    intro b4 n4
    have hs := Hp.Sub.ins (.cells #[r.v, .int .i64 w] 24 (0, 0)) n4
    have hr2 := hr.sub hs
    have hb4 : (σ.ins b4 (.cells #[r.v, .int .i64 w] 24 (0, 0))) b4 = some (.cells #[r.v, .int .i64 w] 24 (0, 0), true) := Hp.ins_same ..
    change cut _ _
    have heq : (σ.ins b4 (.cells #[.slice r.A r.n r.c, .int .i64 w] 24)) = σ.ins b4 (.cells #[r.v, .int .i64 w] 24 (0, 0)) := rfl
    rw [heq]
    generalize σ.ins b4 (.cells #[r.v, .int .i64 w] 24 (0, 0)) = σ5 at *
    refine cut_intro fun J8 h8 => cut_intro fun J11 h11 => ?_
    have k11 : ∀ t, t = (decide (60 < G.length) || !(List.range G.length).all fun k => okG B.length (gd G k)) → J11 t σ5 := by
      rintro t rfl
      rw [h11]
      intro _
      refine bc_b (fun ht => rt_sub hs ⟨?_, rfl⟩) (fun ht => ?_)
      · by_cases c : 60 < G.length
        · rw [if_pos c]
        · rw [decide_eq_false c, Bool.false_or, Bool.not_eq_true'] at ht
          rw [if_neg c, if_pos ht]
      · rw [Bool.or_eq_false_iff, Bool.not_eq_false'] at ht
        have c := of_decide_eq_false ht.1
        rw [h8]
        intro _
        refine rt_sub hs ⟨?_, rfl⟩
        rw [if_neg c, ht.2, if_neg (by simp)]
    refine bc_d (fun c => k11 _ ?_) (fun c => clB M_slices_ContainsFunc_api_Group_enter (c_Contains_group (p := fun k => !okG B.length (gd G k)) hr2 (by omega) fun k hk => ?_) (k11 _ ?_))
    · rw [decide_eq_true (show 60 < G.length by omega)]; rfl
    · have e1 : gd G k = G[k] := by unfold gd; simp [List.getD, hk]
      rw [e1]
      refine FFun.func M_queue_Check_1_enter ?_
      have := c_Check_1 (σ := σ5) (w := w) (r := r) (g := G[k]) (s := ws k) ⟨b4, true, rfl, hb4⟩ (by omega) (hr2.w k hk)
      rw [hn] at this
      exact this
    · rw [any_not_all, decide_eq_false (show ¬ 60 < G.length by omega)]; rfl
end
end Go.Proofs.Ytgcefaikdplbkaa
