/- Trimmed by wip/trim.py to what this claim rests on. -/
import Derived.Test.YtecodlefcmjihaaGreatWQb10
namespace Go.Proofs.YtecodlefcmjihaaGreat
open Go.RowKit
def okB (b : BthG) : Bool := decide (1 ≤ b.seats ∧ b.seats ≤ 40) && (decide (0 ≤ b.price ∧ b.price ≤ 100) && (decide (1 ≤ b.cycle ∧ b.cycle ≤ 100) && decide (0 ≤ b.pause ∧ b.pause ≤ 100)))
def evOK (w : Int) (B : List BthG) : Bool := decide (B.length ≤ 8) && (decide (0 ≤ w ∧ w ≤ 100) && (List.range B.length).all fun k => okB (bd B k))
def okW (m : Nat) (x : Int) : Bool := decide (0 ≤ x ∧ x ≤ (m : Int) - 1)
def okG (m : Nat) (g : Grp) : Bool := decide (0 ≤ g.came ∧ g.came ≤ 2000) && (decide (1 ≤ g.size ∧ g.size ≤ 40) && (decide (0 ≤ g.tokens ∧ g.tokens ≤ 10000) && (decide (0 ≤ g.patience ∧ g.patience ≤ 2000) && (decide (g.wants.length ≤ 10) && (List.range g.wants.length).all fun j => okW m (gt g.wants j)))))
def chkQ (w : Int) (B : List BthG) (G : List Grp) : Int := if evOK w B = false then 70 else if 60 < G.length then 71 else if ((List.range G.length).all fun k => okG B.length (gd G k)) = false then 71 else 0
theorem all_range {n : Nat} {p : Nat → Bool} (h : ((List.range n).all p) = true) {k : Nat} (hk : k < n) : p k = true := List.all_eq_true.1 h k (List.mem_range.2 hk)
theorem chkQ_val {w : Int} {B : List BthG} {G : List Grp} (h : chkQ w B G = 0) : Val w B G := by
  unfold chkQ at h
  split at h
  · omega
  · rename_i h1
    split at h
    · omega
    · rename_i h2
      split at h
      · omega
      · rename_i h3
        have h1 : evOK w B = true := by simpa using h1
        have h3 : ((List.range G.length).all fun k => okG B.length (gd G k)) = true := by simpa using h3
        unfold evOK at h1
        rw [Bool.and_eq_true, Bool.and_eq_true, decide_eq_true_eq, decide_eq_true_eq] at h1
        obtain ⟨a1, a2, a3⟩ := h1
        refine ⟨a2, a1, fun b hb => ?_, by omega, fun g hg => ?_⟩
        · obtain ⟨i, hi, rfl⟩ := List.getElem_of_mem hb
          have := all_range a3 hi
          have e1 : bd B i = B[i] := by unfold bd; simp [List.getD, hi]
          rw [e1] at this
          unfold okB at this
          simp only [Bool.and_eq_true, decide_eq_true_eq] at this
          exact this
        · obtain ⟨i, hi, rfl⟩ := List.getElem_of_mem hg
          have := all_range h3 hi
          have e1 : gd G i = G[i] := by unfold gd; simp [List.getD, hi]
          rw [e1] at this
          unfold okG at this
          simp only [Bool.and_eq_true, decide_eq_true_eq] at this
          obtain ⟨b1, b2, b3, b4, b5, b6⟩ := this
          refine ⟨b1, b2, b3, b5, b4, fun x hx => ?_⟩
          obtain ⟨j, hj, rfl⟩ := List.getElem_of_mem hx
          have := all_range b6 hj
          rw [gt_nat hj] at this
          unfold okW at this
          have := of_decide_eq_true this
          omega
theorem all_succ {n : Nat} {p : Nat → Bool} : (List.range (n + 1)).all p = ((List.range n).all p && p n) := by
  rw [List.range_succ, List.all_append]
  simp
theorem any_succ {n : Nat} {p : Nat → Bool} : (List.range (n + 1)).any p = ((List.range n).any p || p n) := by
  rw [List.range_succ, List.any_append]
  simp
theorem any_true {n k : Nat} {p : Nat → Bool} (hk : k < n) (h : p k = true) : (List.range n).any p = true := List.any_eq_true.2 ⟨k, List.mem_range.2 hk, h⟩
theorem any_false {n : Nat} {p : Nat → Bool} (h : ∀ k, k < n → p k = false) : (List.range n).any p = false := by
  cases e : (List.range n).any p with
  | false => rfl
  | true =>
    obtain ⟨k, hk, hp⟩ := List.any_eq_true.1 e
    rw [h k (List.mem_range.1 hk)] at hp
    cases hp
theorem any_not_all {n : Nat} {p : Nat → Bool} : (List.range n).any (fun k => !p k) = !(List.range n).all p := by
  induction n with
  | zero => rfl
  | succ n ih => rw [any_succ, all_succ, ih]; cases (List.range n).all p <;> cases p n <;> rfl
section
variable {σ : Hp} {w : Int} {r l : SL} {B : List BthG} {ws : Nat → SL} {G : List Grp}
theorem c_within {n lo hi : Int} : FCalls Tryz.prog N_queue_within #[.int .i64 n, .int .i64 lo, .int .i64 hi] σ fun v σ' => v = .bool (decide (lo ≤ n ∧ n ≤ hi)) ∧ σ' = σ := by
  refine M_queue_within_ok _ _ _ _ _ ?_
  unfold M_queue_within
  refine bc_d (fun h => rt_of ⟨?_, rfl⟩) (fun h => rt_of ⟨?_, rfl⟩)
  · rw [decide_eq_decide.2 (show n ≤ hi ↔ lo ≤ n ∧ n ≤ hi from ⟨fun h' => ⟨h, h'⟩, fun h' => h'.2⟩)]
  · rw [decide_eq_false fun h' => h h'.1]
theorem l_in {n lo hi : Int} {K : Bool → Hp → Prop} (h : K (decide (lo ≤ n ∧ n ≤ hi)) σ) : cl Tryz.prog (.func (.func N_queue_within) #[] #[]) #[.int .i64 n, .int .i64 lo, .int .i64 hi] σ fun v σ' => ∃ t : Bool, (v = .bool t ∧ K t σ') := clB M_queue_within_enter c_within h
theorem c_Index_int {A : Option Addr} {n c : Nat} {xs : List Int} {f : Value} {p : Nat → Bool} (hx : RdS [.int .i64] σ A n xs) (hl : xs.length ≤ 4294967296)
    (hf : ∀ k, k < xs.length → cl Tryz.prog f #[.int .i64 (gt xs k)] σ fun v σ' => v = .bool (p k) ∧ σ' = σ) :
    FCalls Tryz.prog N_slices_IndexFunc_int #[.slice A n c, f] σ fun v σ' => ∃ j : Int, v = .int .i64 j ∧ decide (0 ≤ j) = (List.range xs.length).any p ∧ σ' = σ := by
  refine M_slices_IndexFunc_int_ok _ _ _ _ _ _ ?_
  unfold M_slices_IndexFunc_int
  have hn := hx.lenI
  refine cut_intro fun J3 h3 => ?_
  refine ⟨fun m i τ => ∃ k : Nat, m = xs.length - k ∧ i = k ∧ k ≤ xs.length ∧ τ = σ ∧ ∀ j, j < k → p j = false, ⟨_, 0, rfl, rfl, by omega, rfl, fun j h => by omega⟩, ?_⟩
  rintro m i τ ⟨k, rfl, rfl, hk, rfl, hj⟩ _
  refine bc_d (fun hlt => ?_) (fun hlt => ?_)
  · have hkl : k < xs.length := by omega
    refine gixg hx (by omega) (by omega) (FFun.mono (hf k hkl) ?_)
    rintro _ _ ⟨rfl, rfl⟩
    refine ⟨_, rfl, bc_b (fun hp => rt_of ⟨k, rfl, ?_, rfl⟩) (fun hp => wk_i (by omega) (bk_of _ (by omega) ⟨k + 1, rfl, by omega, by omega, rfl, fun j hjk => ?_⟩))⟩
    · rw [any_true hkl hp, decide_eq_true (by omega)]
    · rcases Nat.lt_or_ge j k with h1 | h1
      · exact hj j h1
      · have : j = k := by omega
        subst this; exact hp
  · have : k = xs.length := by omega
    subst this
    rw [h3]
    intro _
    refine rt_of ⟨-1, rfl, ?_, rfl⟩
    rw [any_false fun j h => hj j h]
    rfl
theorem c_Contains_int {A : Option Addr} {n c : Nat} {xs : List Int} {f : Value} {p : Nat → Bool} (hx : RdS [.int .i64] σ A n xs) (hl : xs.length ≤ 4294967296)
    (hf : ∀ k, k < xs.length → cl Tryz.prog f #[.int .i64 (gt xs k)] σ fun v σ' => v = .bool (p k) ∧ σ' = σ) :
    FCalls Tryz.prog N_slices_ContainsFunc_int #[.slice A n c, f] σ fun v σ' => v = .bool ((List.range xs.length).any p) ∧ σ' = σ := by
  refine M_slices_ContainsFunc_int_ok _ _ _ _ _ _ ?_
  unfold M_slices_ContainsFunc_int
  refine cl_of M_slices_IndexFunc_int_enter (c_Index_int hx hl hf) ?_
  rintro _ _ ⟨j, rfl, hj, rfl⟩
  exact ⟨_, rfl, rt_of ⟨by rw [hj], rfl⟩⟩
theorem c_Contains_booth {f : Value} {p : Nat → Bool} (hr : EvR σ r B l ws G) (hl : B.length ≤ 4294967296)
    (hf : ∀ k, (hk : k < B.length) → cl Tryz.prog f #[.agg #[.int .i64 B[k].seats, .int .i64 B[k].price, .int .i64 B[k].cycle, .int .i64 B[k].pause, .bool B[k].fill]] σ fun v σ' => v = .bool (p k) ∧ σ' = σ) :
    FCalls Tryz.prog N_slices_ContainsFunc_api_Booth #[r.v, f] σ fun v σ' => v = .bool ((List.range B.length).any p) ∧ σ' = σ := by
  refine M_slices_ContainsFunc_api_Booth_ok _ _ _ _ _ _ ?_
  unfold M_slices_ContainsFunc_api_Booth
  have hn := hr.lenR
  have : FCalls Tryz.prog N_slices_IndexFunc_api_Booth #[.slice r.A r.n r.c, f] σ fun v σ' => ∃ j : Int, v = .int .i64 j ∧ decide (0 ≤ j) = (List.range B.length).any p ∧ σ' = σ := by
    refine M_slices_IndexFunc_api_Booth_ok _ _ _ _ _ _ ?_
    unfold M_slices_IndexFunc_api_Booth
    refine cut_intro fun J3 h3 => ?_
    refine ⟨fun m i τ => ∃ k : Nat, m = B.length - k ∧ i = k ∧ k ≤ B.length ∧ τ = σ ∧ ∀ j, j < k → p j = false, ⟨_, 0, rfl, rfl, by omega, rfl, fun j h => by omega⟩, ?_⟩
    rintro m i τ ⟨k, rfl, rfl, hk, rfl, hj⟩ _
    refine bc_d (fun hlt => ?_) (fun hlt => ?_)
    · have hkl : k < B.length := by omega
      refine hr.ride hkl fun b o c0 c1 c2 c3 c4 => ?_
      refine ⟨_, c0, _, c1, _, c2, _, c3, _, c4, FFun.mono (hf k hkl) ?_⟩
      rintro _ _ ⟨rfl, rfl⟩
      refine ⟨_, rfl, bc_b (fun hp => rt_of ⟨k, rfl, ?_, rfl⟩) (fun hp => wk_i (by omega) (bk_of _ (by omega) ⟨k + 1, rfl, by omega, by omega, rfl, fun j hjk => ?_⟩))⟩
      · rw [any_true hkl hp, decide_eq_true (by omega)]
      · rcases Nat.lt_or_ge j k with h1 | h1
        · exact hj j h1
        · have : j = k := by omega
          subst this; exact hp
    · have : k = B.length := by omega
      subst this
      rw [h3]
      intro _
      refine rt_of ⟨-1, rfl, ?_, rfl⟩
      rw [any_false fun j h => hj j h]
      rfl
  refine cl_of M_slices_IndexFunc_api_Booth_enter this ?_
  rintro _ _ ⟨j, rfl, hj, rfl⟩
  exact ⟨_, rfl, rt_of ⟨by rw [hj], rfl⟩⟩
theorem c_Contains_group {f : Value} {p : Nat → Bool} (hr : EvR σ r B l ws G) (hl : G.length ≤ 4294967296)
    (hf : ∀ k, (hk : k < G.length) → cl Tryz.prog f #[.agg #[.int .i64 G[k].came, .int .i64 G[k].size, .int .i64 G[k].tokens, (ws k).v, .int .i64 G[k].patience]] σ fun v σ' => v = .bool (p k) ∧ σ' = σ) :
    FCalls Tryz.prog N_slices_ContainsFunc_api_Group #[l.v, f] σ fun v σ' => v = .bool ((List.range G.length).any p) ∧ σ' = σ := by
  refine M_slices_ContainsFunc_api_Group_ok _ _ _ _ _ _ ?_
  unfold M_slices_ContainsFunc_api_Group
  have hn := hr.lenL
  have : FCalls Tryz.prog N_slices_IndexFunc_api_Group #[.slice l.A l.n l.c, f] σ fun v σ' => ∃ j : Int, v = .int .i64 j ∧ decide (0 ≤ j) = (List.range G.length).any p ∧ σ' = σ := by
    refine M_slices_IndexFunc_api_Group_ok _ _ _ _ _ _ ?_
    unfold M_slices_IndexFunc_api_Group
    refine cut_intro fun J3 h3 => ?_
    refine ⟨fun m i τ => ∃ k : Nat, m = G.length - k ∧ i = k ∧ k ≤ G.length ∧ τ = σ ∧ ∀ j, j < k → p j = false, ⟨_, 0, rfl, rfl, by omega, rfl, fun j h => by omega⟩, ?_⟩
    rintro m i τ ⟨k, rfl, rfl, hk, rfl, hj⟩ _
    refine bc_d (fun hlt => ?_) (fun hlt => ?_)
    · have hkl : k < G.length := by omega
      refine hr.group hkl fun b o c0 c1 c2 c3 c4 => ?_
      refine ⟨_, c0, _, c1, _, c2, _, _, _, c3, _, c4, FFun.mono (hf k hkl) ?_⟩
      rintro _ _ ⟨rfl, rfl⟩
      refine ⟨_, rfl, bc_b (fun hp => rt_of ⟨k, rfl, ?_, rfl⟩) (fun hp => wk_i (by omega) (bk_of _ (by omega) ⟨k + 1, rfl, by omega, by omega, rfl, fun j hjk => ?_⟩))⟩
      · rw [any_true hkl hp, decide_eq_true (by omega)]
      · rcases Nat.lt_or_ge j k with h1 | h1
        · exact hj j h1
        · have : j = k := by omega
          subst this; exact hp
    · have : k = G.length := by omega
      subst this
      rw [h3]
      intro _
      refine rt_of ⟨-1, rfl, ?_, rfl⟩
      rw [any_false fun j h => hj j h]
      rfl
  refine cl_of M_slices_IndexFunc_api_Group_enter this ?_
  rintro _ _ ⟨j, rfl, hj, rfl⟩
  exact ⟨_, rfl, rt_of ⟨by rw [hj], rfl⟩⟩
theorem c_evening_1 {b : BthG} : FCalls Tryz.prog N_queue_evening_1 #[.agg #[.int .i64 b.seats, .int .i64 b.price, .int .i64 b.cycle, .int .i64 b.pause, .bool b.fill]] σ fun v σ' => v = .bool (!okB b) ∧ σ' = σ := by
  refine M_queue_evening_1_ok _ _ _ _ _ _ _ ?_
  unfold M_queue_evening_1
  unfold okB
  refine l_in (bc_nd (fun h => rt_of ⟨by rw [decide_eq_false h]; rfl, rfl⟩) (fun h1 => l_in (bc_nd (fun h => rt_of ⟨by rw [decide_eq_true h1, decide_eq_false h]; rfl, rfl⟩) (fun h2 => l_in (bc_nd (fun h => rt_of ⟨by rw [decide_eq_true h1, decide_eq_true h2, decide_eq_false h]; rfl, rfl⟩) (fun h3 => l_in (rt_of ⟨by rw [decide_eq_true h1, decide_eq_true h2, decide_eq_true h3]; rfl, rfl⟩)))))))
theorem c_evening (hr : EvR σ r B l ws G) : FCalls Tryz.prog N_queue_evening #[.agg #[r.v, .int .i64 w]] σ fun v σ' => v = .int .i64 (if evOK w B = true then 0 else 70) ∧ σ' = σ := by
  refine M_queue_evening_ok _ _ _ _ _ _ ?_
  unfold M_queue_evening
  have hn := hr.lenR
  refine cut_intro fun J3 h3 => cut_intro fun J6 h6 => ?_
  have k6 : ∀ t, t = !evOK w B → J6 t σ := by
    rintro t rfl
    rw [h6]
    intro _
    refine bc_nb (fun h => rt_of ⟨by rw [h]; rfl, rfl⟩) (fun h => ?_)
    rw [h3]
    intro _
    exact rt_of ⟨by rw [h]; rfl, rfl⟩
  refine bc_d (fun h => k6 _ ?_) (fun h => l_in (bc_nd (fun h2 => k6 _ ?_) (fun h2 => clB M_slices_ContainsFunc_api_Booth_enter (c_Contains_booth (p := fun k => !okB (bd B k)) hr (by omega) fun k hk => ?_) (k6 _ ?_))))
  · unfold evOK; rw [decide_eq_false (by omega)]; rfl
  · unfold evOK; rw [decide_eq_false h2, Bool.false_and, Bool.and_false]; rfl
  · have e1 : bd B k = B[k] := by unfold bd; simp [List.getD, hk]
    rw [e1]
    exact cl_of M_queue_evening_1_enter c_evening_1 fun v σ' h => h
  · unfold evOK
    rw [any_not_all, decide_eq_true (show B.length ≤ 8 by omega), decide_eq_true h2]
    rfl
theorem c_Check_1 {p : Option Addr} {g : Grp} {s : SL} (hp : ∃ b rw, p = some ⟨b, 0, none⟩ ∧ σ b = some (.cells #[r.v, .int .i64 w] 24 (0, 0), rw)) (hm : r.n ≤ 1000000) (hw : RdS [.int .i64] σ s.A s.n g.wants) :
    FCalls Tryz.prog N_queue_Check_1 #[.agg #[.int .i64 g.came, .int .i64 g.size, .int .i64 g.tokens, s.v, .int .i64 g.patience], .pointer p] σ fun v σ' => v = .bool (!okG r.n g) ∧ σ' = σ := by
  refine M_queue_Check_1_ok _ _ _ _ _ _ _ _ _ _ ?_
  unfold M_queue_Check_1
  unfold okG
  have hwl := hw.lenI
  refine l_in (bc_nd (fun h => rt_of ⟨by rw [decide_eq_false h]; rfl, rfl⟩) (fun h1 => l_in (bc_nd (fun h => rt_of ⟨by rw [decide_eq_true h1, decide_eq_false h]; rfl, rfl⟩) (fun h2 => l_in (bc_nd (fun h => rt_of ⟨by rw [decide_eq_true h1, decide_eq_true h2, decide_eq_false h]; rfl, rfl⟩) (fun h3 => l_in (bc_nd (fun h => rt_of ⟨by rw [decide_eq_true h1, decide_eq_true h2, decide_eq_true h3, decide_eq_false h]; rfl, rfl⟩) (fun h4 => ?_))))))))
  rw [decide_eq_true h1, decide_eq_true h2, decide_eq_true h3, decide_eq_true h4]
  refine bc_d (fun h5 => rt_of ⟨?_, rfl⟩) (fun h5 => clB M_slices_ContainsFunc_int_enter (c_Contains_int (p := fun j => !okW r.n (gt g.wants j)) hw (by omega) fun k hk => ?_) (rt_of ⟨?_, rfl⟩))
  · rw [decide_eq_false (show ¬ g.wants.length ≤ 10 by omega)]; rfl
  · obtain ⟨b, rw', rfl, hb⟩ := hp
    refine FFun.func M_queue_Check_1_1_enter ?_
    refine M_queue_Check_1_1_ok _ _ _ _ ?_
    unfold M_queue_Check_1_1
    refine dr_i (bldS hb rfl (wk_i (by omega) (l_in (rt_of ⟨rfl, rfl⟩))))
  · rw [any_not_all, decide_eq_true (show g.wants.length ≤ 10 by omega)]; rfl
theorem c_Check (hr : EvR σ r B l ws G) : FCalls Tryz.prog N_queue_Check #[.agg #[r.v, .int .i64 w], l.v] σ fun v σ' => v = .int .i64 (chkQ w B G) ∧ σ' = σ := by
  refine M_queue_Check_ok _ _ _ _ _ _ _ _ _ ?_
  unfold M_queue_Check
  have hn := hr.lenR
  have hl := hr.lenL
  unfold chkQ
  refine clI M_queue_evening_enter (c_evening hr) (bc_nd (fun h => ?_) (fun h => ?_))
  · have h1 : ¬ evOK w B = true := fun h' => h (if_pos h')
    have h2 : evOK w B = false := by simpa using h1
    rw [if_neg h1, if_pos h2]
    exact rt_of ⟨rfl, rfl⟩
  · have h1 : evOK w B = true := by
      by_cases c : evOK w B = true
      · exact c
      · rw [if_neg c] at h; omega
    rw [h1, if_neg (show ¬ true = false by simp)]
    have hB : B.length ≤ 8 := by
      unfold evOK at h1
      rw [Bool.and_eq_true, decide_eq_true_eq] at h1
      exact h1.1
    intro b4 n4
    have hs := Hp.Sub.ins (.cells #[r.v, .int .i64 w] 24 (0, 0)) n4
    have hr2 := hr.sub hs
    have hb4 : (σ.ins b4 (.cells #[r.v, .int .i64 w] 24 (0, 0))) b4 = some (.cells #[r.v, .int .i64 w] 24 (0, 0), true) := Hp.ins_same ..
    change cut _ _
    have heq : (σ.ins b4 (.cells #[.slice r.A r.n r.c, .int .i64 w] 24)) = σ.ins b4 (.cells #[r.v, .int .i64 w] 24 (0, 0)) := rfl
    rw [heq]
    generalize σ.ins b4 (.cells #[r.v, .int .i64 w] 24 (0, 0)) = σ5 at *
    refine cut_intro fun J8 h8 => cut_intro fun J11 h11 => ?_
    have k11 : ∀ t, t = (decide (60 < G.length) || !(List.range G.length).all fun k => okG B.length (gd G k)) → J11 t σ5 := by
      rintro t rfl
      rw [h11]
      intro _
      refine bc_b (fun ht => rt_sub hs ⟨?_, rfl⟩) (fun ht => ?_)
      · by_cases c : 60 < G.length
        · rw [if_pos c]
        · rw [decide_eq_false c, Bool.false_or, Bool.not_eq_true'] at ht
          rw [if_neg c, if_pos ht]
      · rw [Bool.or_eq_false_iff, Bool.not_eq_false'] at ht
        have c := of_decide_eq_false ht.1
        rw [h8]
        intro _
        refine rt_sub hs ⟨?_, rfl⟩
        rw [if_neg c, ht.2, if_neg (by simp)]
    refine bc_d (fun c => k11 _ ?_) (fun c => clB M_slices_ContainsFunc_api_Group_enter (c_Contains_group (p := fun k => !okG B.length (gd G k)) hr2 (by omega) fun k hk => ?_) (k11 _ ?_))
    · rw [decide_eq_true (show 60 < G.length by omega)]; rfl
    · have e1 : gd G k = G[k] := by unfold gd; simp [List.getD, hk]
      rw [e1]
      refine FFun.func M_queue_Check_1_enter ?_
      have := c_Check_1 (σ := σ5) (w := w) (r := r) (g := G[k]) (s := ws k) ⟨b4, true, rfl, hb4⟩ (by omega) (hr2.w k hk)
      rw [hn] at this
      exact this
    · rw [any_not_all, decide_eq_false (show ¬ 60 < G.length by omega)]; rfl
end
end Go.Proofs.YtecodlefcmjihaaGreat
namespace Go.Proofs.YtecodlefcmjihaaGreat
open Go.RowKit
section
variable {σ : Hp} {w : Int} {r l : SL} {B : List BthG} {ws : Nat → SL} {G : List Grp}
def farB (B : List BthG) (G : List Grp) : Bool := decide (10 < B.length) || (decide (70 < G.length) || (List.range G.length).any fun k => decide (20 < (gd G k).wants.length))
theorem c_Far (hr : EvR σ r B l ws G) : FCalls Tryz.prog N_law07_Far #[.agg #[r.v, .int .i64 w], l.v] σ fun v σ' => v = .bool (farB B G) ∧ σ' = σ := by
  refine M_law07_Far_ok _ _ _ _ _ _ _ _ _ ?_
  unfold M_law07_Far
  have hn := hr.lenR
  have hl := hr.lenL
  refine cut_intro fun J3 h3 => cut_intro fun J20 h20 => ?_
  have k3 : ¬ 10 < B.length → ¬ 70 < G.length → J3 σ := by
    intro a1 a2
    have hf : farB B G = (List.range G.length).any fun k => decide (20 < (gd G k).wants.length) := by unfold farB; rw [decide_eq_false a1, decide_eq_false a2]; rfl
    rw [h3]
    intro _
    refine cut_intro fun J6 h6 => ?_
    refine ⟨fun m i τ => ∃ k : Nat, m = G.length - k ∧ i = k ∧ k ≤ G.length ∧ τ = σ ∧ ∀ j, j < k → decide (20 < (gd G j).wants.length) = false, ⟨_, 0, rfl, rfl, by omega, rfl, fun j h => by omega⟩, ?_⟩
    rintro m i τ ⟨k, rfl, rfl, hk, rfl, hj⟩ _
    refine bc_d (fun hlt => ?_) (fun hlt => ?_)
    · have hkl : k < G.length := by omega
      have e1 : gd G k = G[k] := by unfold gd; simp [List.getD, hkl]
      have hwl := (hr.w k hkl).lenI
      refine hr.group hkl fun b o c0 c1 c2 c3 c4 => ⟨_, _, _, c3, ?_⟩
      refine bc_d (fun h => rt_of ⟨?_, rfl⟩) (fun h => wk_i (by omega) (bk_of _ (by omega) ⟨k + 1, rfl, by omega, by omega, rfl, fun j hjk => ?_⟩))
      · rw [hf, any_true hkl (decide_eq_true (by rw [e1]; omega))]
      · rcases Nat.lt_or_ge j k with h1 | h1
        · exact hj j h1
        · have : j = k := by omega
          subst this
          exact decide_eq_false (by rw [e1]; omega)
    · have : k = G.length := by omega
      subst this
      rw [h6]
      intro _
      exact rt_of ⟨by rw [hf, any_false fun j h => hj j h], rfl⟩
  have k20 : ∀ t, t = (decide (10 < B.length) || decide (70 < G.length)) → J20 t σ := by
    rintro t rfl
    rw [h20]
    intro _
    refine bc_b (fun h => rt_of ⟨?_, rfl⟩) (fun h => ?_)
    · unfold farB
      rw [← Bool.or_assoc, h, Bool.true_or]
    · rw [Bool.or_eq_false_iff] at h
      exact k3 (of_decide_eq_false h.1) (of_decide_eq_false h.2)
  refine bc_d (fun h => k20 _ ?_) (fun h => k20 _ ?_)
  · rw [decide_eq_true (show 10 < B.length by omega), Bool.true_or]
  · rw [decide_eq_false (show ¬ 10 < B.length by omega), Bool.false_or]
    exact decide_eq_decide.2 (by omega)
theorem far_no (h : farB B G = false) : B.length ≤ 10 ∧ G.length ≤ 70 ∧ ∀ k, (h : k < G.length) → G[k].wants.length ≤ 20 := by
  unfold farB at h
  rw [Bool.or_eq_false_iff, Bool.or_eq_false_iff] at h
  obtain ⟨h1, h2, h3⟩ := h
  have h1 := of_decide_eq_false h1
  have h2 := of_decide_eq_false h2
  refine ⟨by omega, by omega, fun k hk => ?_⟩
  by_cases c : 20 < (gd G k).wants.length
  · rw [any_true hk (decide_eq_true c)] at h3; cases h3
  · have e1 : gd G k = G[k] := by unfold gd; simp [List.getD, hk]
    rw [e1] at c
    omega
theorem c_Copy (hr : EvR σ r B l ws G) (hB : B.length ≤ 4294967296) : FCalls Tryz.prog N_ref07_Copy #[.agg #[r.v, .int .i64 w]] σ fun v σ' => ∃ r' : SL, v = .agg #[r'.v, .int .i64 w] ∧ OwnSl 49 sB σ r'.A r'.n r'.c (B.map bthT) σ' := by
  refine M_ref07_Copy_ok _ _ _ _ _ _ ?_
  unfold M_ref07_Copy
  have hl : (B.map bthT).length ≤ 4294967296 := by rw [List.length_map]; exact hB
  have key : ∀ A n c σ', OwnSl 49 sB σ A n c ([] ++ B.map bthT) σ' → rt σ' (fun v σ' => ∃ r' : SL, v = .agg #[r'.v, .int .i64 w] ∧ OwnSl 49 sB σ r'.A r'.n r'.c (B.map bthT) σ') (.agg #[.slice A n c, .int .i64 w]) := fun A n c σ' ho => rt_of ⟨⟨A, n, c⟩, rfl, ho⟩
  have hro : roomy (([] : List (TyR sB)).length + (B.map bthT).length) (∀ A n c σ', OwnSl 49 sB σ A n c ([] ++ B.map bthT) σ' → rt σ' (fun v σ' => ∃ r' : SL, v = .agg #[r'.v, .int .i64 w] ∧ OwnSl 49 sB σ r'.A r'.n r'.c (B.map bthT) σ') (.agg #[.slice A n c, .int .i64 w])) := roomy_i (by rw [List.length_nil, Nat.zero_add]; exact hl) key
  exact ⟨⟨⟨_, hr.r, hro⟩, ⟨_, hr.r, hro⟩⟩, ⟨_, hr.r, hro⟩⟩
theorem mapIdx_set {ws ws' : Nat → SL} {k : Nat} {g : Grp} (hk : k < G.length) (hg : G[k] = g) (h : ∀ i, i ≠ k → ws' i = ws i) : (G.mapIdx (grpT ws)).set k (grpT ws' k g) = G.mapIdx (grpT ws') := by
  apply List.ext_getElem
  · simp
  · intro i h1 h2
    rw [List.getElem_set]
    simp only [List.getElem_mapIdx]
    by_cases c : k = i
    · subst c
      rw [if_pos rfl, hg]
    · rw [if_neg c]
      unfold grpT
      rw [h i fun e => c e.symm]
theorem c_CopyGroups (hr : EvR σ r B l ws G) (hG : G.length ≤ 4294967296) (hW : ∀ k, (h : k < G.length) → G[k].wants.length ≤ 4294967296) : FCalls Tryz.prog N_ref07_CopyGroups #[l.v] σ fun v σ' => ∃ (l' : SL) (ws' : Nat → SL), v = l'.v ∧ Hp.Sub σ σ' ∧ RdS sG σ' l'.A l'.n (G.mapIdx (grpT ws')) ∧ ∀ i, (h : i < G.length) → RdS [.int .i64] σ' (ws' i).A (ws' i).n G[i].wants := by
  refine M_ref07_CopyGroups_ok _ _ _ _ _ ?_
  unfold M_ref07_CopyGroups
  refine ⟨_, hr.l, roomy_i (by rw [List.length_nil, Nat.zero_add]; exact Nat.le_trans (Nat.le_of_eq (List.length_mapIdx ..)) hG) ?_⟩
  refine cut_intro fun J4 h4 => ?_
  refine ⟨fun m A n c i τ => ∃ (k : Nat) (ws' : Nat → SL) (σx : Hp), m = G.length - k ∧ i = k ∧ k ≤ G.length ∧ Hp.Sub σ σx ∧ OwnSl 43 sG σx A n c (G.mapIdx (grpT ws')) τ ∧ (∀ i, (h : i < G.length) → RdS [.int .i64] σx (ws' i).A (ws' i).n G[i].wants), ⟨G.length, ?_⟩, ?_⟩
  · intro A n c σ' ho
    exact ⟨0, ws, σ, rfl, rfl, by omega, Hp.Sub.refl _, ho, hr.w⟩
  rintro m A n c i τ ⟨k, ws', σx, rfl, rfl, hk, hs, ho, hw⟩ _
  have hlen : n = G.length := by rw [ho.len]; exact List.length_mapIdx ..
  refine bc_d (fun hlt => ?_) (fun hlt => ?_)
  · have hkl : k < G.length := by omega
    have hW := hW k hkl
    have hix : ∀ {K : Nat → Nat → Prop}, (∀ b off, A = some ⟨b, off, none⟩ → K b (off + k * 5)) → ix A n k 5 K := fun {K} hK => by
      rcases ho with ⟨_, _, _, he, _⟩ | ⟨b, off, cells, hA, _⟩
      · have : (G.mapIdx (grpT ws')).length = 0 := by rw [he]; rfl
        rw [List.length_mapIdx] at this
        omega
      · subst hA
        refine ⟨by omega, by omega, ?_⟩
        rw [mulSz_eq]
        exact hK b off rfl
    have hrd := ho.rd
    have hk' : ((k : Nat) : Int).toNat < (G.mapIdx (grpT ws')).length := by simpa using hkl
    refine ix_of hrd rfl (by omega) hk' fun b o hc => ?_
    have e : (G.mapIdx (grpT ws'))[((k : Nat) : Int).toNat]'hk' = grpT ws' k G[k] := by simp
    rw [e] at hc
    refine ⟨_, _, _, hc 3 (by show 3 < 5; omega), G[k].wants, (hw k hkl).sub ho.sub, roomy_i (by rw [List.length_nil, Nat.zero_add]; exact hW) (hix fun b off hA => ?_)⟩
    intro A20 l20 c20 σ21 o21
    obtain ⟨σx', o1, o2⟩ := ho.swap o21
    have hk2 : k < (G.mapIdx (grpT ws')).length := by simpa using hkl
    obtain ⟨b', off', hA', hput⟩ := o2.put (Hp.Sub.refl _) hk2
    rw [hA] at hA'
    cases hA'
    have eg : (G.mapIdx (grpT ws'))[k] = grpT ws' k G[k] := by simp
    obtain ⟨wz, z1, z2⟩ : ∃ wz : Nat → SL, wz k = ⟨A20, l20, c20⟩ ∧ ∀ i, i ≠ k → wz i = ws' i := ⟨fun i => if i = k then ⟨A20, l20, c20⟩ else ws' i, if_pos rfl, fun i h => if_neg h⟩
    obtain ⟨w1, σ2, w2, w3⟩ := hput 3 (.slice A20 l20 c20) (grpT wz k G[k]) (by rw [eg]; unfold grpT; rw [z1]; rfl)
    refine ⟨w1, wk_i (by omega) (bk_sub _ (by omega) w3 ⟨k + 1, wz, σx', rfl, by omega, by omega, hs.trans o1.sub, ?_, fun i hi => ?_⟩)⟩
    · have := mapIdx_set (G := G) (ws := ws') (ws' := wz) hkl rfl z2
      rw [this] at w2
      exact w2
    · by_cases c' : i = k
      · subst c'
        rw [z1]
        exact o1.rd
      · rw [z2 i c']
        exact (hw i hi).sub o1.sub
  · have : k = G.length := by omega
    subst this
    rw [h4]
    intro _
    exact rt_of ⟨⟨A, n, c⟩, ws', rfl, hs.trans ho.sub, ho.rd, fun i hi => (hw i hi).sub ho.sub⟩
end
end Go.Proofs.YtecodlefcmjihaaGreat
namespace Go.Proofs.YtecodlefcmjihaaGreat
open Go.RowKit
structure Quiet (N : Ngt) : Prop where
  t : 0 ≤ N.tick
  r : ∀ x ∈ N.rides, x.on = [] ∧ x.queue = [] ∧ 0 ≤ x.line
  p : ∀ x ∈ N.parties, x.g.came < N.tick ∧ x.comes = -1
theorem Quiet.bo {N : Ngt} (h : Quiet N) (i : Int) : (N.bo i).on = [] ∧ (N.bo i).queue = [] := by
  unfold Ngt.bo
  by_cases hi : i.toNat < N.rides.length
  · have e : N.rides.getD i.toNat Bth.d = N.rides[i.toNat] := by simp [List.getD, hi]
    rw [e]
    have := h.r _ (List.getElem_mem hi)
    exact ⟨this.1, this.2.1⟩
  · have e : N.rides.getD i.toNat Bth.d = Bth.d := by simp [List.getD, hi]
    rw [e]
    exact ⟨rfl, rfl⟩
theorem Quiet.pa {N : Ngt} (h : Quiet N) {g : Int} (hg : g.toNat < N.parties.length) : (N.pa g).g.came < N.tick ∧ (N.pa g).comes = -1 := by
  unfold Ngt.pa
  have e : N.parties.getD g.toNat Pty.d = N.parties[g.toNat] := by simp [List.getD, hg]
  rw [e]
  exact h.p _ (List.getElem_mem hg)
theorem Quiet.end_ {N : Ngt} (h : Quiet N) : N.end_ = N := by
  have e1 : ∀ x ∈ N.rides, x.ends N.tick = false := fun x hx => by
    unfold Bth.ends
    rw [(h.r x hx).1]
    rfl
  have e2 : N.offK N.rides.length = [] := by
    unfold Ngt.offK
    rw [List.take_length, List.flatMap_eq_nil_iff]
    intro x hx
    unfold Bth.off
    rw [e1 x hx, if_neg (by simp)]
  have e3 : N.endK N.rides.length = N := by
    unfold Ngt.endK
    rw [List.take_length, List.drop_length, List.append_nil]
    have : N.rides.map (Bth.end1 N.tick) = N.rides := by
      rw [List.map_congr_left (g := id)]
      · exact List.map_id _
      · intro x hx
        unfold Bth.end1
        rw [e1 x hx, if_neg (by simp)]
        rfl
    rw [this]
  unfold Ngt.end_ Ngt.off
  rw [e2, e3]
  rfl
theorem Quiet.come {N : Ngt} (h : Quiet N) : N.come = N := by
  have eA : (ints N.parties.length).filter N.isA = [] := by
    rw [List.filter_eq_nil_iff]
    intro g hg
    obtain ⟨g0, g1⟩ := ints_mem.1 hg
    have := (h.pa (g := g) (by omega)).1
    unfold Ngt.isA
    rw [decide_eq_true_eq]
    omega
  have eB : (ints N.parties.length).filter N.isB = [] := by
    rw [List.filter_eq_nil_iff]
    intro g hg
    obtain ⟨g0, g1⟩ := ints_mem.1 hg
    have := (h.pa (g := g) (by omega)).2
    have := h.t
    unfold Ngt.isB
    rw [decide_eq_true_eq]
    omega
  unfold Ngt.come
  rw [N.foldA, eA]
  show (List.range N.parties.length).foldl Ngt.comeB N = N
  rw [N.foldB, eB]
  rfl
theorem Quiet.leave {N : Ngt} (h : Quiet N) : N.leave = N := by
  have e2 : N.goneK N.rides.length = [] := by
    unfold Ngt.goneK
    rw [List.take_length, List.flatMap_eq_nil_iff]
    intro x hx
    rw [(h.r x hx).2.1]
    rfl
  have e3 : N.leaveK N.rides.length = N := by
    unfold Ngt.leaveK
    rw [List.take_length, List.drop_length, List.append_nil]
    have : N.rides.map N.stay1 = N.rides := by
      rw [List.map_congr_left (g := id)]
      · exact List.map_id _
      · intro x hx
        unfold Ngt.stay1
        have := (h.r x hx).2.1
        obtain ⟨b, on, begun, ended, queue, takes, line⟩ := x
        simp only at this
        subst this
        rfl
    rw [this]
  unfold Ngt.leave Ngt.gone
  rw [e2, e3]
  rfl
theorem Quiet.begins {N : Ngt} (h : Quiet N) : ∀ k, N.begins k = N
  | 0 => rfl
  | k + 1 => by
    have e1 : N.begins (k + 1) = (N.begins k).begin k := range_fold (f := fun (M : Ngt) (i : Nat) => M.begin i) (b := N) (k := k)
    rw [e1, h.begins k]
    unfold Ngt.begin
    rw [if_pos]
    unfold Ngt.shut
    rw [(h.bo k).2]
    simp
theorem Quiet.tick1 {N : Ngt} (h : Quiet N) : N.tick1 = N.setT (N.tick + 1) := by
  have e1 : N.rest = N := by unfold Ngt.rest; rw [h.end_, h.come, h.leave]
  rw [N.tick1_eq, e1, h.begins]
  congr 1
  unfold Ngt.lineK
  rw [List.take_length, List.drop_length, List.append_nil]
  have : N.rides.map N.line1 = N.rides := by
    rw [List.map_congr_left (g := id)]
    · exact List.map_id _
    · intro x hx
      obtain ⟨_, h2, h3⟩ := h.r x hx
      obtain ⟨b, on, begun, ended, queue, takes, line⟩ := x
      simp only at h2 h3
      subst h2
      have hl : (if line < (0 : Int) then (0 : Int) else line) = line := if_neg (by omega)
      show (⟨b, on, begun, ended, [], takes, if line < (0 : Int) then (0 : Int) else line⟩ : Bth) = _
      rw [hl]
      rfl
  rw [this]
theorem Quiet.next {N : Ngt} (h : Quiet N) : Quiet (N.setT (N.tick + 1)) := by
  have ht := h.t
  exact ⟨by show 0 ≤ N.tick + 1; omega, h.r, fun x hx => ⟨by have := (h.p x hx).1; show x.g.came < N.tick + 1; omega, (h.p x hx).2⟩⟩
theorem Quiet.run {w : Int} {B : List BthG} {G : List Grp} {k : Nat} (h : Quiet (Ngt.run w B G k)) : ∀ j, (Ngt.run w B G (k + j)).rides = (Ngt.run w B G k).rides ∧ (Ngt.run w B G (k + j)).parties = (Ngt.run w B G k).parties ∧ Quiet (Ngt.run w B G (k + j))
  | 0 => ⟨rfl, rfl, h⟩
  | j + 1 => by
    obtain ⟨h1, h2, h3⟩ := h.run j
    have e : Ngt.run w B G (k + (j + 1)) = (Ngt.run w B G (k + j)).setT ((Ngt.run w B G (k + j)).tick + 1) := h3.tick1
    rw [e]
    exact ⟨h1, h2, h3.next⟩
theorem Ngt.last_parties (N : Ngt) : N.last.parties = N.parties := rfl
theorem Ngt.last_rides (N : Ngt) : N.last.rides = N.rides := rfl
theorem Ngt.last_visits (N : Ngt) : N.last.visits = vsort N.visits := rfl
theorem played_parties (w : Int) (B : List BthG) (G : List Grp) : (Ngt.played w B G).parties = (Ngt.run w B G 4001).parties := Ngt.last_parties _
theorem played_rides (w : Int) (B : List BthG) (G : List Grp) : (Ngt.played w B G).rides = (Ngt.run w B G 4001).rides := Ngt.last_rides _
theorem played_visits (w : Int) (B : List BthG) (G : List Grp) : (Ngt.played w B G).visits = vsort (Ngt.run w B G 4001).visits := Ngt.last_visits _
end Go.Proofs.YtecodlefcmjihaaGreat
namespace Go.Proofs.YtecodlefcmjihaaGreat
open Go.RowKit
theorem OwnSl.less {e : TypeId} {ss : List Sh} {σ σ5 σ9 : Hp} {A : Option Addr} {n c : Nat} {xs : List (TyR ss)} (h : OwnSl e ss σ5 A n c xs σ9) (hs : Hp.Sub σ σ5) : ∃ σ', OwnSl e ss σ A n c xs σ' ∧ Hp.Sub σ' σ9 :=
  Port.less (R := fun σ σ' => OwnSl e ss σ A n c xs σ') Port.own h hs
theorem Ngt.last_stat {N : Ngt} {nr : Nat} {G : List Grp} (h : N.stat nr G) : N.last.stat nr G := h
theorem played_stat (w : Int) (B : List BthG) (G : List Grp) : (Ngt.played w B G).stat B.length G := Ngt.last_stat (Ngt.run_stat _)
section
variable {σ : Hp} {w : Int} {r l : SL} {B : List BthG} {ws : Nat → SL} {G : List Grp}
def ofL (c : Int) (xs : List Int) : List Int := if c = 0 then xs else []
theorem ofL_ok {c : Int} {xs : List Int} (h : c = 0) : ofL c xs = xs := if_pos h
theorem ofL_err {c : Int} {xs : List Int} (h : ¬ c = 0) : ofL c xs = [] := if_neg h
def OfI (σ : Hp) (c : Int) (xs : List Int) : Value → Hp → Prop := fun v σ' => ∃ s : SL, v = .tuple #[s.v, .int .i64 c] ∧ OwnSl 3 [.int .i64] σ s.A s.n s.c (ofL c xs) σ'
theorem c_of_party {fe fn : Value} {f : Pty → Int} {N : Ngt} (hr : EvR σ r B l ws G) (hP : Ngt.played w B G = N)
    (hE : ∀ (τ σ1 : Hp) (W : NW) (N : Ngt), NightR W σ1 τ N → cl Tryz.prog fe #[.pointer (some ⟨W.nb, 0, none⟩)] τ fun v τ' => v = W.p.v ∧ τ' = τ)
    (hN : ∀ (τ σ1 : Hp) (W : NW) (N : Ngt) (g : Int), NightR W σ1 τ N → g.toNat < N.parties.length → cl Tryz.prog fn #[.pointer (some ⟨W.pb g, 0, none⟩)] τ fun v τ' => v = .int .i64 (f (N.pa g)) ∧ τ' = τ) :
    FCalls Tryz.prog N_queue_of__queue_party #[.agg #[r.v, .int .i64 w], l.v, fe, fn] σ (OfI σ (chkQ w B G) (N.parties.map f)) := by
  have hst := played_stat w B G
  rw [hP] at hst
  refine M_queue_of__queue_party_ok _ _ _ _ _ _ _ _ _ _ _ ?_
  unfold M_queue_of__queue_party
  refine clI M_queue_Check_enter (c_Check hr) (bc_nd (fun h => rt_of ⟨⟨none, 0, 0⟩, rfl, ?_⟩) (fun h => ?_))
  · exact (congrArg (fun z : List Int => OwnSl 3 [.int .i64] σ none 0 0 z σ) (ofL_err h)).mpr (OwnSl.nil ..)
  have hv := chkQ_val h
  refine cut_intro fun J6 h6 => ?_
  refine cl_of M_queue_play_enter (c_play_val hr hv) ?_
  rintro v σ11 ⟨W, σ1, rfl, hs1, hS, hn⟩
  rw [hP] at hn
  refine ⟨_, rfl, ?_⟩
  refine FFun.mono (hE σ11 σ1 W N hn) ?_
  rintro _ τ2 ⟨rfl, e2⟩
  rw [e2]
  clear e2 τ2
  have hpl : W.p.n = N.parties.length := by rw [hS.p.1, ← hS.lp.trans hst.len.symm]; exact List.length_map ..
  have hvn := hv.n
  have hpn := hst.len
  refine ⟨_, _, _, rfl, ⟨fun m xs i τ => ∃ k : Nat, m = N.parties.length - k ∧ xs = (N.parties.take k).map f ∧ i = k ∧ k ≤ N.parties.length ∧ τ = σ11, ⟨_, adp_nil.2 ⟨0, rfl, rfl, rfl, by omega, rfl⟩⟩, ?_⟩⟩
  rintro m xs i τ ⟨k, rfl, rfl, rfl, hk, rfl⟩ _
  refine bc_d (fun hlt => ?_) (fun hlt => ?_)
  · have hkl : k < N.parties.length := by omega
    refine (hS.sub hn.sub).pix hst (by omega) (by simpa using hkl) ?_
    refine FFun.mono (hN τ σ1 W N k hn (by simpa using hkl)) ?_
    rintro _ _ ⟨rfl, rfl⟩
    refine ⟨_, rfl, roomy_i (by simp; omega) (wk_i (by omega) (bk_of (N.parties.length - (k + 1)) (by omega) ⟨k + 1, rfl, ?_, by omega, by omega, rfl⟩))⟩
    rw [List.take_succ_eq_append_getElem hkl, List.map_append]
    have : N.pa k = N.parties[k] := by simp [Ngt.pa, List.getD, hkl]
    rw [this]
    rfl
  · have : k = N.parties.length := by omega
    subst this
    rw [List.take_length, h6]
    intro _
    intro A8 l8 c8 σ9 o9
    obtain ⟨σ', o1, o2⟩ := o9.less (hs1.trans hn.sub)
    refine rt_sub o2 ⟨⟨A8, l8, c8⟩, by rw [h]; rfl, ?_⟩
    exact (congrArg (fun z : List Int => OwnSl 3 [.int .i64] σ A8 l8 c8 z σ') (ofL_ok h)).mpr o1
theorem c_of_booth {fe fn : Value} {f : Bth → Int} {N : Ngt} (hr : EvR σ r B l ws G) (hP : Ngt.played w B G = N)
    (hE : ∀ (τ σ1 : Hp) (W : NW) (N : Ngt), NightR W σ1 τ N → cl Tryz.prog fe #[.pointer (some ⟨W.nb, 0, none⟩)] τ fun v τ' => v = W.r.v ∧ τ' = τ)
    (hN : ∀ (τ σ1 : Hp) (W : NW) (N : Ngt) (g : Int), NightR W σ1 τ N → g.toNat < N.rides.length → cl Tryz.prog fn #[.pointer (some ⟨W.rb g, 0, none⟩)] τ fun v τ' => v = .int .i64 (f (N.bo g)) ∧ τ' = τ) :
    FCalls Tryz.prog N_queue_of__queue_booth #[.agg #[r.v, .int .i64 w], l.v, fe, fn] σ (OfI σ (chkQ w B G) (N.rides.map f)) := by
  have hst := played_stat w B G
  rw [hP] at hst
  refine M_queue_of__queue_booth_ok _ _ _ _ _ _ _ _ _ _ _ ?_
  unfold M_queue_of__queue_booth
  refine clI M_queue_Check_enter (c_Check hr) (bc_nd (fun h => rt_of ⟨⟨none, 0, 0⟩, rfl, ?_⟩) (fun h => ?_))
  · exact (congrArg (fun z : List Int => OwnSl 3 [.int .i64] σ none 0 0 z σ) (ofL_err h)).mpr (OwnSl.nil ..)
  have hv := chkQ_val h
  refine cut_intro fun J6 h6 => ?_
  refine cl_of M_queue_play_enter (c_play_val hr hv) ?_
  rintro v σ11 ⟨W, σ1, rfl, hs1, hS, hn⟩
  rw [hP] at hn
  refine ⟨_, rfl, ?_⟩
  refine FFun.mono (hE σ11 σ1 W N hn) ?_
  rintro _ τ2 ⟨rfl, e2⟩
  rw [e2]
  clear e2 τ2
  have hrl : W.r.n = N.rides.length := by rw [hS.r.1, ← hS.lr.trans hst.1.symm]; exact List.length_map ..
  have hvn := hv.m
  have hpn := hst.1
  refine ⟨_, _, _, rfl, ⟨fun m xs i τ => ∃ k : Nat, m = N.rides.length - k ∧ xs = (N.rides.take k).map f ∧ i = k ∧ k ≤ N.rides.length ∧ τ = σ11, ⟨_, adp_nil.2 ⟨0, rfl, rfl, rfl, by omega, rfl⟩⟩, ?_⟩⟩
  rintro m xs i τ ⟨k, rfl, rfl, rfl, hk, rfl⟩ _
  refine bc_d (fun hlt => ?_) (fun hlt => ?_)
  · have hkl : k < N.rides.length := by omega
    refine (hS.sub hn.sub).rix hst (by omega) (by simpa using hkl) ?_
    refine FFun.mono (hN τ σ1 W N k hn (by simpa using hkl)) ?_
    rintro _ _ ⟨rfl, rfl⟩
    refine ⟨_, rfl, roomy_i (by simp; omega) (wk_i (by omega) (bk_of (N.rides.length - (k + 1)) (by omega) ⟨k + 1, rfl, ?_, by omega, by omega, rfl⟩))⟩
    rw [List.take_succ_eq_append_getElem hkl, List.map_append]
    have : N.bo k = N.rides[k] := by simp [Ngt.bo, List.getD, hkl]
    rw [this]
    rfl
  · have : k = N.rides.length := by omega
    subst this
    rw [List.take_length, h6]
    intro _
    intro A8 l8 c8 σ9 o9
    obtain ⟨σ', o1, o2⟩ := o9.less (hs1.trans hn.sub)
    refine rt_sub o2 ⟨⟨A8, l8, c8⟩, by rw [h]; rfl, ?_⟩
    exact (congrArg (fun z : List Int => OwnSl 3 [.int .i64] σ A8 l8 c8 z σ') (ofL_ok h)).mpr o1
theorem e_parties (τ σ1 : Hp) (W : NW) (N : Ngt) (h : NightR W σ1 τ N) : cl Tryz.prog (.func (.func N_queue_parties) #[] #[]) #[.pointer (some ⟨W.nb, 0, none⟩)] τ fun v τ' => v = W.p.v ∧ τ' = τ := by
  refine FFun.func M_queue_parties_enter ?_
  refine M_queue_parties_ok _ _ _ ?_
  unfold M_queue_parties
  obtain ⟨v, hnb, _⟩ := h.nblk
  exact dr_i (bldS hnb rfl (rt_of ⟨rfl, rfl⟩))
theorem e_rides (τ σ1 : Hp) (W : NW) (N : Ngt) (h : NightR W σ1 τ N) : cl Tryz.prog (.func (.func N_queue_rides) #[] #[]) #[.pointer (some ⟨W.nb, 0, none⟩)] τ fun v τ' => v = W.r.v ∧ τ' = τ := by
  refine FFun.func M_queue_rides_enter ?_
  refine M_queue_rides_ok _ _ _ ?_
  unfold M_queue_rides
  obtain ⟨v, hnb, _⟩ := h.nblk
  exact dr_i (bldS hnb rfl (rt_of ⟨rfl, rfl⟩))
theorem e_held (τ σ1 : Hp) (W : NW) (N : Ngt) (g : Int) (h : NightR W σ1 τ N) (hg : g.toNat < N.parties.length) : cl Tryz.prog (.func (.func N_queue_Held_1) #[] #[]) #[.pointer (some ⟨W.pb g, 0, none⟩)] τ fun v τ' => v = .int .i64 (N.pa g).purse ∧ τ' = τ := by
  refine FFun.func M_queue_Held_1_enter ?_
  refine M_queue_Held_1_ok _ _ _ ?_
  unfold M_queue_Held_1
  exact dr_i (bldI (h.pblk hg) rfl (rt_of ⟨rfl, rfl⟩))
theorem e_takes (τ σ1 : Hp) (W : NW) (N : Ngt) (g : Int) (h : NightR W σ1 τ N) (hg : g.toNat < N.rides.length) : cl Tryz.prog (.func (.func N_queue_Takes_1) #[] #[]) #[.pointer (some ⟨W.rb g, 0, none⟩)] τ fun v τ' => v = .int .i64 (N.bo g).takes ∧ τ' = τ := by
  refine FFun.func M_queue_Takes_1_enter ?_
  refine M_queue_Takes_1_ok _ _ _ ?_
  unfold M_queue_Takes_1
  obtain ⟨o, q, hb, _⟩ := h.rblk hg
  exact dr_i (bldI hb rfl (rt_of ⟨rfl, rfl⟩))
theorem c_Held (hr : EvR σ r B l ws G) : FCalls Tryz.prog N_queue_Held #[.agg #[r.v, .int .i64 w], l.v] σ (OfI σ (chkQ w B G) ((Ngt.played w B G).parties.map Pty.purse)) := by
  refine M_queue_Held_ok _ _ _ _ _ _ _ _ _ ?_
  unfold M_queue_Held
  refine cl_of M_queue_of__queue_party_enter (c_of_party hr rfl e_parties e_held) ?_
  rintro v σ2 ⟨s, rfl, ho⟩
  exact ⟨_, _, _, _, rfl, rt_of ⟨s, rfl, ho⟩⟩
theorem c_Takes (hr : EvR σ r B l ws G) : FCalls Tryz.prog N_queue_Takes #[.agg #[r.v, .int .i64 w], l.v] σ (OfI σ (chkQ w B G) ((Ngt.played w B G).rides.map Bth.takes)) := by
  refine M_queue_Takes_ok _ _ _ _ _ _ _ _ _ ?_
  unfold M_queue_Takes
  refine cl_of M_queue_of__queue_booth_enter (c_of_booth hr rfl e_rides e_takes) ?_
  rintro v σ2 ⟨s, rfl, ho⟩
  exact ⟨_, _, _, _, rfl, rt_of ⟨s, rfl, ho⟩⟩
end
end Go.Proofs.YtecodlefcmjihaaGreat
