/- Texts Ga34 Gb4 Gb5: what the claims of this seat rest on; each text says what it proves. -/
import Derived.Test.YtmpkiaghkhhlhaaB14
import Derived.Test.YtmpkiaghkhhlhaaB15

/- Contracts of layer 4: IsWay, has; the cost of a way, from its head. No conditions but those that each theorem names. -/
namespace Go.Proofs.Ytmpkiaghkhhlhaa
open Go.RowKit

/-! ### Ways -/
structure IsW (g : Gnd) (op : List Bool) (w : List Int) : Prop where
  pos : 0 < w.length
  inr : ∀ i : Nat, i < w.length → (0 ≤ gt w i ∧ gt w i < g.C.length) ∧ gb op (gt w i) = true
  dis : ∀ i k : Nat, k < i → i < w.length → gt w k ≠ gt w i
  adj : ∀ i : Nat, i + 1 < w.length → gt w (i + 1 : Nat) ∈ g.nbr (gt w i)
theorem c_IsWay {σ : Hp} {x : GV} {g : Gnd} {bA wA : Option Addr} {bn bc0 wn wc : Nat} {op : List Bool} {w : List Int} (hg : GRd σ x g) (ho : g.okS = true) (hb : RdS [.bool] σ bA bn op) (hop : op.length = g.C.length) (hw : RdS [.int .i64] σ wA wn w) (hl : w.length ≤ 4294967296) :
    FCalls Try.prog N_ref04_IsWay #[x.v g, .slice bA bn bc0, .slice wA wn wc] σ fun v σ' => ∃ t : Bool, v = .bool t ∧ σ' = σ ∧ (t = true ↔ IsW g op w) := by
  refine M_ref04_IsWay_ok _ _ _ _ _ _ _ _ _ _ _ _ _ _ _ _ ?_
  unfold M_ref04_IsWay
  have hn := hw.lenI
  have hbn := hb.lenB
  obtain ⟨l1, l2, l3⟩ := Gnd.okS_len ho
  have no : ∀ {σ' : Hp}, σ' = σ → ¬ IsW g op w → rt σ' (fun v σ' => ∃ t : Bool, v = .bool t ∧ σ' = σ ∧ (t = true ↔ IsW g op w)) (.bool false) := fun e h => rt_of ⟨false, rfl, e, by simp [h]⟩
  refine cut_intro fun J3 h3 => ?_
  refine ⟨fun n i τ => ∃ k : Nat, n = w.length - k ∧ i = k ∧ k ≤ w.length ∧ τ = σ ∧ (∀ i : Nat, i < k → (0 ≤ gt w i ∧ gt w i < g.C.length) ∧ gb op (gt w i) = true) ∧ (∀ i j : Nat, j < i → i < k → gt w j ≠ gt w i) ∧ (∀ i : Nat, i + 1 < k → gt w (i + 1 : Nat) ∈ g.nbr (gt w i)), ⟨_, 0, rfl, rfl, by omega, rfl, fun i h => by omega, fun i j h h' => by omega, fun i h => by omega⟩, ?_⟩
  rintro n i τ ⟨k, rfl, rfl, hk, rfl, q1, q2, q3⟩ _
  refine bc_d (fun hlt => ?_) (fun hlt => ?_)
  · have hkl : k < w.length := by omega
    refine cut_intro fun J11 h11 => ?_
    have k11 : ((0 ≤ gt w k ∧ gt w k < g.C.length) ∧ gb op (gt w k) = true) → (∀ j : Nat, j < k → gt w j ≠ gt w k) → (0 < k → gt w k ∈ g.nbr (gt w (k - 1 : Nat))) → J11 τ := by
      intro r1 r2 r3
      rw [h11]
      intro _
      refine wk_i (by omega) (bk_of _ (by omega) ⟨k + 1, rfl, rfl, by omega, rfl, fun i hi => ?_, fun i j hj hi => ?_, fun i hi => ?_⟩)
      · by_cases e : i = k
        · rw [e]; exact r1
        · exact q1 i (by omega)
      · by_cases e : i = k
        · rw [e]; exact r2 j (by omega)
        · exact q2 i j hj (by omega)
      · by_cases e : i + 1 = k
        · have := r3 (by omega)
          rw [show k - 1 = i by omega] at this
          rw [e]; exact this
        · exact q3 i (by omega)
    refine cut_intro fun J17 h17 => ?_
    have k17 : ((0 ≤ gt w k ∧ gt w k < g.C.length) ∧ gb op (gt w k) = true) → J17 τ := by
      intro r1
      have k11 := k11 r1
      rw [h17]
      intro _
      refine cut_intro fun J20 h20 => ?_
      have k20 : (∀ j : Nat, j < k → gt w j ≠ gt w k) → J20 τ := by
        intro r2
        have k11 := k11 r2
        rw [h20]
        intro _
        refine bc_d (fun h0 => k11 fun h => by omega) (fun h0 => wk_i (by omega) ?_)
        have e1 : ((k : Int) - 1) = ((k - 1 : Nat) : Int) := by omega
        rw [e1]
        have r1' := (q1 (k - 1) (by omega)).1
        refine gixg hw (by omega) (by omega) ?_
        refine clL M_ref04_Neighbours_enter (c_Neighbours ho r1'.1 r1'.2) ?_
        have hnl := nbr_len (g := g) (c := gt w (k - 1 : Nat))
        show cut (α := Bool → Hp → Prop) _ _
        have hany : ((g.nbr (gt w (k - 1 : Nat))).any fun a => decide (a = gt w k)) = true ↔ gt w k ∈ g.nbr (gt w (k - 1 : Nat)) := by
          rw [List.any_eq_true]
          exact ⟨fun ⟨a, h1, h2⟩ => of_decide_eq_true h2 ▸ h1, fun h => ⟨_, h, decide_eq_true rfl⟩⟩
        have hadj : IsW g op w → gt w k ∈ g.nbr (gt w (k - 1 : Nat)) := fun hW => by
          have := hW.adj (k - 1) (by omega)
          rwa [show k - 1 + 1 = k by omega] at this
        generalize g.nbr (gt w (k - 1 : Nat)) = ns at *
        refine cut_intro fun J32 h32 => ?_
        have k32 : J32 (ns.any fun a => decide (a = gt w k)) τ := by
          rw [h32]
          intro _
          refine bc_nb (fun hf => no rfl fun hW => ?_) (fun ht => k11 fun _ => hany.1 ht)
          rw [hany.2 (hadj hW)] at hf
          cases hf
        refine ⟨fun m t j τ' => ∃ p : Nat, m = ns.length - p ∧ j = p ∧ p ≤ ns.length ∧ t = ((ns.take p).any fun a => decide (a = gt w k)) ∧ τ' = τ, ⟨_, 0, rfl, rfl, by omega, rfl, rfl⟩, ?_⟩
        rintro m t j τ' ⟨p, rfl, rfl, hp, rfl, rfl⟩ _
        refine bc_d (fun hlt2 => ?_) (fun hlt2 => ?_)
        · have hpl : p < ns.length := by omega
          have et : (ns.take (p + 1)).any (fun a => decide (a = gt w k)) = ((ns.take p).any (fun a => decide (a = gt w k)) || decide (gt ns p = gt w k)) := by
            rw [List.take_succ_eq_append_getElem hpl, List.any_append, gt_nat hpl]
            simp
          refine cut_intro fun J42 h42 => ?_
          have k42 : ∀ t, t = ((ns.take (p + 1)).any fun a => decide (a = gt w k)) → J42 t τ' := by
            rintro t rfl
            rw [h42]
            intro _
            exact wk_i (by omega) (bk_of _ (by omega) ⟨p + 1, rfl, rfl, by omega, rfl, rfl⟩)
          rw [et] at k42
          refine bc_b (fun ht => k42 _ ?_) (fun ht => ⟨by omega, by omega, lat_I (by omega) (by omega) (gixg hw (by omega) (by omega) (k42 _ ?_))⟩)
          · rw [ht]; rfl
          · rw [ht]; rfl
        · have : p = ns.length := by omega
          subst this
          rw [List.take_length]
          exact k32
      refine ⟨fun m j τ' => ∃ p : Nat, m = k - p ∧ j = p ∧ p ≤ k ∧ τ' = τ ∧ ∀ j : Nat, j < p → gt w j ≠ gt w k, ⟨_, 0, rfl, rfl, by omega, rfl, fun j h => by omega⟩, ?_⟩
      rintro m j τ' ⟨p, rfl, rfl, hp, rfl, hne⟩ _
      refine bc_d (fun hlt2 => ?_) (fun hlt2 => k20 fun j hj => hne j (by omega))
      refine gixg hw (by omega) (by omega) (gixg hw (by omega) (by omega) (bc_d (fun he => no rfl fun hW => hW.dis k p (by omega) hkl he) (fun hn2 => wk_i (by omega) (bk_of _ (by omega) ⟨p + 1, rfl, rfl, by omega, rfl, fun j hj => ?_⟩))))
      by_cases e : j = p
      · rw [e]; exact hn2
      · exact hne j (by omega)
    refine cut_intro fun J67 h67 => ?_
    have k67 : ∀ t, (t = false ↔ ((0 ≤ gt w k ∧ gt w k < g.C.length) ∧ gb op (gt w k) = true)) → J67 t τ := by
      intro t ht
      rw [h67]
      intro _
      refine bc_b (fun h => no rfl fun hW => ?_) (fun h => k17 (ht.1 h))
      have := ht.2 (hW.inr k hkl)
      rw [h] at this
      cases this
    refine gixg hw (by omega) (by omega) (wk_i (by omega) ?_)
    refine clB M_ref04_within_enter c_ref04_within ?_
    refine bc_nd (fun hn2 => k67 _ ⟨fun h => (by cases h), fun h => (by omega)⟩) (fun hy => ?_)
    refine gixg hw (by omega) (by omega) (bix hb (by omega) (by omega) (k67 _ ⟨fun h => ⟨⟨by omega, by omega⟩, by simpa using h⟩, fun h => by simp [h.2]⟩))
  · rw [h3]
    intro _
    have hkk : k = w.length := by omega
    subst hkk
    refine rt_of ⟨_, rfl, rfl, ?_⟩
    rw [decide_eq_true_eq]
    exact ⟨fun h => ⟨by omega, q1, q2, q3⟩, fun h => by have := h.pos; omega⟩
theorem c_has {σ : Hp} {A : Option Addr} {n c : Nat} {xs : List Int} {a : Int} (h : RdS [.int .i64] σ A n xs) (hl : xs.length ≤ 4294967296) :
    FCalls Try.prog N_law04_has #[.slice A n c, .int .i64 a] σ fun v σ' => v = .bool (decide (a ∈ xs)) ∧ σ' = σ := by
  refine M_law04_has_ok _ _ _ _ _ _ ?_
  unfold M_law04_has
  have hn := h.lenI
  refine cut_intro fun J3 h3 => ?_
  refine ⟨fun m i τ => ∃ k : Nat, m = xs.length - k ∧ i = k ∧ k ≤ xs.length ∧ τ = σ ∧ ∀ j : Nat, j < k → gt xs j ≠ a, ⟨_, 0, rfl, rfl, by omega, rfl, fun j h => by omega⟩, ?_⟩
  rintro m i τ ⟨k, rfl, rfl, hk, rfl, hne⟩ _
  refine bc_d (fun hlt => ?_) (fun hlt => ?_)
  · refine gixg h (by omega) (by omega) (bc_d (fun he => rt_of ⟨?_, rfl⟩) (fun hn2 => wk_i (by omega) (bk_of _ (by omega) ⟨k + 1, rfl, rfl, by omega, rfl, fun j hj => ?_⟩)))
    · rw [decide_eq_true]
      rw [← he]
      exact gt_mem (by omega)
    · by_cases e : j = k
      · rw [e]; exact hn2
      · exact hne j (by omega)
  · rw [h3]
    intro _
    refine rt_of ⟨?_, rfl⟩
    rw [decide_eq_false]
    intro hm
    obtain ⟨j, hj, e⟩ := List.getElem_of_mem hm
    exact hne j (by omega) (by rw [gt_nat hj]; exact e)

/-! ### The cost, from the head -/
def wcs (g : Gnd) : List Int → Int
  | [] => 0
  | [c] => g.drn c
  | c :: k :: r => g.drn c + g.stp c k + wcs g (k :: r)
theorem gt_succ {c : Int} {w : List Int} {k : Nat} : gt (c :: w) (k + 1 : Nat) = gt w k := by simp [gt]
theorem gt_zero {c : Int} {w : List Int} : gt (c :: w) (0 : Nat) = c := by simp [gt]
theorem costK_cons {g : Gnd} {c : Int} {w : List Int} : ∀ k : Nat, g.costK (c :: w) (k + 1) = g.drn c + (if 0 < k then g.stp c (gt w (0 : Nat)) else 0) + g.costK w k
  | 0 => by simp [Gnd.costK, gt]
  | k + 1 => by
    have ih := costK_cons (g := g) (c := c) (w := w) k
    have e1 : g.costK (c :: w) (k + 1 + 1) = g.costK (c :: w) (k + 1) + g.drn (gt w k) + g.stp (gt (c :: w) k) (gt w k) := by
      rw [Gnd.costK, if_pos (Nat.succ_pos _), Nat.add_sub_cancel, gt_succ]
    have e2 : g.costK w (k + 1) = g.costK w k + g.drn (gt w k) + if 0 < k then g.stp (gt w (k - 1 : Nat)) (gt w k) else 0 := rfl
    rw [e1, ih, e2, if_pos (Nat.succ_pos k)]
    rcases Nat.eq_zero_or_pos k with rfl | hk
    · rw [if_neg (Nat.lt_irrefl 0), if_neg (Nat.lt_irrefl 0), gt_zero]
      omega
    · rw [if_pos hk, if_pos hk]
      obtain ⟨j, rfl⟩ : ∃ j, k = j + 1 := ⟨k - 1, by omega⟩
      rw [gt_succ, Nat.add_sub_cancel]
      omega
theorem cost_wcs {g : Gnd} : ∀ w : List Int, g.costK w w.length = wcs g w
  | [] => rfl
  | [c] => by simp [Gnd.costK, wcs, gt]
  | c :: k :: r => by
    have ih := cost_wcs (g := g) (k :: r)
    rw [List.length_cons, costK_cons, if_pos (by simp), wcs, ih, gt_zero]
end Go.Proofs.Ytmpkiaghkhhlhaa

/- The plain law of the cheapest way: the way of the rounds is a way of their cost, no way is cheaper, and none of the same cost comes before it; to and back cost the same. No program in sight. -/
namespace Go.Proofs.Ytmpkiaghkhhlhaa
open Go.RowKit

/-! ### Chains -/
def Ch (g : Gnd) (op : Int → Bool) : List Int → Prop
  | [] => False
  | [c] => (0 ≤ c ∧ c < g.C.length) ∧ op c = true
  | c :: k :: r => ((0 ≤ c ∧ c < g.C.length) ∧ op c = true) ∧ k ∈ g.nbr c ∧ Ch g op (k :: r)
def lst : List Int → Int
  | [] => 0
  | [c] => c
  | _ :: k :: r => lst (k :: r)
variable {g : Gnd} {op : Int → Bool}
theorem Ch.head {c : Int} : ∀ {r : List Int}, Ch g op (c :: r) → (0 ≤ c ∧ c < g.C.length) ∧ op c = true
  | [], h => h
  | _ :: _, h => h.1
theorem lst_gt : ∀ {w : List Int}, 0 < w.length → gt w (w.length - 1 : Nat) = lst w
  | [], h => by simp at h
  | [c], _ => by simp [gt, lst]
  | c :: k :: r, _ => by
    rw [lst, ← lst_gt (w := k :: r) (by simp)]
    exact gt_succ (c := c) (w := k :: r) (k := r.length)
theorem IsW.ch {o : List Bool} : ∀ {w : List Int}, IsW g o w → Ch g (gb o) w
  | [], h => by have := h.pos; simp at this
  | [c], h => by
    have := h.inr 0 (by simp)
    rwa [gt_zero] at this
  | c :: k :: r, h => by
    have h0 := h.inr 0 (by simp)
    have h1 := h.adj 0 (by simp)
    rw [gt_zero] at h0
    rw [show (((0 + 1 : Nat) : Int)) = ((0 + 1 : Nat) : Int) from rfl, gt_succ, gt_zero, gt_zero] at h1
    refine ⟨h0, h1, IsW.ch (w := k :: r) ⟨by simp, fun i hi => ?_, fun i j hj hi => ?_, fun i hi => ?_⟩⟩
    · have := h.inr (i + 1) (by simpa using hi)
      rwa [gt_succ] at this
    · have := h.dis (i + 1) (j + 1) (by omega) (by simpa using hi)
      rwa [gt_succ, gt_succ] at this
    · have := h.adj (i + 1) (by simpa using hi)
      rwa [gt_succ, gt_succ] at this
theorem Ch.isW {o : List Bool} {X : List Int} : ∀ {w : List Int}, Ch g (gb o) w → w.Pairwise (fun a b => gt X b < gt X a) → IsW g o w
  | [], h, _ => h.elim
  | [c], h, _ => ⟨by simp, fun i hi => by
      have : i = 0 := by simpa using hi
      subst this
      rw [gt_zero]; exact h, fun i j hj hi => by (have : i = 0 := by simpa using hi); omega, fun i hi => by simp at hi⟩
  | c :: k :: r, h, hp => by
    rw [List.pairwise_cons] at hp
    have ih := Ch.isW h.2.2 hp.2
    refine ⟨by simp, fun i hi => ?_, fun i j hj hi => ?_, fun i hi => ?_⟩
    · cases i with
      | zero => rw [gt_zero]; exact h.1
      | succ i => rw [gt_succ]; exact ih.inr i (by simpa using hi)
    · obtain ⟨i, rfl⟩ : ∃ i', i = i' + 1 := ⟨i - 1, by omega⟩
      have hi' : i < (k :: r).length := by simpa using hi
      cases j with
      | zero =>
        rw [gt_zero, gt_succ]
        have := hp.1 _ (gt_mem hi')
        intro e
        rw [← e] at this
        omega
      | succ j => rw [gt_succ, gt_succ]; exact ih.dis i j (by omega) hi'
    · cases i with
      | zero => rw [gt_succ, gt_zero, gt_zero]; exact h.2.1
      | succ i => rw [gt_succ, gt_succ]; exact ih.adj i (by simpa using hi)

/-! ### No chain is cheaper -/
theorem Ch.ge {to : Int} {X : List Int} (hX : CInv g op to X) (hF : Fix g op X) : ∀ {c : Int} {r : List Int}, Ch g op (c :: r) → lst (c :: r) = to → 0 ≤ gt X c ∧ gt X c ≤ wcs g (c :: r)
  | c, [], _, e => by
    have e : c = to := e
    have := hX.tov
    have := drn_in (g := g) (c := to)
    subst e
    rw [wcs]
    omega
  | c, k :: r, h, e => by
    obtain ⟨i1, i2⟩ := Ch.ge hX hF h.2.2 e
    have := hF c h.1.1.1 h.1.1.2 h.1.2 k h.2.1 h.2.2.head.2 i1
    rw [wcs]
    omega

/-! ### The way of the rounds -/
theorem pair4 {a b c d : Int} {p q r s : Prop} [Decidable p] [Decidable q] [Decidable r] [Decidable s] (h1 : p → q → a < b) (h2 : p → r → a < c) (h3 : p → s → a < d) (h4 : q → r → b < c) (h5 : q → s → b < d) (h6 : r → s → c < d) : (((ifL p [a] ++ ifL q [b]) ++ ifL r [c]) ++ ifL s [d]).Pairwise (· < ·) := by
  unfold ifL
  by_cases hp : p <;> by_cases hq : q <;> by_cases hr : r <;> by_cases hs : s <;> simp [hp, hq, hr, hs] <;> simp_all
theorem nbr_asc (ho : g.okS = true) {c : Int} (h0 : 0 ≤ c) (h1 : c < g.C.length) : (g.nbr c).Pairwise (· < ·) := by
  obtain ⟨m0, m1, d0, d1, e⟩ := Gnd.xy ho h0 (by omega)
  unfold Gnd.nbr
  exact pair4 (fun _ _ => by omega) (fun _ _ => by omega) (fun _ _ => by omega) (fun _ _ => by omega) (fun _ _ => by omega) (fun _ _ => by omega)
theorem nxt_is {to : Int} {X : List Int} (hok : g.ok = true) (hX : CInv g op to X) (hF : Fix g op X) {c : Int} (h0 : 0 ≤ c) (h1 : c < g.C.length) (hne : c ≠ to) (hc : 0 ≤ gt X c) :
    nxt g op X c ∈ g.nbr c ∧ wayP g op X c (nxt g op X c) = true ∧ ∀ k ∈ g.nbr c, wayP g op X c k = true → nxt g op X c ≤ k := by
  obtain ⟨w1, _⟩ := nxt_ok hok hX hF h0 h1 hne hc
  have hasc := nbr_asc (Gnd.ok.s hok) h0 h1
  unfold nxt
  unfold fidx at w1 ⊢
  split at w1
  · rename_i hlt
    rw [if_pos hlt, gt_nat hlt]
    refine ⟨List.getElem_mem _, List.findIdx_getElem, fun k hk hp => ?_⟩
    obtain ⟨j, hj, rfl⟩ := List.getElem_of_mem hk
    have : ¬ j < List.findIdx (wayP g op X c) (g.nbr c) := fun hj2 => by
      have := List.not_of_lt_findIdx hj2
      rw [hp] at this
      simp at this
    rcases Nat.lt_or_eq_of_le (Nat.not_lt.1 this) with h | h
    · exact Int.le_of_lt (List.pairwise_iff_getElem.1 hasc _ _ _ _ h)
    · simp [h]
  · omega
theorem wayF_head {to : Int} {X : List Int} {f : Nat} {c : Int} : ∃ r, wayF g op X to f c = c :: r := by
  cases f with
  | zero => exact ⟨_, rfl⟩
  | succ f =>
    rw [wayF]
    split
    · exact ⟨_, rfl⟩
    · exact ⟨_, rfl⟩
theorem wayF_ok {to : Int} {X : List Int} (hok : g.ok = true) (hX : CInv g op to X) (hF : Fix g op X) : ∀ (f : Nat) (c : Int), 0 ≤ c → c < g.C.length → 0 ≤ gt X c → (gt X c).toNat ≤ f →
    Ch g op (wayF g op X to f c) ∧ lst (wayF g op X to f c) = to ∧ wcs g (wayF g op X to f c) = gt X c ∧ (wayF g op X to f c).Pairwise (fun a b => gt X b < gt X a) ∧ ∀ a ∈ wayF g op X to f c, gt X a ≤ gt X c := by
  intro f
  induction f with
  | zero =>
    intro c h0 h1 hc hf
    have e : c = to := by
      apply Classical.byContradiction
      intro hne
      obtain ⟨_, _, _, w4, w5⟩ := nxt_ok hok hX hF h0 h1 hne hc
      omega
    have := hX.opn c h0 h1 hc
    have h2 := hX.tov
    subst e
    exact ⟨⟨⟨h0, h1⟩, this⟩, rfl, by rw [wayF, wcs, h2], by simp [wayF], fun a ha => by simp [wayF] at ha; rw [ha]; exact Int.le_refl _⟩
  | succ f ih =>
    intro c h0 h1 hc hf
    rw [wayF]
    by_cases e : c = to
    · have := hX.opn c h0 h1 hc
      have h2 := hX.tov
      rw [if_pos e]
      subst e
      exact ⟨⟨⟨h0, h1⟩, this⟩, rfl, by rw [wcs, h2], by simp, fun a ha => by simp at ha; rw [ha]; exact Int.le_refl _⟩
    · rw [if_neg e]
      obtain ⟨_, _, w3, w4, w5⟩ := nxt_ok hok hX hF h0 h1 e hc
      obtain ⟨n1, n2, _⟩ := nxt_is hok hX hF h0 h1 e hc
      obtain ⟨i1, i2, i3, i4, i5⟩ := ih (nxt g op X c) w3.1 w3.2 w4 (by omega)
      obtain ⟨r, er⟩ := wayF_head (g := g) (op := op) (X := X) (to := to) (f := f) (c := nxt g op X c)
      unfold wayP at n2
      simp only [Bool.and_eq_true, decide_eq_true_eq] at n2
      refine ⟨?_, ?_, ?_, ?_, ?_⟩
      · rw [er] at i1 ⊢
        exact ⟨⟨⟨h0, h1⟩, hX.opn c h0 h1 hc⟩, n1, i1⟩
      · rw [er] at i2 ⊢
        exact i2
      · rw [er] at i3 ⊢
        rw [wcs, i3]
        omega
      · rw [List.pairwise_cons]
        exact ⟨fun a ha => by have := i5 a ha; omega, i4⟩
      · intro a ha
        rcases List.mem_cons.1 ha with rfl | ha
        · exact Int.le_refl _
        · have := i5 a ha
          omega
theorem wayF_first {to : Int} {X : List Int} (hok : g.ok = true) (hX : CInv g op to X) (hF : Fix g op X) : ∀ (f : Nat) (c : Int) (r : List Int), Ch g op (c :: r) → lst (c :: r) = to → wcs g (c :: r) = gt X c → (gt X c).toNat ≤ f →
    ∀ i : Nat, i < (wayF g op X to f c).length → i < (c :: r).length → (∀ j : Nat, j < i → gt (wayF g op X to f c) j = gt (c :: r) j) → gt (wayF g op X to f c) i ≠ gt (c :: r) i → gt (wayF g op X to f c) i < gt (c :: r) i := by
  intro f
  induction f with
  | zero =>
    intro c r hch hl hw hf i hi1 hi2 hpre hne
    have : i = 0 := by simpa [wayF] using hi1
    subst this
    rw [gt_zero, wayF, gt_zero] at hne
    exact absurd rfl hne
  | succ f ih =>
    intro c r hch hl hw hf i hi1 hi2 hpre hne
    rw [wayF] at hi1 hpre hne ⊢
    cases i with
    | zero =>
      split at hne
      · rw [gt_zero, gt_zero] at hne; exact absurd rfl hne
      · rw [gt_zero, gt_zero] at hne; exact absurd rfl hne
    | succ i =>
      by_cases e : c = to
      · rw [if_pos e] at hi1
        simp at hi1
      · rw [if_neg e] at hi1 hpre hne ⊢
        match r, hch, hl, hw, hi2, hpre, hne with
        | [], _, _, _, hi2, _, _ => simp at hi2
        | k :: r, hch, hl, hw, hi2, hpre, hne =>
          have hc := Ch.ge hX hF hch hl
          obtain ⟨j1, j2⟩ := Ch.ge hX hF hch.2.2 hl
          have hfx := hF c hch.1.1.1 hch.1.1.2 hch.1.2 k hch.2.1 hch.2.2.head.2 j1
          rw [wcs] at hw
          have hp : wayP g op X c k = true := by
            unfold wayP
            rw [hch.2.2.head.2, decide_eq_true j1, decide_eq_true (by omega)]
            rfl
          obtain ⟨n1, n2, n3⟩ := nxt_is hok hX hF hch.1.1.1 hch.1.1.2 e hc.1
          obtain ⟨_, _, w3, w4, w5⟩ := nxt_ok hok hX hF hch.1.1.1 hch.1.1.2 e hc.1
          have hle := n3 k hch.2.1 hp
          obtain ⟨s, es⟩ := wayF_head (g := g) (op := op) (X := X) (to := to) (f := f) (c := nxt g op X c)
          rw [gt_succ, gt_succ] at hne ⊢
          by_cases ek : nxt g op X c = k
          · have hpre' : ∀ j : Nat, j < i → gt (wayF g op X to f k) j = gt (k :: r) j := fun j hj => by
              have := hpre (j + 1) (by omega)
              rwa [gt_succ, gt_succ, ek] at this
            rw [ek] at hne hi1 ⊢
            exact ih k r hch.2.2 hl (by omega) (by rw [← ek]; omega) i (by simpa using hi1) (by simpa using hi2) hpre' hne
          · cases i with
            | zero =>
              rw [es, gt_zero, gt_zero]
              omega
            | succ i =>
              have := hpre 1 (by omega)
              rw [show (((1 : Nat) : Int)) = ((0 + 1 : Nat) : Int) from rfl, gt_succ, gt_succ, es, gt_zero, gt_zero] at this
              exact absurd this ek

/-! ### Backwards -/
theorem stp_symm {a b : Int} : g.stp a b = g.stp b a := by
  unfold Gnd.stp
  split <;> split <;> omega
theorem wcs_snoc {c : Int} : ∀ {w : List Int}, 0 < w.length → wcs g (w ++ [c]) = wcs g w + g.stp (lst w) c + g.drn c
  | [], h => by simp at h
  | [a], _ => by
    show g.drn a + g.stp a c + g.drn c = _
    rw [wcs, lst]
  | a :: b :: r, _ => by
    have ih := wcs_snoc (c := c) (w := b :: r) (by simp)
    show g.drn a + g.stp a b + wcs g (b :: r ++ [c]) = _
    rw [ih, wcs, lst]
    omega
theorem lst_snoc {c : Int} : ∀ {w : List Int}, lst (w ++ [c]) = c
  | [] => rfl
  | [_] => rfl
  | _ :: b :: r => lst_snoc (w := b :: r)
theorem Ch.snoc {c : Int} (hc : (0 ≤ c ∧ c < g.C.length) ∧ op c = true) : ∀ {w : List Int}, Ch g op w → c ∈ g.nbr (lst w) → Ch g op (w ++ [c])
  | [], h, _ => h.elim
  | [_], h, hm => ⟨h, hm, hc⟩
  | _ :: b :: r, h, hm => ⟨h.1, h.2.1, Ch.snoc hc (w := b :: r) h.2.2 hm⟩
theorem Ch.rev (ho : g.okS = true) : ∀ {c : Int} {r : List Int}, Ch g op (c :: r) → Ch g op (c :: r).reverse ∧ wcs g (c :: r).reverse = wcs g (c :: r) ∧ lst (c :: r).reverse = c ∧ ∃ s, (c :: r).reverse = lst (c :: r) :: s
  | c, [], h => ⟨h, rfl, rfl, ⟨_, rfl⟩⟩
  | c, k :: r, h => by
    obtain ⟨i1, i2, i3, s, i4⟩ := Ch.rev ho h.2.2
    rw [List.reverse_cons]
    refine ⟨Ch.snoc h.1 i1 ?_, ?_, lst_snoc, s ++ [c], ?_⟩
    · rw [i3]
      exact nbr_symm ho h.1.1.1 h.1.1.2 h.2.1
    · rw [wcs_snoc (by simp), i2, i3, wcs, stp_symm]
      omega
    · rw [i4]
      rfl
end Go.Proofs.Ytmpkiaghkhhlhaa

/- The plain law of Cable: what it hands back, and how it stands to all ways. No program in sight. -/
namespace Go.Proofs.Ytmpkiaghkhhlhaa
open Go.RowKit

section
variable {g : Gnd} {l : List Pit} {st : List Sit} {a b : Int}
theorem cab_rnds (h : (chkS g l st).2 = 0) (b0 : 0 ≤ b) (b1 : b < g.C.length) (hb : gb (g.opn l st) b = true) :
    CInv g (gb (g.opn l st)) b (rnds g (gb (g.opn l st)) g.C.length (ini g b)) ∧ Fix g (gb (g.opn l st)) (rnds g (gb (g.opn l st)) g.C.length (ini g b)) ∧ ∀ c, gt (rnds g (gb (g.opn l st)) g.C.length (ini g b)) c ≤ 6656 := by
  obtain ⟨_, hG, _⟩ := chkS_ok h
  have hok := hG.ok
  obtain ⟨i1, i2⟩ := ini_inv (op := gb (g.opn l st)) b0 b1 hb
  refine ⟨rnds_inv hok b0 i1 _, rnds_fix hok b0 i1 i2, fun c => ?_⟩
  have h1 := rnds_bd hok b0 i1 i2 g.C.length c
  have h2 := fin_le (g := g) (X := rnds g (gb (g.opn l st)) g.C.length (ini g b))
  obtain ⟨l1, l2, l3⟩ := Gnd.okS_len hG.s
  omega
/-- a chain from a to b: there is a way, it costs no more, and at the same cost it comes first -/
theorem cab_chain (h : (chkS g l st).2 = 0) {r : List Int} (hc : Ch g (gb (g.opn l st)) (a :: r)) (hl : lst (a :: r) = b) (hb : (0 ≤ b ∧ b < g.C.length) ∧ gb (g.opn l st) b = true) :
    (cabS g l st a b).2.2 = 0 ∧ (cabS g l st a b).2.1 ≤ wcs g (a :: r) ∧ (wcs g (a :: r) = (cabS g l st a b).2.1 → ∀ i : Nat, i < (cabS g l st a b).1.length → i < (a :: r).length → (∀ j : Nat, j < i → gt (cabS g l st a b).1 j = gt (a :: r) j) → gt (cabS g l st a b).1 i ≠ gt (a :: r) i → gt (cabS g l st a b).1 i < gt (a :: r) i) := by
  obtain ⟨_, hG, _⟩ := chkS_ok h
  have hok := hG.ok
  obtain ⟨r1, r2, r3⟩ := cab_rnds h hb.1.1 hb.1.2 hb.2
  have ha := hc.head
  obtain ⟨g1, g2⟩ := hc.ge r1 r2 hl
  have e : cabS g l st a b = (wayF g (gb (g.opn l st)) (rnds g (gb (g.opn l st)) g.C.length (ini g b)) b 7000 a, gt (rnds g (gb (g.opn l st)) g.C.length (ini g b)) a, 0) := by
    rw [cabS, if_neg (by rw [h]; simp), if_neg (fun hn => hn ⟨by omega, by omega, ha.2, hb.2⟩), if_neg (by omega)]
  rw [e]
  have := r3 a
  exact ⟨rfl, g2, fun hw => wayF_first hok r1 r2 7000 a r hc hl hw (by omega)⟩
/-- what is handed back is a way of that cost -/
theorem cab_way (h : (chkS g l st).2 = 0) (he : (cabS g l st a b).2.2 = 0) :
    IsW g (g.opn l st) (cabS g l st a b).1 ∧ ((0 ≤ b ∧ b < g.C.length) ∧ gb (g.opn l st) b = true) ∧ ∃ r, (cabS g l st a b).1 = a :: r ∧ Ch g (gb (g.opn l st)) (a :: r) ∧ lst (a :: r) = b ∧ wcs g (a :: r) = (cabS g l st a b).2.1 := by
  obtain ⟨_, hG, _⟩ := chkS_ok h
  have hok := hG.ok
  rw [cabS, if_neg (by rw [h]; simp)] at he ⊢
  split at he
  · cases he
  · rename_i hn
    rw [if_neg hn]
    have hn := Classical.not_not.1 hn
    obtain ⟨r1, r2, r3⟩ := cab_rnds h hn.2.1.1 (by omega) hn.2.2.2
    split at he
    · cases he
    · rename_i hp
      rw [if_neg hp]
      have := r3 a
      obtain ⟨w1, w2, w3, w4, _⟩ := wayF_ok hok r1 r2 7000 a hn.1.1 (by omega) (by omega) (by omega)
      obtain ⟨r, er⟩ := wayF_head (g := g) (op := gb (g.opn l st)) (X := rnds g (gb (g.opn l st)) g.C.length (ini g b)) (to := b) (f := 7000) (c := a)
      refine ⟨w1.isW w4, ⟨⟨hn.2.1.1, by omega⟩, hn.2.2.2⟩, r, er, ?_⟩
      rw [er] at w1 w2 w3
      exact ⟨w1, w2, w3⟩
/-- back it costs no more -/
theorem cab_back (h : (chkS g l st).2 = 0) (he : (cabS g l st a b).2.2 = 0) : (cabS g l st b a).2.2 = 0 ∧ (cabS g l st b a).2.1 ≤ (cabS g l st a b).2.1 := by
  obtain ⟨_, hG, _⟩ := chkS_ok h
  obtain ⟨_, hb, r, er, w1, w2, w3⟩ := cab_way h he
  obtain ⟨i1, i2, i3, s, i4⟩ := w1.rev hG.s
  rw [w2] at i4
  rw [i4] at i1 i2 i3
  obtain ⟨q1, q2, _⟩ := cab_chain h i1 i3 w1.head
  exact ⟨q1, by omega⟩
theorem cab_code (h : (chkS g l st).2 = 0) : (cabS g l st a b).2.2 = 0 ∨ (cabS g l st a b).2.2 = 1 ∨ (cabS g l st a b).2.2 = 3 := by
  rw [cabS, if_neg (by rw [h]; simp)]
  split
  · exact .inr (.inl rfl)
  · split
    · exact .inr (.inr rfl)
    · exact .inl rfl
theorem cab_arg (h : (chkS g l st).2 = 0) : (cabS g l st a b).2.2 = 1 ↔ ¬ ((0 ≤ a ∧ a ≤ (g.C.length : Int) - 1) ∧ (0 ≤ b ∧ b ≤ (g.C.length : Int) - 1) ∧ gb (g.opn l st) a = true ∧ gb (g.opn l st) b = true) := by
  rw [cabS, if_neg (by rw [h]; simp)]
  split
  · rename_i hn
    exact ⟨fun _ => hn, fun _ => rfl⟩
  · rename_i hn
    refine ⟨fun he => ?_, fun hq => absurd hq hn⟩
    split at he <;> cases he
theorem cab_symm (h : (chkS g l st).2 = 0) (hne : (cabS g l st a b).2.2 = 0 ∨ (cabS g l st a b).2.2 = 3) : (cabS g l st b a).2.2 = (cabS g l st a b).2.2 ∧ ((cabS g l st a b).2.2 = 0 → (cabS g l st b a).2.1 = (cabS g l st a b).2.1) := by
  rcases hne with he | he
  · obtain ⟨q1, q2⟩ := cab_back h he
    obtain ⟨p1, p2⟩ := cab_back h q1
    exact ⟨by rw [q1, he], fun _ => by omega⟩
  · rcases cab_code (a := b) (b := a) h with h1 | h1 | h1
    · obtain ⟨q1, _⟩ := cab_back h h1
      omega
    · have h2 := cab_arg (a := b) (b := a) h
      have h3 := cab_arg (a := a) (b := b) h
      have h4 := h2.1 h1
      have := h3.2 fun ⟨x1, x2, x3, x4⟩ => h4 ⟨x2, x1, x4, x3⟩
      omega
    · exact ⟨by rw [h1, he], fun h0 => by omega⟩
end
end Go.Proofs.Ytmpkiaghkhhlhaa

