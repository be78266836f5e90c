/- Texts Gc1 Gc2 Ga20 Ga21 Ga22 Ga23 Ga24: what the claims of this seat rest on; each text says what it proves. -/
import Derived.Test.YtmpkiaghkhhlhaaB14

/- Plain law of layer 4: how far it is from each cell: the labels by layers are the only ones that fit. No program in sight. -/
namespace Go.Proofs.Ytmpkiaghkhhlhaa
open Go.RowKit

theorem mem_nbr {g : Gnd} {c a : Int} : a ∈ g.nbr c ↔ (0 < Int.tdiv c g.W ∧ a = c - g.W) ∨ (0 < Int.tmod c g.W ∧ a = c - 1) ∨ (Int.tmod c g.W + 1 < g.W ∧ a = c + 1) ∨ (Int.tdiv c g.W + 1 < g.H ∧ a = c + g.W) := by
  unfold Gnd.nbr ifL
  by_cases h1 : 0 < Int.tdiv c g.W <;> by_cases h2 : 0 < Int.tmod c g.W <;> by_cases h3 : Int.tmod c g.W + 1 < g.W <;> by_cases h4 : Int.tdiv c g.W + 1 < g.H <;> simp [h1, h2, h3, h4]
theorem xy_uniq {W x y x' y' : Int} (hx : 0 ≤ x ∧ x < W) (hx' : 0 ≤ x' ∧ x' < W) (h : y * W + x = y' * W + x') : y = y' ∧ x = x' := by
  have hd : (y - y') * W = x' - x := by rw [Int.sub_mul]; omega
  have h0 : y - y' = 0 := by
    rcases Int.lt_trichotomy (y - y') 0 with hl | he | hg
    · have : (y - y') * W ≤ -1 * W := Int.mul_le_mul_of_nonneg_right (by omega) (by omega)
      omega
    · exact he
    · have : 1 * W ≤ (y - y') * W := Int.mul_le_mul_of_nonneg_right (by omega) (by omega)
      omega
  rw [h0] at hd
  omega
theorem nbr_symm {g : Gnd} (ho : g.okS = true) {c a : Int} (h0 : 0 ≤ c) (h1 : c < g.C.length) (ha : a ∈ g.nbr c) : c ∈ g.nbr a := by
  obtain ⟨a0, a1⟩ := nbr_in ho h0 h1 a ha
  obtain ⟨m0, m1, d0, d1, e⟩ := Gnd.xy ho h0 (by omega)
  obtain ⟨m0', m1', d0', d1', e'⟩ := Gnd.xy ho a0 (by omega)
  rw [mem_nbr] at ha ⊢
  generalize Int.tmod c g.W = x at *
  generalize Int.tdiv c g.W = y at *
  generalize Int.tmod a g.W = x' at *
  generalize Int.tdiv a g.W = y' at *
  rcases ha with ⟨h, hac⟩ | ⟨h, hac⟩ | ⟨h, hac⟩ | ⟨h, hac⟩
  · obtain ⟨q1, q2⟩ := xy_uniq (W := g.W) (x := x') (y := y') (x' := x) (y' := y - 1) ⟨m0', m1'⟩ ⟨m0, m1⟩ (by rw [Int.sub_mul]; omega)
    exact .inr (.inr (.inr ⟨by omega, by omega⟩))
  · obtain ⟨q1, q2⟩ := xy_uniq (W := g.W) (x := x') (y := y') (x' := x - 1) (y' := y) ⟨m0', m1'⟩ ⟨by omega, by omega⟩ (by omega)
    exact .inr (.inr (.inl ⟨by omega, by omega⟩))
  · obtain ⟨q1, q2⟩ := xy_uniq (W := g.W) (x := x') (y := y') (x' := x + 1) (y' := y) ⟨m0', m1'⟩ ⟨by omega, by omega⟩ (by omega)
    exact .inr (.inl ⟨by omega, by omega⟩)
  · obtain ⟨q1, q2⟩ := xy_uniq (W := g.W) (x := x') (y := y') (x' := x) (y' := y + 1) ⟨m0', m1'⟩ ⟨m0, m1⟩ (by rw [Int.add_mul]; omega)
    exact .inl ⟨by omega, by omega⟩

/-- right labels -/
structure Lab (g : Gnd) (op : Int → Bool) (X : List Int) : Prop where
  len : X.length = g.C.length
  lo : ∀ c : Int, 0 ≤ c → c < g.C.length → -1 ≤ gt X c
  isop : ∀ c : Int, 0 ≤ c → c < g.C.length → 0 ≤ gt X c → op c = true
  zero : ∀ c : Int, 0 ≤ c → c < g.C.length → (gt X c = 0 ↔ op c = true ∧ gt g.C c = 3)
  pre : ∀ c : Int, 0 ≤ c → c < g.C.length → 0 < gt X c → ∃ n ∈ g.nbr c, gt X n = gt X c - 1
  step : ∀ c : Int, 0 ≤ c → c < g.C.length → op c = true → ∀ n ∈ g.nbr c, 0 ≤ gt X n → 0 ≤ gt X c ∧ gt X c ≤ gt X n + 1
theorem Lab.le {g : Gnd} {op : Int → Bool} {X Y : List Int} (ho : g.okS = true) (hX : Lab g op X) (hY : Lab g op Y) : ∀ (k : Nat) (c : Int), 0 ≤ c → c < g.C.length → gt X c = k → 0 ≤ gt Y c ∧ gt Y c ≤ k
  | 0, c, h0, h1, h => by
    have := (hY.zero c h0 h1).2 ((hX.zero c h0 h1).1 h)
    omega
  | k + 1, c, h0, h1, h => by
    obtain ⟨n, hn, he⟩ := hX.pre c h0 h1 (by omega)
    obtain ⟨n0, n1⟩ := nbr_in ho h0 h1 n hn
    obtain ⟨i1, i2⟩ := Lab.le ho hX hY k n n0 n1 (by omega)
    have := hY.step c h0 h1 (hX.isop c h0 h1 (by omega)) n hn i1
    omega
theorem ext_gt {X Y : List Int} {N : Nat} (hX : X.length = N) (hY : Y.length = N) (h : ∀ c : Int, 0 ≤ c → c < N → gt X c = gt Y c) : X = Y := by
  refine List.ext_getElem (by omega) fun i hi hi' => ?_
  have := h i (by omega) (by omega)
  rwa [gt_nat hi, gt_nat hi'] at this
theorem Lab.uniq {g : Gnd} {op : Int → Bool} {X Y : List Int} (ho : g.okS = true) (hX : Lab g op X) (hY : Lab g op Y) : X = Y := by
  refine ext_gt hX.len hY.len fun c h0 h1 => ?_
  have l1 := hX.lo c h0 h1
  have l2 := hY.lo c h0 h1
  rcases Int.lt_or_le (gt X c) 0 with hx | hx
  · rcases Int.lt_or_le (gt Y c) 0 with hy | hy
    · omega
    · have := hY.le ho hX (gt Y c).toNat c h0 h1 (by omega)
      omega
  · have i1 := hX.le ho hY (gt X c).toNat c h0 h1 (by omega)
    have i2 := hY.le ho hX (gt Y c).toNat c h0 h1 (by omega)
    omega
theorem Lab.congr {g : Gnd} {op op' : Int → Bool} {X : List Int} (h : Lab g op X) (he : ∀ c : Int, 0 ≤ c → c < g.C.length → op c = op' c) : Lab g op' X := by
  refine ⟨h.len, h.lo, fun c h0 h1 hc => ?_, fun c h0 h1 => ?_, h.pre, fun c h0 h1 hc => h.step c h0 h1 (by rw [he c h0 h1]; exact hc)⟩
  · rw [← he c h0 h1]; exact h.isop c h0 h1 hc
  · rw [← he c h0 h1]; exact h.zero c h0 h1
theorem pigeon : ∀ (k N : Nat) (f : Nat → Int), (∀ j : Nat, j ≤ k → ∃ c, c < N ∧ f c = j) → k < N
  | 0, N, f, h => by
    obtain ⟨c, hc, _⟩ := h 0 (Nat.le_refl _)
    omega
  | k + 1, N, f, h => by
    obtain ⟨c0, hc0, he0⟩ := h (k + 1) (Nat.le_refl _)
    have := pigeon k (N - 1) (fun c => if c = c0 then f (N - 1) else f c) fun j hj => by
      obtain ⟨c, hc, he⟩ := h j (by omega)
      have hne : c ≠ c0 := fun e => by rw [e, he0] at he; omega
      by_cases hl : c = N - 1
      · exact ⟨c0, by omega, by rw [if_pos rfl, ← hl]; exact he⟩
      · exact ⟨c, by omega, by rw [if_neg hne]; exact he⟩
    omega
theorem gt_mk {N : Nat} {f : Nat → Int} {c : Int} (h0 : 0 ≤ c) (h1 : c < N) : gt ((List.range N).map f) c = f c.toNat := by
  rw [gt_eq (by simp; omega)]
  simp
/-- the labels up to s, layer by layer -/
def farL (g : Gnd) (op : Int → Bool) : Nat → List Int
  | 0 => (List.range g.C.length).map fun c : Nat => if op c = true ∧ gt g.C c = 3 then 0 else -1
  | s + 1 => (List.range g.C.length).map fun c : Nat => if (op c = true ∧ gt (farL g op s) c < 0) ∧ (g.nbr c).any (fun n => decide (gt (farL g op s) n = s)) = true then (s : Int) + 1 else gt (farL g op s) c
theorem farL_len {g : Gnd} {op : Int → Bool} : ∀ s, (farL g op s).length = g.C.length
  | 0 => by simp [farL]
  | s + 1 => by simp [farL]
theorem farL_zero {g : Gnd} {op : Int → Bool} {c : Int} (h0 : 0 ≤ c) (h1 : c < g.C.length) : gt (farL g op 0) c = if op c = true ∧ gt g.C c = 3 then 0 else -1 := by
  unfold farL
  rw [gt_mk h0 h1, show ((c.toNat : Nat) : Int) = c by omega]
theorem farL_succ {g : Gnd} {op : Int → Bool} {s : Nat} {c : Int} (h0 : 0 ≤ c) (h1 : c < g.C.length) : gt (farL g op (s + 1)) c = if (op c = true ∧ gt (farL g op s) c < 0) ∧ (g.nbr c).any (fun n => decide (gt (farL g op s) n = s)) = true then (s : Int) + 1 else gt (farL g op s) c := by
  rw [farL, gt_mk h0 h1, show ((c.toNat : Nat) : Int) = c by omega]
structure LabK (g : Gnd) (op : Int → Bool) (s : Nat) (X : List Int) : Prop where
  lo : ∀ c : Int, 0 ≤ c → c < g.C.length → -1 ≤ gt X c ∧ gt X c ≤ s
  isop : ∀ c : Int, 0 ≤ c → c < g.C.length → 0 ≤ gt X c → op c = true
  zero : ∀ c : Int, 0 ≤ c → c < g.C.length → (gt X c = 0 ↔ op c = true ∧ gt g.C c = 3)
  pre : ∀ c : Int, 0 ≤ c → c < g.C.length → 0 < gt X c → ∃ n ∈ g.nbr c, gt X n = gt X c - 1
  step : ∀ c : Int, 0 ≤ c → c < g.C.length → op c = true → ∀ n ∈ g.nbr c, 0 ≤ gt X n → gt X n < s → 0 ≤ gt X c ∧ gt X c ≤ gt X n + 1
theorem farL_labK {g : Gnd} {op : Int → Bool} (ho : g.okS = true) : ∀ s, LabK g op s (farL g op s)
  | 0 => by
    have hz : ∀ c : Int, 0 ≤ c → c < g.C.length → gt (farL g op 0) c = if op c = true ∧ gt g.C c = 3 then 0 else -1 := fun c h0 h1 => farL_zero h0 h1
    refine ⟨fun c h0 h1 => ?_, fun c h0 h1 h => ?_, fun c h0 h1 => ?_, fun c h0 h1 h => ?_, fun c h0 h1 hop n hn k1 k2 => ?_⟩
    · rw [hz c h0 h1]; split <;> omega
    · rw [hz c h0 h1] at h; split at h
      · rename_i q; exact q.1
      · omega
    · rw [hz c h0 h1]; split
      · rename_i q; simp [q]
      · rename_i q; constructor
        · intro h; omega
        · intro h; exact absurd h q
    · rw [hz c h0 h1] at h; split at h <;> omega
    · omega
  | s + 1 => by
    have ih := farL_labK (op := op) ho s
    have hz : ∀ c : Int, 0 ≤ c → c < g.C.length → gt (farL g op (s + 1)) c = if (op c = true ∧ gt (farL g op s) c < 0) ∧ (g.nbr c).any (fun n => decide (gt (farL g op s) n = s)) = true then (s : Int) + 1 else gt (farL g op s) c := fun c h0 h1 => farL_succ h0 h1
    generalize hX : farL g op s = X at *
    generalize farL g op (s + 1) = Y at *
    -- a label that stands stays
    have keep : ∀ c : Int, 0 ≤ c → c < g.C.length → 0 ≤ gt X c → gt Y c = gt X c := by
      intro c h0 h1 h
      rw [hz c h0 h1, if_neg (fun q => by omega)]
    have cases' : ∀ c : Int, 0 ≤ c → c < g.C.length → gt Y c = gt X c ∨ (gt Y c = s + 1 ∧ gt X c < 0 ∧ op c = true ∧ ∃ n ∈ g.nbr c, gt X n = s) := by
      intro c h0 h1
      rw [hz c h0 h1]
      split
      · rename_i q
        obtain ⟨n, hn, he⟩ := List.any_eq_true.1 q.2
        exact .inr ⟨rfl, q.1.2, q.1.1, n, hn, of_decide_eq_true he⟩
      · exact .inl rfl
    refine ⟨fun c h0 h1 => ?_, fun c h0 h1 h => ?_, fun c h0 h1 => ?_, fun c h0 h1 h => ?_, fun c h0 h1 hop n hn k1 k2 => ?_⟩
    · have := ih.lo c h0 h1
      rcases cases' c h0 h1 with e | ⟨e, _⟩ <;> omega
    · rcases cases' c h0 h1 with e | ⟨_, _, e, _⟩
      · exact ih.isop c h0 h1 (by omega)
      · exact e
    · rw [← ih.zero c h0 h1]
      rcases cases' c h0 h1 with e | ⟨e, e2, _⟩
      · rw [e]
      · omega
    · rcases cases' c h0 h1 with e | ⟨e, _, _, n, hn, he⟩
      · obtain ⟨n, hn, he⟩ := ih.pre c h0 h1 (by omega)
        obtain ⟨n0, n1⟩ := nbr_in ho h0 h1 n hn
        exact ⟨n, hn, by rw [keep n n0 n1 (by omega)]; omega⟩
      · obtain ⟨n0, n1⟩ := nbr_in ho h0 h1 n hn
        exact ⟨n, hn, by rw [keep n n0 n1 (by omega)]; omega⟩
    · obtain ⟨n0, n1⟩ := nbr_in ho h0 h1 n hn
      have hXn : gt X n = gt Y n := by
        rcases cases' n n0 n1 with e | ⟨e, _⟩ <;> omega
      have lo := ih.lo c h0 h1
      rcases Int.lt_or_le (gt X n) s with hl | hg
      · have := ih.step c h0 h1 hop n hn (by omega) hl
        rw [keep c h0 h1 this.1]
        omega
      · rcases Int.lt_or_le (gt X c) 0 with hc | hc
        · have : (g.nbr c).any (fun n => decide (gt X n = s)) = true := List.any_eq_true.2 ⟨n, hn, decide_eq_true (by omega)⟩
          rw [hz c h0 h1, if_pos ⟨⟨hop, hc⟩, this⟩]
          omega
        · rw [keep c h0 h1 hc]
          omega
/-- how far it is from each cell -/
def farS (g : Gnd) (op : Int → Bool) : List Int := farL g op g.C.length
/-- labels that come one after the other are fewer than cells -/
theorem lab_lt {g : Gnd} {X : List Int} (ho : g.okS = true) (hpre : ∀ c : Int, 0 ≤ c → c < g.C.length → 0 < gt X c → ∃ n ∈ g.nbr c, gt X n = gt X c - 1) : ∀ c : Int, 0 ≤ c → c < g.C.length → gt X c < g.C.length := by
  have hlow : ∀ (k : Nat) (c : Int), 0 ≤ c → c < g.C.length → gt X c = k → ∀ j : Nat, j ≤ k → ∃ c' : Nat, c' < g.C.length ∧ gt X c' = j := by
    intro k
    induction k with
    | zero =>
      intro c h0 h1 hc j hj
      have : j = 0 := by omega
      subst this
      exact ⟨c.toNat, by omega, by rw [show ((c.toNat : Nat) : Int) = c by omega]; exact hc⟩
    | succ k ih =>
      intro c h0 h1 hc j hj
      rcases Nat.lt_or_ge j (k + 1) with hlt | hge
      · obtain ⟨n, hn, he⟩ := hpre c h0 h1 (by omega)
        obtain ⟨n0, n1⟩ := nbr_in ho h0 h1 n hn
        exact ih n n0 n1 (by omega) j (by omega)
      · have : j = k + 1 := by omega
        subst this
        exact ⟨c.toNat, by omega, by rw [show ((c.toNat : Nat) : Int) = c by omega]; exact hc⟩
  intro c h0 h1
  rcases Int.lt_or_le (gt X c) 0 with hc | hc
  · omega
  · have := pigeon (gt X c).toNat g.C.length (fun c => gt X c) fun j hj => hlow _ c h0 h1 (by omega) j hj
    omega
theorem farS_lab {g : Gnd} {op : Int → Bool} (ho : g.okS = true) : Lab g op (farS g op) := by
  have h := farL_labK (op := op) ho g.C.length
  have hlt := lab_lt ho h.pre
  exact ⟨farL_len _, fun c h0 h1 => (h.lo c h0 h1).1, h.isop, h.zero, h.pre, fun c h0 h1 hop n hn hx => by
    obtain ⟨n0, n1⟩ := nbr_in ho h0 h1 n hn
    exact h.step c h0 h1 hop n hn hx (hlt n n0 n1)⟩
theorem farS_is {g : Gnd} {op : Int → Bool} {X : List Int} (ho : g.okS = true) (h : Lab g op X) : X = farS g op := h.uniq ho (farS_lab ho)
theorem farS_congr {g : Gnd} {op op' : Int → Bool} (ho : g.okS = true) (he : ∀ c : Int, 0 ≤ c → c < g.C.length → op c = op' c) : farS g op = farS g op' := farS_is ho ((farS_lab ho).congr he)
theorem farS_len {g : Gnd} {op : Int → Bool} : (farS g op).length = g.C.length := farL_len _
end Go.Proofs.Ytmpkiaghkhhlhaa

/- Plain law of layer 4: a queue gives the same labels as layers do. No program in sight. -/
namespace Go.Proofs.Ytmpkiaghkhhlhaa
open Go.RowKit

/-- how many cells have no label -/
def neg (X : List Int) : Nat := X.countP fun a => decide (a < 0)
theorem neg_le (X : List Int) : neg X ≤ X.length := List.countP_le_length
theorem neg_set : ∀ {X : List Int} {i : Nat} {v : Int} (h : i < X.length), X[i] < 0 → 0 ≤ v → neg (X.set i v) + 1 = neg X
  | x :: X, 0, v, _, hx, hv => by
    unfold neg
    have hx' : x < 0 := hx
    simp [hx', show ¬ v < 0 by omega]
  | x :: X, i + 1, v, h, hx, hv => by
    have := neg_set (X := X) (i := i) (v := v) (by simpa using h) (by simpa using hx) hv
    unfold neg at this ⊢
    simp only [List.set_cons_succ, List.countP_cons]
    omega
theorem neg_setI {X : List Int} {c v : Int} (h0 : 0 ≤ c) (h1 : c < X.length) (hx : gt X c < 0) (hv : 0 ≤ v) : neg (X.set c.toNat v) + 1 = neg X := neg_set (by omega) (by rw [← gt_eq (by omega)]; exact hx) hv

/-- the labels and the queue of cells whose neighbours are still to be seen -/
structure Bfs (g : Gnd) (op : Int → Bool) (X Q : List Int) : Prop where
  len : X.length = g.C.length
  lo : ∀ c : Int, 0 ≤ c → c < g.C.length → -1 ≤ gt X c
  isop : ∀ c : Int, 0 ≤ c → c < g.C.length → 0 ≤ gt X c → op c = true
  zero : ∀ c : Int, 0 ≤ c → c < g.C.length → (gt X c = 0 ↔ op c = true ∧ gt g.C c = 3)
  pre : ∀ c : Int, 0 ≤ c → c < g.C.length → 0 < gt X c → ∃ n ∈ g.nbr c, gt X n = gt X c - 1
  q : ∀ a ∈ Q, (0 ≤ a ∧ a < g.C.length) ∧ 0 ≤ gt X a
  step : ∀ c : Int, 0 ≤ c → c < g.C.length → 0 ≤ gt X c → c ∉ Q → ∀ n ∈ g.nbr c, op n = true → 0 ≤ gt X n ∧ gt X n ≤ gt X c + 1
  mono : Q.Pairwise fun a b => gt X a ≤ gt X b
  hi : ∀ h t, Q = h :: t → ∀ c : Int, 0 ≤ c → c < g.C.length → gt X c ≤ gt X h + 1
theorem Bfs.done {g : Gnd} {op : Int → Bool} {X : List Int} (ho : g.okS = true) (h : Bfs g op X []) : Lab g op X :=
  ⟨h.len, h.lo, h.isop, h.zero, h.pre, fun c h0 h1 hc n hn hx => by
    obtain ⟨n0, n1⟩ := nbr_in ho h0 h1 n hn
    exact h.step n n0 n1 hx (by simp) c (nbr_symm ho h0 h1 hn) hc⟩
/-- while the neighbours of the first one, a, are seen: k of them have been -/
structure BfsIn (g : Gnd) (op : Int → Bool) (a : Int) (k : Nat) (X T : List Int) : Prop where
  len : X.length = g.C.length
  lo : ∀ c : Int, 0 ≤ c → c < g.C.length → -1 ≤ gt X c
  isop : ∀ c : Int, 0 ≤ c → c < g.C.length → 0 ≤ gt X c → op c = true
  zero : ∀ c : Int, 0 ≤ c → c < g.C.length → (gt X c = 0 ↔ op c = true ∧ gt g.C c = 3)
  pre : ∀ c : Int, 0 ≤ c → c < g.C.length → 0 < gt X c → ∃ n ∈ g.nbr c, gt X n = gt X c - 1
  q : ∀ b ∈ a :: T, (0 ≤ b ∧ b < g.C.length) ∧ 0 ≤ gt X b
  step : ∀ c : Int, 0 ≤ c → c < g.C.length → 0 ≤ gt X c → c ∉ a :: T → ∀ n ∈ g.nbr c, op n = true → 0 ≤ gt X n ∧ gt X n ≤ gt X c + 1
  mono : (a :: T).Pairwise fun a b => gt X a ≤ gt X b
  hi : ∀ c : Int, 0 ≤ c → c < g.C.length → gt X c ≤ gt X a + 1
  seen : ∀ n ∈ (g.nbr a).take k, op n = true → 0 ≤ gt X n
section
variable {g : Gnd} {op : Int → Bool} {a : Int} {k : Nat} {X T : List Int}
theorem Bfs.enter (h : Bfs g op X (a :: T)) : BfsIn g op a 0 X T := ⟨h.len, h.lo, h.isop, h.zero, h.pre, h.q, h.step, h.mono, h.hi a T rfl, fun n hn => by cases hn⟩
theorem BfsIn.leave (h : BfsIn g op a (g.nbr a).length X T) : Bfs g op X T := by
  refine ⟨h.len, h.lo, h.isop, h.zero, h.pre, fun b hb => h.q b (List.mem_cons_of_mem _ hb), fun c h0 h1 hx hc n hn hop => ?_, (List.pairwise_cons.1 h.mono).2, fun b t e c h0 h1 => ?_⟩
  · by_cases e : c = a
    · subst e
      have := h.seen n (by rw [List.take_length]; exact hn) hop
      exact ⟨this, by
        have hs := h.hi
        rcases Int.lt_or_le n 0 with hl | hl
        · have : gt X n = gt X 0 := by simp [gt, show n.toNat = 0 by omega]
          rw [this]
          exact hs 0 (by omega) (by omega)
        · rcases Int.lt_or_le n g.C.length with hr | hr
          · exact hs n hl hr
          · have : gt X n = 0 := by
              have := h.len
              unfold gt
              rw [List.getD_eq_getElem?_getD, List.getElem?_eq_none (by omega)]
              rfl
            omega⟩
    · exact h.step c h0 h1 hx (by simp [e, hc]) n hn hop
  · subst e
    have h2 := h.hi c h0 h1
    have h3 := (List.pairwise_cons.1 h.mono).1 b (List.mem_cons_self ..)
    omega
theorem take_mem {xs : List Int} {k : Nat} {n : Int} (hk : k < xs.length) (h : n ∈ xs.take (k + 1)) : n ∈ xs.take k ∨ n = gt xs k := by
  rw [List.take_succ_eq_append_getElem hk, List.mem_append, List.mem_singleton, ← gt_nat hk] at h
  exact h
/-- a neighbour that is left as it is -/
theorem BfsIn.pass (h : BfsIn g op a k X T) (hk : k < (g.nbr a).length) (hn : op (gt (g.nbr a) k) = true → 0 ≤ gt X (gt (g.nbr a) k)) : BfsIn g op a (k + 1) X T :=
  ⟨h.len, h.lo, h.isop, h.zero, h.pre, h.q, h.step, h.mono, h.hi, fun n hn' hop => by
    rcases take_mem hk hn' with h1 | rfl
    · exact h.seen n h1 hop
    · exact hn hop⟩
/-- a neighbour that is labelled -/
theorem BfsIn.set (ho : g.okS = true) (h : BfsIn g op a k X T) (hk : k < (g.nbr a).length) (hop : op (gt (g.nbr a) k) = true) (hx : gt X (gt (g.nbr a) k) < 0) : BfsIn g op a (k + 1) (X.set (gt (g.nbr a) k).toNat (gt X a + 1)) (T ++ [gt (g.nbr a) k]) := by
  obtain ⟨⟨a0, a1⟩, ax⟩ := h.q a (List.mem_cons_self ..)
  have hm := gt_mem hk
  obtain ⟨m0, m1⟩ := nbr_in ho a0 a1 _ hm
  have hsym := nbr_symm ho a0 a1 hm
  have hseen : ∀ n ∈ (g.nbr a).take (k + 1), n ∈ (g.nbr a).take k ∨ n = gt (g.nbr a) k := fun n hn => take_mem hk hn
  have htk : ∀ n ∈ (g.nbr a).take k, 0 ≤ n ∧ n < g.C.length := fun n hn => nbr_in ho a0 a1 n (List.mem_of_mem_take hn)
  generalize gt (g.nbr a) k = m at *
  have hl := h.len
  have e : ∀ c : Int, 0 ≤ c → c < g.C.length → gt (X.set m.toNat (gt X a + 1)) c = if c = m then gt X a + 1 else gt X c := fun c h0 h1 => gt_set m0 h0 (by omega)
  have eq : ∀ c : Int, 0 ≤ c → c < g.C.length → 0 ≤ gt X c → gt (X.set m.toNat (gt X a + 1)) c = gt X c := fun c h0 h1 hc => by
    rw [e c h0 h1, if_neg (fun q => by rw [q] at hc; omega)]
  have ea := eq a a0 a1 ax
  refine ⟨by simpa using hl, fun c h0 h1 => ?_, fun c h0 h1 hc => ?_, fun c h0 h1 => ?_, fun c h0 h1 hc => ?_, fun b hb => ?_, fun c h0 h1 hc hcq n hn hopn => ?_, ?_, fun c h0 h1 => ?_, fun n hn hopn => ?_⟩
  · rw [e c h0 h1]
    have := h.lo c h0 h1
    split <;> omega
  · by_cases em : c = m
    · rw [em]; exact hop
    · rw [e c h0 h1, if_neg em] at hc
      exact h.isop c h0 h1 hc
  · rw [e c h0 h1, ← h.zero c h0 h1]
    split
    · rename_i q; subst q; omega
    · rfl
  · by_cases em : c = m
    · subst em
      exact ⟨a, hsym, by rw [ea, e c h0 h1, if_pos rfl]; omega⟩
    · rw [e c h0 h1, if_neg em] at hc ⊢
      obtain ⟨n, hn, hne⟩ := h.pre c h0 h1 hc
      obtain ⟨n0, n1⟩ := nbr_in ho h0 h1 n hn
      exact ⟨n, hn, by rw [eq n n0 n1 (by omega)]; exact hne⟩
  · rw [← List.cons_append, List.mem_append, List.mem_singleton] at hb
    rcases hb with hb | rfl
    · obtain ⟨⟨b0, b1⟩, bx⟩ := h.q b hb
      exact ⟨⟨b0, b1⟩, by rw [eq b b0 b1 bx]; exact bx⟩
    · exact ⟨⟨m0, m1⟩, by rw [e b m0 m1, if_pos rfl]; omega⟩
  · rw [← List.cons_append, List.mem_append, List.mem_singleton] at hcq
    have em : c ≠ m := fun q => hcq (.inr q)
    rw [e c h0 h1, if_neg em] at hc ⊢
    obtain ⟨s1, s2⟩ := h.step c h0 h1 hc (fun q => hcq (.inl q)) n hn hopn
    obtain ⟨n0, n1⟩ := nbr_in ho h0 h1 n hn
    rw [eq n n0 n1 s1]
    exact ⟨s1, s2⟩
  · rw [← List.cons_append, List.pairwise_append]
    refine ⟨?_, List.pairwise_singleton .., fun b hb c hc => ?_⟩
    · refine List.Pairwise.imp_of_mem ?_ h.mono
      intro b c hb hc hbc
      obtain ⟨⟨b0, b1⟩, bx⟩ := h.q b hb
      obtain ⟨⟨c0, c1⟩, cx⟩ := h.q c hc
      rw [eq b b0 b1 bx, eq c c0 c1 cx]
      exact hbc
    · rw [List.mem_singleton] at hc
      subst hc
      obtain ⟨⟨b0, b1⟩, bx⟩ := h.q b hb
      rw [eq b b0 b1 bx, e c m0 m1, if_pos rfl]
      exact h.hi b b0 b1
  · rw [ea, e c h0 h1]
    have := h.hi c h0 h1
    split <;> omega
  · rcases hseen n hn with h1 | rfl
    · have := h.seen n h1 hopn
      obtain ⟨n0, n1⟩ := htk n h1
      rw [eq n n0 n1 this]
      exact this
    · rw [e n m0 m1, if_pos rfl]
      omega
end
/-- while the gates are sought: the first k cells have been seen -/
structure Gates (g : Gnd) (op : Int → Bool) (k : Nat) (X Q : List Int) : Prop where
  len : X.length = g.C.length
  lab : ∀ c : Int, 0 ≤ c → c < g.C.length → gt X c = if c < k ∧ op c = true ∧ gt g.C c = 3 then 0 else -1
  q : ∀ a : Int, a ∈ Q ↔ (0 ≤ a ∧ a < g.C.length) ∧ gt X a = 0
  num : neg X + Q.length = g.C.length
theorem neg_rep : ∀ n : Nat, neg (List.replicate n (-1)) = n
  | 0 => rfl
  | n + 1 => by
    have := neg_rep n
    unfold neg at this ⊢
    rw [List.replicate_succ, List.countP_cons, this]
    rfl
theorem Gates.start {g : Gnd} {op : Int → Bool} : Gates g op 0 (List.replicate g.C.length (-1)) [] := by
  have e : ∀ c : Int, 0 ≤ c → c < g.C.length → gt (List.replicate g.C.length (-1)) c = -1 := fun c h0 h1 => gt_rep h0 h1
  refine ⟨by simp, fun c h0 h1 => by rw [e c h0 h1, if_neg (by omega)], fun a => ?_, by rw [neg_rep]; rfl⟩
  constructor
  · intro h; cases h
  · rintro ⟨⟨h0, h1⟩, h⟩
    rw [e a h0 h1] at h
    omega
theorem Gates.pass {g : Gnd} {op : Int → Bool} {k : Nat} {X Q : List Int} (h : Gates g op k X Q) (hn : ¬ (op k = true ∧ gt g.C k = 3)) : Gates g op (k + 1) X Q := by
  refine ⟨h.len, fun c h0 h1 => ?_, h.q, h.num⟩
  rw [h.lab c h0 h1]
  by_cases e : c = k
  · subst e
    rw [if_neg (fun q => by omega), if_neg (fun q => hn q.2)]
  · by_cases hc : op c = true ∧ gt g.C c = 3
    · by_cases hl : c < k
      · rw [if_pos ⟨hl, hc⟩, if_pos ⟨by omega, hc⟩]
      · rw [if_neg (fun q => hl q.1), if_neg (fun q => by omega)]
    · rw [if_neg (fun q => hc q.2), if_neg (fun q => hc q.2)]
theorem Gates.set {g : Gnd} {op : Int → Bool} {k : Nat} {X Q : List Int} (h : Gates g op k X Q) (hk : k < g.C.length) (hn : op k = true ∧ gt g.C k = 3) : Gates g op (k + 1) (X.set k 0) (Q ++ [(k : Int)]) := by
  have hl := h.len
  have e : ∀ c : Int, 0 ≤ c → c < g.C.length → gt (X.set k 0) c = if c = k then 0 else gt X c := fun c h0 h1 => by
    have := gt_set (xs := X) (i := k) (c := c) (v := 0) (by omega) h0 (by omega)
    simpa using this
  have hxk := h.lab k (by omega) (by omega)
  rw [if_neg (by omega)] at hxk
  refine ⟨by simpa using hl, fun c h0 h1 => ?_, fun a => ?_, ?_⟩
  · rw [e c h0 h1, h.lab c h0 h1]
    by_cases ec : c = k
    · subst ec
      rw [if_pos rfl, if_pos ⟨by omega, hn⟩]
    · rw [if_neg ec]
      by_cases hc : op c = true ∧ gt g.C c = 3
      · by_cases hl : c < k
        · rw [if_pos ⟨hl, hc⟩, if_pos ⟨by omega, hc⟩]
        · rw [if_neg (fun q => hl q.1), if_neg (fun q => by omega)]
      · rw [if_neg (fun q => hc q.2), if_neg (fun q => hc q.2)]
  · rw [List.mem_append, List.mem_singleton, h.q a]
    constructor
    · rintro (⟨⟨a0, a1⟩, ha⟩ | rfl)
      · refine ⟨⟨a0, a1⟩, ?_⟩
        rw [e a a0 a1]
        split
        · rfl
        · exact ha
      · exact ⟨⟨by omega, by omega⟩, by rw [e k (by omega) (by omega), if_pos rfl]⟩
    · rintro ⟨⟨a0, a1⟩, ha⟩
      rw [e a a0 a1] at ha
      split at ha
      · rename_i q; exact .inr q
      · exact .inl ⟨⟨a0, a1⟩, ha⟩
  · have := neg_setI (X := X) (c := k) (v := 0) (by omega) (by omega) (by omega) (by omega)
    have hn := h.num
    simp only [Int.toNat_natCast] at this
    simp only [List.length_append, List.length_cons, List.length_nil]
    omega
theorem Gates.done {g : Gnd} {op : Int → Bool} {X Q : List Int} (h : Gates g op g.C.length X Q) : Bfs g op X Q := by
  have e : ∀ c : Int, 0 ≤ c → c < g.C.length → gt X c = if op c = true ∧ gt g.C c = 3 then 0 else -1 := fun c h0 h1 => by
    rw [h.lab c h0 h1]
    by_cases hc : op c = true ∧ gt g.C c = 3
    · rw [if_pos ⟨h1, hc⟩, if_pos hc]
    · rw [if_neg (fun q => hc q.2), if_neg hc]
  refine ⟨h.len, fun c h0 h1 => ?_, fun c h0 h1 hc => ?_, fun c h0 h1 => ?_, fun c h0 h1 hc => ?_, fun a ha => ?_, fun c h0 h1 hx hc => ?_, ?_, fun b t eq c h0 h1 => ?_⟩
  · rw [e c h0 h1]; split <;> omega
  · rw [e c h0 h1] at hc; split at hc
    · rename_i q; exact q.1
    · omega
  · rw [e c h0 h1]; split
    · rename_i q; simp [q]
    · rename_i q; constructor
      · intro h; omega
      · intro h; exact absurd h q
  · rw [e c h0 h1] at hc; split at hc <;> omega
  · obtain ⟨h1, h2⟩ := (h.q a).1 ha
    exact ⟨h1, by omega⟩
  · have : gt X c = 0 := by have he := e c h0 h1; split at he <;> omega
    exact absurd ((h.q c).2 ⟨⟨h0, h1⟩, this⟩) hc
  · refine List.pairwise_of_forall_mem_list ?_
    intro b hb c hc
    have h1 := ((h.q b).1 hb).2
    have h2 := ((h.q c).1 hc).2
    omega
  · have hb := ((h.q b).1 (by rw [eq]; exact List.mem_cons_self ..)).2
    rw [hb, e c h0 h1]
    split <;> omega
end Go.Proofs.Ytmpkiaghkhhlhaa

/- Contracts of layer 4: take; the sites of a pitch. No conditions but those that each theorem names. -/
namespace Go.Proofs.Ytmpkiaghkhhlhaa
open Go.RowKit

/-! ### Taking away -/
def takK (tk : List Int) (i : Int) (k : Nat) : List Int := (tk.take k).map (fun p => if p = i then -1 else p) ++ tk.drop k
theorem takK_len {tk : List Int} {i : Int} {k : Nat} : (takK tk i k).length = tk.length := by simp [takK]; omega
theorem takK_succ {tk : List Int} {i : Int} {k : Nat} (h : k < tk.length) : takK tk i (k + 1) = (takK tk i k).set k (if gt tk k = i then -1 else gt tk k) := by
  unfold takK
  have e1 : (List.map (fun p => if p = i then -1 else p) (List.take k tk)).length = k := by simp; omega
  rw [List.take_succ_eq_append_getElem h, List.drop_eq_getElem_cons h, List.map_append, List.set_append_right _ _ (by rw [e1]; exact Nat.le_refl _), e1, Nat.sub_self, gt_nat h, List.append_assoc]
  rfl
theorem takK_at {tk : List Int} {i : Int} {k : Nat} (h : k < tk.length) : gt (takK tk i k) k = gt tk k := by
  rw [gt_nat (by rw [takK_len]; exact h), gt_nat h]
  unfold takK
  rw [List.getElem_append_right (by simp; omega)]
  simp [Nat.min_eq_left (Nat.le_of_lt h)]
theorem takK_full {tk : List Int} {i : Int} : takK tk i tk.length = tk.map fun p => if p = i then -1 else p := by simp [takK]
def Fd.take (F : Fd) (i : Int) : Fd := { F with st := F.st.set i.toNat (-1, false), tk := F.tk.map fun p => if p = i then -1 else p }
theorem Fd.ok.take {F : Fd} (h : F.ok) (i : Int) : (F.take i).ok := ⟨h.g, h.p, h.l, by simpa [Fd.take] using h.st, by simpa [Fd.take] using h.tk⟩
theorem c_take {σ0 σ : Hp} {f : Option Addr} {V : FA} {F : Fd} {i : Int} (hf : FdW σ0 σ f V F) (hF : F.ok) (i0 : 0 ≤ i) (i1 : i < F.l.length) :
    FCalls Try.prog N_ground_field_take #[.pointer f, .int .i64 i] σ fun _ σ' => FdW σ0 σ' f V (F.take i) := by
  refine M_ground_field_take_ok _ _ _ _ ?_
  unfold M_ground_field_take
  have hst := hF.st
  have htk := hF.tk
  obtain ⟨l1, l2, l3⟩ := hF.len
  have hb := hf.1
  refine hf.r.dS ?_
  obtain ⟨_, σ1, σ2, h1, h2, h3⟩ := hf
  obtain ⟨s1, k1, k2⟩ := h1.swap h2
  refine k2.ix_stIB (v := -1) (t := false) h3 i0 (by omega) fun σ3 τ ho3 hs3 => ?_
  obtain ⟨s1', m1, m2⟩ := k1.swap ho3
  have hf : FdW σ0 τ f V { F with st := F.st.set i.toNat (-1, false) } := ⟨hb, s1', σ3, m1, m2, hs3⟩
  refine hf.r.dK ?_
  have hln : V.tn = F.tk.length := hf.r.tr.lenI
  refine ⟨fun m j τ => ∃ k : Nat, m = F.tk.length - k ∧ j = k ∧ k ≤ F.tk.length ∧ FdW σ0 τ f V { F with st := F.st.set i.toNat (-1, false), tk := takK F.tk i k }, ⟨_, 0, rfl, rfl, by omega, by simpa [takK] using hf⟩, ?_⟩
  rintro m j τ2 ⟨k, rfl, rfl, hk, hf3⟩ _
  refine bc_d (fun hlt => ?_) (fun hlt => ?_)
  · have hkl : k < F.tk.length := by omega
    refine cut_intro fun J19 h19 => ?_
    have k19 : ∀ σ', FdW σ0 σ' f V { F with st := F.st.set i.toNat (-1, false), tk := takK F.tk i (k + 1) } → J19 σ' := by
      intro σ' h
      rw [h19]
      intro _
      exact wk_i (by omega) (bk_of _ (by omega) ⟨k + 1, rfl, rfl, by omega, h⟩)
    rw [takK_succ hkl] at k19
    refine gixg hf3.r.tr (by omega) (by simp only [takK_len]; omega) ?_
    show bc (decide (gt (takK F.tk i k) k = i)) _ _
    rw [takK_at hkl]
    refine bc_d (fun he => hf3.r.dK ?_) (fun hne => k19 _ ?_)
    · rw [if_pos he] at k19
      have hb3 := hf3.1
      obtain ⟨_, σ4, σ5, h4, h5, h6⟩ := hf3
      refine h5.ix_stI h6 (by omega) (by simp only [takK_len]; omega) fun σ6 τ6 ho6 hs6 => k19 _ ⟨hb3, σ4, σ6, h4, ?_, hs6⟩
      simpa using ho6
    · rw [if_neg hne]
      have : (takK F.tk i k).set k (gt F.tk k) = takK F.tk i k := by
        rw [← takK_at (i := i) hkl, gt_nat (by rw [takK_len]; exact hkl)]
        exact List.set_getElem_self _
      rw [this]
      exact hf3
  · have : k = F.tk.length := by omega
    subst this
    rw [takK_full] at hf3
    exact rt_of hf3
/-- taken by others than one -/
theorem Fd.con.but {F : Fd} (h : F.con) (hF : F.ok) {a c : Int} (h0 : 0 ≤ c) (h1 : c < F.g.C.length) : decide (gt F.tk c < 0 ∨ gt F.tk c = a) = !gb (F.g.takS F.l F.st a F.l.length) c := by
  obtain ⟨hr, hj⟩ := h c h0 h1
  have := gb_takS (st := F.st) (but := a) hF.good h0 h1 F.l.length (Nat.le_refl _)
  cases e : gb (F.g.takS F.l F.st a F.l.length) c with
  | true =>
    obtain ⟨j, hjl, hja, hc⟩ := this.1 e
    have := (hj j hjl).2 hc
    simp only [Bool.not_true, decide_eq_false_iff_not]
    omega
  | false =>
    simp only [Bool.not_false, decide_eq_true_eq]
    rcases Int.lt_or_le (gt F.tk c) 0 with hlt | hge
    · exact .inl hlt
    · refine .inr (Classical.byContradiction fun hne => ?_)
      have : gb (F.g.takS F.l F.st a F.l.length) c = true := this.2 ⟨(gt F.tk c).toNat, by omega, by omega, (hj _ (by omega)).1 (by omega)⟩
      rw [e] at this
      cases this
theorem gt_map {xs : List Int} {f : Int → Int} {c : Int} (h0 : 0 ≤ c) (h1 : c < xs.length) : gt (xs.map f) c = f (gt xs c) := by
  rw [gt_eq (by simp; omega), gt_eq (by omega)]
  simp
theorem take_fit {F : Fd} (hc : F.con) (hF : F.ok) {a : Nat} (ha : a < F.l.length) (s : Sit) : (F.take a).g.fit (pt (F.take a).l a) s (F.take a).bare = F.g.bes (pt F.l a) s (F.g.takS F.l F.st a F.l.length) := by
  refine fit_bare (F := F.take a) (hF.take a) ha fun c h0 h1 => ?_
  have h1' : c < F.g.C.length := h1
  show decide (gt (F.tk.map fun p => if p = (a : Int) then -1 else p) c < 0) = _
  rw [gt_map h0 (by rw [hF.tk]; exact h1'), ← hc.but hF h0 h1']
  refine decide_eq_decide.2 ?_
  have := (hc c h0 h1').1
  split <;> omega
theorem fdK_st {g : Gnd} {l : List Pit} {st : List Sit} (h : (chkP g l).2 = 0) (hl : st.length = l.length) : (fdK g l st l.length).st = st := by
  have h1 := (fdK_ok (st := st) h l.length).st
  rw [(fdK_g _).2] at h1
  refine List.ext_getElem (by omega) fun i hi hi' => ?_
  have := fdK_sit (st := st) h l.length (Nat.le_refl _) i (by omega)
  rw [if_pos (by omega), sit_nat hi, sit_nat hi'] at this
  exact this
/-! ### Places -/
/-- the first k sites that are tried, those that fit -/
def plc (g : Gnd) (p : Pit) (full : List Bool) (k : Nat) : List Sit := ((List.range k).map cand).filter fun s => g.bes p s full
theorem plc_succ {g : Gnd} {p : Pit} {full : List Bool} {k : Nat} : plc g p full (k + 1) = plc g p full k ++ if g.bes p (cand k) full = true then [cand k] else [] := by
  unfold plc
  rw [List.range_succ, List.map_append, List.filter_append]
  congr 1
  cases e : g.bes p (cand k) full <;> simp [e]
theorem plc_len {g : Gnd} {p : Pit} {full : List Bool} {k : Nat} : (plc g p full k).length ≤ k := by
  refine Nat.le_trans (List.length_filter_le ..) ?_
  simp
theorem cand_even (k : Nat) : cand (2 * k) = ((k : Int), false) := by
  unfold cand
  have h1 : 2 * k / 2 = k := by omega
  have h2 : 2 * k % 2 = 0 := by omega
  rw [h1, h2]
  rfl
theorem cand_odd (k : Nat) : cand (2 * k + 1) = ((k : Int), true) := by
  unfold cand
  have h1 : (2 * k + 1) / 2 = k := by omega
  have h2 : (2 * k + 1) % 2 = 1 := by omega
  rw [h1, h2]
  rfl
theorem c_places {σ : Hp} {x : GV} {g : Gnd} {p : Pit} {fA : Option Addr} {fn fc : Nat} {full : List Bool} (hg : GRd σ x g) (hok : g.ok = true) (hp : g.pOK p = true) (hf : RdS [.bool] σ fA fn full) (hfl : full.length = g.C.length) :
    FCalls Try.prog N_ref04_places #[x.v g, pv p, .slice fA fn fc] σ (NewL 50 sS σ (plc g p full (2 * g.C.length))) := by
  refine M_ref04_places_ok _ _ _ _ _ _ _ _ _ _ _ _ _ _ _ _ _ _ ?_
  unfold M_ref04_places
  obtain ⟨l1, l2, l3⟩ := Gnd.okS_len (Gnd.ok.s hok)
  have hcn := hg.c.lenI
  refine cut_intro fun J3 h3 => ?_
  refine ⟨fun m A n c i τ => ∃ k : Nat, m = g.C.length - k ∧ i = k ∧ k ≤ g.C.length ∧ OwnSl 50 sS σ A n c (plc g p full (2 * k)) τ, ⟨_, 0, rfl, rfl, by omega, OwnSl.nil ..⟩, ?_⟩
  rintro m A n c i τ ⟨k, rfl, rfl, hk, hown⟩ _
  refine bc_d (fun hlt => ?_) (fun hlt => ?_)
  · refine cut_intro fun J13 h13 => ?_
    have k13 : ∀ A n c σ', OwnSl 50 sS σ A n c (plc g p full (2 * (k + 1))) σ' → J13 A n c σ' := by
      intro A n c σ' h
      rw [h13]
      intro _
      exact wk_i (by omega) (bk_of _ (by omega) ⟨k + 1, rfl, rfl, by omega, h⟩)
    rw [show 2 * (k + 1) = 2 * k + 1 + 1 by omega, plc_succ, cand_odd] at k13
    refine cut_intro fun J20 h20 => ?_
    have hlen := plc_len (g := g) (p := p) (full := full) (k := 2 * k)
    have hlen1 := plc_len (g := g) (p := p) (full := full) (k := 2 * k + 1)
    have k20 : ∀ A n c σ', OwnSl 50 sS σ A n c (plc g p full (2 * k + 1)) σ' → J20 A n c σ' := by
      intro A n c σ' h
      rw [h20]
      intro _
      refine clB M_ref04_beside_enter (c_ref04_beside (s := ((k : Int), true)) (hg.sub h.sub) hok hp (hf.sub h.sub) hfl) ?_
      refine bc_b (fun hb => ?_) (fun hb => k13 _ _ _ _ ?_)
      · rw [if_pos hb] at k13
        refine adp_own h (roomy_i ?_ fun A n c σ' ho => k13 _ _ _ _ ho)
        show (plc g p full (2 * k + 1)).length + 1 ≤ _
        omega
      · rw [if_neg (by rw [hb]; simp), List.append_nil]
        exact h
    rw [plc_succ, cand_even] at k20
    refine clB M_ref04_beside_enter (c_ref04_beside (s := ((k : Int), false)) (hg.sub hown.sub) hok hp (hf.sub hown.sub) hfl) ?_
    refine bc_b (fun hb => ?_) (fun hb => k20 _ _ _ _ ?_)
    · rw [if_pos hb] at k20
      refine adp_own hown (roomy_i ?_ fun A n c σ' ho => k20 _ _ _ _ ho)
      show (plc g p full (2 * k)).length + 1 ≤ _
      omega
    · rw [if_neg (by rw [hb]; simp), List.append_nil]
      exact hown
  · rw [h3]
    intro _
    have : k = g.C.length := by omega
    subst this
    exact rt_of ⟨_, _, _, rfl, hown⟩
end Go.Proofs.Ytmpkiaghkhhlhaa

/- Contracts of layer 4: Sites, both sides. No conditions but those that each theorem names. -/
namespace Go.Proofs.Ytmpkiaghkhhlhaa
open Go.RowKit

/-! ### Owned slices beside a block that is known -/
theorem OwnSl.ins_old {e : TypeId} {ss : List Sh} {σ σ' : Hp} {A : Option Addr} {n c : Nat} {xs : List (TyR ss)} (h : OwnSl e ss σ A n c xs σ') {b : Nat} {x : Obj × Bool} (hb : σ b = some x) (o : Obj) : OwnSl e ss (σ.ins b o) A n c xs (σ'.ins b o) := by
  rcases h with ⟨h1, h2, h3, h4, rfl⟩ | ⟨b', off, cells, hA, hn, hnc, hb', rfl, hs, hr⟩
  · exact .inl ⟨h1, h2, h3, h4, rfl⟩
  · have hne : b' ≠ b := fun e => by rw [e, hb] at hb'; cases hb'
    refine .inr ⟨b', off, cells, hA, hn, hnc, ?_, ins_comm hne, hs, hr⟩
    rw [Hp.ins_ne _ hne]
    exact hb'
theorem put_ins_comm {σ : Hp} {b b' i : Nat} {o : Obj} {v : Value} (h : b' ≠ b) : (σ.ins b' o).put ⟨b, i, none⟩ v = (σ.put ⟨b, i, none⟩ v).ins b' o := by
  funext k
  by_cases hk : k = b'
  · subst hk
    rw [Hp.put_ne (show k ≠ (⟨b, i, none⟩ : Addr).block from h), Hp.ins_same, Hp.ins_same]
  · rw [Hp.ins_ne _ hk]
    unfold Hp.put
    by_cases hkb : k = (⟨b, i, none⟩ : Addr).block
    · rw [if_pos hkb, if_pos hkb, Hp.ins_ne _ hk]
    · rw [if_neg hkb, if_neg hkb, Hp.ins_ne _ hk]
theorem OwnSl.put_old {e : TypeId} {ss : List Sh} {σ σ' : Hp} {A : Option Addr} {n c : Nat} {xs : List (TyR ss)} (h : OwnSl e ss σ A n c xs σ') {b i : Nat} {x : Obj × Bool} (hb : σ b = some x) (v : Value) : OwnSl e ss (σ.put ⟨b, i, none⟩ v) A n c xs (σ'.put ⟨b, i, none⟩ v) := by
  rcases h with ⟨h1, h2, h3, h4, rfl⟩ | ⟨b', off, cells, hA, hn, hnc, hb', rfl, hs, hr⟩
  · exact .inl ⟨h1, h2, h3, h4, rfl⟩
  · have hne : b' ≠ b := fun e => by rw [e, hb] at hb'; cases hb'
    refine .inr ⟨b', off, cells, hA, hn, hnc, ?_, put_ins_comm hne, hs, hr⟩
    rw [Hp.put_ne (show b' ≠ (⟨b, i, none⟩ : Addr).block from hne)]
    exact hb'
/-- a box that holds a list of its own, and the record of a range over a function -/
def BxL (t e : TypeId) (ss : List Sh) (σb : Hp) (b lb : Nat) (r : Obj) (xs : List (TyR ss)) (τ : Hp) : Prop :=
  ∃ A n c τb, Hp.Sub σb τb ∧ τb b = some (.cells #[.slice A n c] t (0, 0), true) ∧ τb lb = some (r, true) ∧ OwnSl e ss τb A n c xs τ
section
variable {t e : TypeId} {ss : List Sh} {σb τ : Hp} {b lb : Nat} {r : Obj} {xs : List (TyR ss)}
theorem BxL.sub (h : BxL t e ss σb b lb r xs τ) : Hp.Sub σb τ := let ⟨_, _, _, _, h1, _, _, h4⟩ := h; h1.trans h4.sub
theorem BxL.hl (h : BxL t e ss σb b lb r xs τ) : τ lb = some (r, true) := let ⟨_, _, _, _, _, _, h3, h4⟩ := h; h4.sub _ _ h3
theorem BxL.recs (h : BxL t e ss σb b lb r xs τ) (hn : σb lb = none) (hne : lb ≠ b) (r' : Obj) : BxL t e ss σb b lb r' xs (τ.ins lb r') := by
  obtain ⟨A, n, c, τb, h1, h2, h3, h4⟩ := h
  refine ⟨A, n, c, τb.ins lb r', fun k x hk => ?_, ?_, Hp.ins_same .., h4.ins_old h3 _⟩
  · have : k ≠ lb := fun e => by rw [e, hn] at hk; cases hk
    rw [Hp.ins_ne _ this]
    exact h1 _ _ hk
  · rw [Hp.ins_ne _ hne.symm]
    exact h2
theorem BxL.app {ys : List (TyR ss)} {K : Hp → Prop} (h : BxL t e ss σb b lb r xs τ) (hn : σb b = none) (hne : lb ≠ b) (hr : xs.length + ys.length ≤ 4294967296) (hk : ∀ τ', BxL t e ss σb b lb r (xs ++ ys) τ' → K τ') :
    ldS τ b 0 fun A l c => adp e ss A l c τ fun xs σ => roomy (xs.length + ys.length) (exl e ss (xs ++ ys) σ fun A l c σ => st σ b 0 (.slice A l c) K) := by
  obtain ⟨A, n, c, τb, h1, h2, h3, h4⟩ := h
  refine ldS_of (cells_get (h4.sub _ _ h2) rfl) (adp_own h4 (roomy_i hr fun A' l' c' σ' ho => ?_))
  have hb' : σ' b = some (.cells #[.slice A n c] t (0, 0), true) := ho.sub _ _ h2
  refine ⟨⟨_, _, hb', by simp, rfl⟩, hk _ ⟨A', l', c', τb.put ⟨b, 0, none⟩ (.slice A' l' c'), fun k x hk => ?_, Hp.put_same h2, ?_, ho.put_old h2 _⟩⟩
  · have : k ≠ b := fun e => by rw [e, hn] at hk; cases hk
    rw [Hp.put_ne (show k ≠ (⟨b, 0, none⟩ : Addr).block from this)]
    exact h1 _ _ hk
  · rw [Hp.put_ne (show lb ≠ (⟨b, 0, none⟩ : Addr).block from hne)]
    exact h3
/-- the box is read and written back, and what is read is handed back -/
theorem BxL.fin {σ : Hp} {R : Value → Hp → Prop} {f : Value → Value} (h : BxL t e ss σb b lb r xs τ) (hn : σb b = none) (hs : Hp.Sub σ σb) (hk : ∀ A n c σ', OwnSl e ss σ A n c xs σ' → R (f (.slice A n c)) σ') :
    dr (some ⟨b, 0, none⟩) fun b1 o1 => ldS τ b1 o1 fun A l c => dr (some ⟨b, 0, none⟩) fun b2 o2 => st τ b2 o2 (.slice A l c) fun σ1 => dr (some ⟨b, 0, none⟩) fun b3 o3 => ldS σ1 b3 o3 fun A l c => rt σ1 R (f (.slice A l c)) := by
  obtain ⟨A, n, c, τb, h1, h2, h3, h4⟩ := h
  have hb := h4.sub _ _ h2
  refine dr_i (ldS_of (cells_get hb rfl) (dr_i ⟨⟨_, _, hb, by simp, rfl⟩, dr_i (ldS_of (cells_get (Hp.put_same hb) rfl) ?_)⟩))
  obtain ⟨σ', o1, o2⟩ := (h4.put_old (i := 0) h2 (.slice A n c)).base (σ := σ) fun k x hk => by
    have hk' := hs _ _ hk
    have : k ≠ b := fun e => by rw [e, hn] at hk'; cases hk'
    rw [Hp.put_ne (show k ≠ (⟨b, 0, none⟩ : Addr).block from this)]
    exact h1 _ _ hk'
  exact rt_sub o2 (hk _ _ _ _ o1)
end
def sitS (g : Gnd) (l : List Pit) (st : List Sit) (a : Int) : List Sit × Int :=
  if (chkS g l st).2 ≠ 0 then ([], (chkS g l st).2) else if ¬ (0 ≤ a ∧ a ≤ (l.length : Int) - 1) then ([], 1) else (plc g (pt l a) (g.takS l st a l.length) (2 * g.C.length), 0)
theorem NewS.nil {σ : Hp} {e : Int} : NewS σ [] e (.tuple #[.slice none 0 0, .int .i64 e]) σ := ⟨none, 0, 0, rfl, OwnSl.nil ..⟩
theorem NewS.base {σ σ' σ2 : Hp} {xs : List Sit} {e : Int} {A : Option Addr} {n c : Nat} {R : Value → Hp → Prop} (hs : Hp.Sub σ σ') (h : OwnSl 50 sS σ' A n c xs σ2) (hk : ∀ v σ3, NewS σ xs e v σ3 → R v σ3) : rt σ2 R (.tuple #[.slice A n c, .int .i64 e]) := by
  obtain ⟨σ3, h1, h2⟩ := h.base hs
  exact rt_sub h2 (hk _ _ ⟨_, _, _, rfl, h1⟩)
theorem c_ref04_Sites {σ : Hp} {x : GV} {g : Gnd} {lA sA : Option Addr} {ln lc sn sc : Nat} {l : List Pit} {st : List Sit} {a : Int} (hg : GRd σ x g) (hl : RdS sP σ lA ln l) (hst : RdS sS σ sA sn st) (hsc : sn ≤ sc) :
    FCalls Try.prog N_ref04_Sites #[x.v g, .slice lA ln lc, .slice sA sn sc, .int .i64 a] σ (NewS σ (sitS g l st a).1 (sitS g l st a).2) := by
  refine M_ref04_Sites_ok _ _ _ _ _ _ _ _ _ _ _ _ _ _ _ _ _ ?_
  unfold M_ref04_Sites
  have hln := hl.lenP
  refine clII M_ref04_Check_enter (c_ref04_Check hg hl hst hsc) ?_
  refine bc_nd (fun h => rt_of ?_) (fun h => ?_)
  · rw [sitS, if_pos h]
    exact NewS.nil
  obtain ⟨hch, hG, hsl, _, _⟩ := chkS_ok h
  have h8 := hG.len
  refine wk_i (by omega) (l_rw (bc_nd (fun h2 => rt_of ?_) (fun h2 => ?_)))
  · rw [sitS, if_neg (by simp [h]), if_pos (by rw [hln] at h2; exact h2)]
    exact NewS.nil
  rw [sitS, if_neg (by simp [h]), if_neg (by rw [hln] at h2; simpa using h2)]
  refine pix hl h2.1 (by omega) ?_
  have hp : g.pOK (pt l a) = true := by
    rw [pt_eq (by omega)]
    exact hG.p _ (by omega)
  refine clLs M_ref04_taken_enter (c_taken hg hG.s hl hst hG.p (by omega) h8) ?_
  rw [hsl]
  intro A n c σ' hown
  refine cl_of M_ref04_places_enter (c_places (hg.sub hown.sub) hG.ok hp hown.rd (takS_len _)) ?_
  rintro v σ2 ⟨A2, n2, c2, rfl, h2⟩
  exact ⟨_, _, _, rfl, NewS.base hown.sub h2 fun _ _ h => h⟩
set_option maxRecDepth 4000 in
theorem c_ground_Sites {σ : Hp} {x : GV} {g : Gnd} {lA sA : Option Addr} {ln lc sn sc : Nat} {l : List Pit} {st : List Sit} {a : Int} (hg : GRd σ x g) (hl : RdS sP σ lA ln l) (hst : RdS sS σ sA sn st) :
    FCalls Try.prog N_ground_Sites #[x.v g, .slice lA ln lc, .slice sA sn sc, .int .i64 a] σ (NewS σ (sitS g l st a).1 (sitS g l st a).2) := by
  refine M_ground_Sites_ok _ _ _ _ _ _ _ _ _ _ _ _ _ _ _ _ _ ?_
  unfold M_ground_Sites
  have hln := hl.lenP
  refine cl_of M_ground_newField_enter (c_newField hg hl hst) ?_
  rintro v σ2 (⟨hne, rfl, rfl⟩ | ⟨h, f, V, σ0, rfl, hs0, hfw⟩)
  · refine ⟨_, _, _, rfl, bc_nd (fun _ => rt_of ?_) (fun h => absurd h hne)⟩
    rw [sitS, if_pos hne]
    exact NewS.nil
  refine ⟨_, _, _, rfl, bc_nd (fun h' => absurd h h') (fun _ => ?_)⟩
  obtain ⟨hch, hG, hsl, _, hall⟩ := chkS_ok h
  have h8 := hG.len
  have hs2 : Hp.Sub σ σ2 := hs0.trans hfw.base
  refine wk_i (by omega) (l_gw (bc_nd (fun h2 => rt_sub hs2 ?_) (fun h2 => ?_)))
  · rw [sitS, if_neg (by simp [h]), if_pos (by rw [hln] at h2; exact h2)]
    exact NewS.nil
  rw [sitS, if_neg (by simp [h]), if_neg (by rw [hln] at h2; simpa using h2)]
  have hF := fdK_ok (st := st) hch l.length
  have hcon := fdK_con hch l.length (Nat.le_refl _) hall
  obtain ⟨eg, el⟩ := fdK_g (g := g) (l := l) (st := st) l.length
  have est := fdK_st hch hsl
  have hfit : ∀ i, ((fdK g l st l.length).take a).g.fit (pt ((fdK g l st l.length).take a).l a) (cand i) ((fdK g l st l.length).take a).bare = g.bes (pt l a) (cand i) (g.takS l st a l.length) := by
    intro i
    have := take_fit hcon hF (a := a.toNat) (by rw [el]; omega) (cand i)
    rw [show ((a.toNat : Nat) : Int) = a by omega, eg, el, est] at this
    exact this
  refine cl_of M_ground_field_take_enter (c_take hfw hF h2.1 (by rw [el]; omega)) ?_
  intro v σ11 hft
  have hFt := hF.take a
  have egt : ((fdK g l st l.length).take a).g = g := eg
  have elt : ((fdK g l st l.length).take a).l = l := el
  generalize (fdK g l st l.length).take a = F at *
  have hs11 : Hp.Sub σ σ11 := hs0.trans hft.base
  refine cut_intro fun J14 h14 => ?_
  refine cl_of M_ground_field_where_enter c_where ?_
  rintro v σ26 ⟨c0, c1, rfl, hs26, hc0, hc1⟩
  refine ⟨_, rfl, ?_⟩
  intro b28 n28 lb Rec hlb hcall
  obtain ⟨d1, hlb'⟩ := ins_eq_none hlb
  have hfr := hft.r.sub hs26
  have hNC : F.g.C.length = g.C.length := by rw [egt]
  obtain ⟨l1, l2, l3⟩ := Gnd.okS_len hG.s
  refine FEnt.of M_ground_field_where_1_enter (FCalls.mono (c_where_1 (y := .func (.yield lb) #[] #[]) (f := f) (V := V) (F := F) (p := a)
    (I := fun i τ => BxL 26 50 sS σ26 b28 lb (Rec .ready none) (plc g (pt l a) (g.takS l st a l.length) i) τ) (Q := fun _ => False)
    hFt h2.1 (by rw [elt]; omega) (fun i τ h => ⟨hfr.sub h.sub, hc0.sub h.sub, hc1.sub h.sub⟩) (fun i τ hi h hno => ?_) (fun i τ hi h hyes => ?_) ?_) ?_)
  · rw [hfit] at hno
    rw [plc_succ, hno]
    simpa using h
  · rw [hfit] at hyes
    rw [plc_succ, if_pos hyes]
    refine hcall _ _ _ h.hl ⟨(cand i).1, (cand i).2, rfl, fun _ => ⟨h.hl, ?_⟩⟩
    have hlen := plc_len (g := g) (p := pt l a) (full := g.takS l st a l.length) (k := i)
    refine (h.recs hlb' d1 (Rec .busy none)).app (ss := sS) (ys := ([cand i] : List Sit)) n28 d1 ?_ fun τ' h' => ⟨h'.hl, true, rfl, fun _ => h'.recs hlb' d1 _, fun h => by cases h⟩
    show (plc g (pt l a) (g.takS l st a l.length) i).length + 1 ≤ _
    omega
  · refine ⟨none, 0, 0, _, (Hp.Sub.ins _ n28).trans (Hp.Sub.ins _ hlb), ?_, Hp.ins_same .., OwnSl.nil ..⟩
    rw [Hp.ins_ne _ d1.symm, Hp.ins_same]
  · rintro v σ' (hA | hA)
    · refine ⟨.ready, none, hA.hl, rfl, ?_⟩
      show J14 _ _
      rw [hNC] at hA
      rw [h14]
      intro _
      exact (hA.recs hlb' d1 _).fin n28 (hs11.trans hs26) (f := fun v => .tuple #[v, .int .i64 0]) fun A n c σ' ho => ⟨A, n, c, rfl, ho⟩
    · exact hA.elim
end Go.Proofs.Ytmpkiaghkhhlhaa

/- Contracts of layer 4: far, both sides. No conditions but those that each theorem names. -/
namespace Go.Proofs.Ytmpkiaghkhhlhaa
open Go.RowKit

theorem NewL.base {e : TypeId} {ss : List Sh} {σ τ σ' : Hp} {A : Option Addr} {n c : Nat} {xs : List (TyR ss)} {R : Value → Hp → Prop} (hs : Hp.Sub σ τ) (h : OwnSl e ss τ A n c xs σ') (hk : ∀ v σ3, NewL e ss σ xs v σ3 → R v σ3) : rt σ' R (.slice A n c) := by
  obtain ⟨σ3, h1, h2⟩ := h.base hs
  exact rt_sub h2 (hk _ _ ⟨_, _, _, rfl, h1⟩)
theorem OwnSl.tail1 {e : TypeId} {σ σ' : Hp} {A : Option Addr} {n c : Nat} {x : Int} {xs : List Int} (h : OwnSl e [.int .i64] σ A n c (x :: xs) σ') :
    OwnSl e [.int .i64] σ (if c = (1 : Int).toNat then A else A.map fun x => x.add ((1 : Int).toNat * 1)) (n - (1 : Int).toNat) (c - (1 : Int).toNat) xs σ' := by
  rcases h with ⟨_, _, _, h4, _⟩ | ⟨b, off, cells, rfl, hn, hnc, hb, rfl, hs, hr⟩
  · cases h4
  · have hn' : n = xs.length + 1 := hn
    have e1 : (1 : Int).toNat = 1 := rfl
    have hs' : off + c * 1 ≤ cells.size := hs
    rw [e1]
    by_cases hc : c = 1
    · have hx : xs = [] := List.eq_nil_of_length_eq_zero (by omega)
      subst hx
      rw [if_pos hc]
      refine .inr ⟨b, off, cells, rfl, ?_, by omega, hb, rfl, ?_, fun i j hi => ?_⟩
      · show n - 1 = 0
        omega
      · show off + (c - 1) * 1 ≤ _
        omega
      · exact absurd hi (Nat.not_lt_zero _)
    · rw [if_neg hc]
      have := hr.drop 1
      refine .inr ⟨b, off + 1, cells, rfl, ?_, by omega, hb, rfl, ?_, this⟩
      · show n - 1 = xs.length
        omega
      · show off + 1 + (c - 1) * 1 ≤ _
        omega
theorem hix {σ : Hp} {A : Option Addr} {n : Nat} {a : Int} {T : List Int} {K : Int → Prop} (h : RdS [.int .i64] σ A n (a :: T : List Int)) (hk : K a) : ix A n 0 1 fun b o => ldI σ .i64 b o K :=
  gixg (xs := (a :: T : List Int)) h (by omega) (by simp) hk
theorem farL_eq {g : Gnd} {op : Int → Bool} {s : Nat} {c : Int} (h0 : 0 ≤ c) (h1 : c < g.C.length) : gt (farL g op (s + 1)) c = s ↔ gt (farL g op s) c = s := by
  rw [farL_succ h0 h1]
  split
  · rename_i q
    constructor <;> (intro h; omega)
  · rfl
set_option maxRecDepth 4000 in
theorem c_ref04_far {σ : Hp} {x : GV} {g : Gnd} {oA : Option Addr} {on oc : Nat} {o : List Bool} (hg : GRd σ x g) (ho : g.okS = true) (hop : RdS [.bool] σ oA on o) (hol : o.length = g.C.length) :
    FCalls Try.prog N_ref04_far #[x.v g, .slice oA on oc] σ (NewL 3 [.int .i64] σ (farS g (gb o))) := by
  refine M_ref04_far_ok _ _ _ _ _ _ _ _ _ _ _ _ _ ?_
  unfold M_ref04_far
  have hon := hop.lenB
  obtain ⟨l1, l2, l3⟩ := Gnd.okS_len ho
  refine ⟨by omega, by omega, by omega, cut_intro fun J3 h3 => ?_⟩
  have k3 : ∀ X, X = farL g (gb o) 0 → J3 X σ := by
    rintro X rfl
    rw [h3]
    intro _
    refine cut_intro fun J7 h7 => ?_
    refine ⟨fun m s xs σ' => ∃ k : Nat, m = g.C.length - k ∧ s = k ∧ k ≤ g.C.length ∧ xs = farL g (gb o) k ∧ σ' = σ, ⟨_, 0, rfl, rfl, by omega, rfl, rfl⟩, ?_⟩
    rintro m s xs σ' ⟨k, rfl, rfl, hk, rfl, rfl⟩ _
    have hfl := farL_len (g := g) (op := gb o) k
    refine bc_d (fun hlt => ?_) (fun hlt => ?_)
    · refine cut_intro fun J19 h19 => ?_
      have k19 : J19 (farL g (gb o) (k + 1)) σ' := by
        rw [h19]
        intro _
        exact wk_i (by omega) (bk_of _ (by omega) ⟨k + 1, rfl, rfl, by omega, rfl, rfl⟩)
      refine ⟨fun m c xs τ => ∃ q : Nat, m = g.C.length - q ∧ c = q ∧ q ≤ g.C.length ∧ xs.length = g.C.length ∧ τ = σ' ∧ ∀ c : Int, 0 ≤ c → c < g.C.length → gt xs c = if c < q then gt (farL g (gb o) (k + 1)) c else gt (farL g (gb o) k) c, ⟨_, 0, rfl, rfl, by omega, hfl, rfl, fun c h0 h1 => by rw [if_neg (by omega)]⟩, ?_⟩
      rintro m c xs τ ⟨q, rfl, rfl, hq, hxl, rfl, hx⟩ _
      refine bc_d (fun hlt2 => ?_) (fun hlt2 => ?_)
      · have hqN : (q : Int) < g.C.length := by omega
        refine cut_intro fun J32 h32 => ?_
        have k32 : ∀ ys, ys.length = g.C.length → (∀ c : Int, 0 ≤ c → c < g.C.length → gt ys c = if c < ((q + 1 : Nat) : Int) then gt (farL g (gb o) (k + 1)) c else gt (farL g (gb o) k) c) → J32 ys τ := by
          intro ys hyl hy
          rw [h32]
          intro _
          exact wk_i (by omega) (bk_of _ (by omega) ⟨q + 1, rfl, rfl, by omega, hyl, rfl, hy⟩)
        refine clL M_ref04_Neighbours_enter (c_Neighbours ho (by omega) hqN) ?_
        have hnin := nbr_in ho (c := (q : Int)) (by omega) hqN
        have hnl := nbr_len (g := g) (c := (q : Int))
        have hfq := farL_succ (g := g) (op := gb o) (s := k) (c := (q : Int)) (by omega) hqN
        have hxq := hx q (by omega) hqN
        rw [if_neg (by omega)] at hxq
        -- what a cell's label says, while this one has none
        have hxs : ∀ a : Int, 0 ≤ a → a < g.C.length → (gt xs a = k ↔ gt (farL g (gb o) k) a = k) := by
          intro a h0 h1
          rw [hx a h0 h1]
          split
          · exact farL_eq h0 h1
          · rfl
        refine ⟨fun m i ys τ2 => ∃ j : Nat, m = (g.nbr q).length - j ∧ i = j ∧ j ≤ (g.nbr q).length ∧ τ2 = τ ∧ ((ys = xs ∧ ∀ a ∈ (g.nbr q).take j, gt (farL g (gb o) k) a ≠ k) ∨ ((gb o q = true ∧ gt (farL g (gb o) k) q < 0) ∧ (g.nbr q).any (fun n => decide (gt (farL g (gb o) k) n = k)) = true ∧ ys = xs.set (q : Int).toNat ((k : Int) + 1))), ⟨_, 0, rfl, rfl, by omega, rfl, .inl ⟨rfl, fun a ha => by cases ha⟩⟩, ?_⟩
        rintro m i ys τ2 ⟨j, rfl, rfl, hj, rfl, hys⟩ _
        have hyl : ys.length = g.C.length := by
          rcases hys with ⟨rfl, _⟩ | ⟨_, _, rfl⟩
          · exact hxl
          · simpa using hxl
        refine cut_intro fun J50 h50 => cut_intro fun J64 h64 => ?_
        have fin : ¬ (j < (g.nbr q).length ∧ gb o q = true ∧ gt ys q < 0) → J32 ys τ2 := by
          intro hne
          refine k32 ys hyl fun c h0 h1 => ?_
          rcases hys with ⟨rfl, hall⟩ | ⟨h1', h2', rfl⟩
          · by_cases e : c = q
            · subst e
              rw [if_pos (by omega), hfq, if_neg, hxq]
              rintro ⟨⟨g1, g2⟩, g3⟩
              have hjj : j = (g.nbr q).length := by
                apply Classical.byContradiction
                intro hjj
                exact hne ⟨by omega, g1, by rw [hxq]; exact g2⟩
              obtain ⟨n, hn, hnk⟩ := List.any_eq_true.1 g3
              rw [hjj, List.take_length] at hall
              exact hall n hn (of_decide_eq_true hnk)
            · rw [hx c h0 h1]
              by_cases hl : c < q
              · rw [if_pos hl, if_pos (by omega)]
              · rw [if_neg hl, if_neg (by omega)]
          · rw [gt_set (by omega) h0 (by omega)]
            by_cases e : c = q
            · subst e
              rw [if_pos rfl, if_pos (by omega), hfq, if_pos ⟨h1', h2'⟩]
            · rw [if_neg e, hx c h0 h1]
              by_cases hl : c < q
              · rw [if_pos hl, if_pos (by omega)]
              · rw [if_neg hl, if_neg (by omega)]
        have k50 : j < (g.nbr q).length → gb o q = true → gt ys q < 0 → J50 τ2 := by
          intro hjl hoq hneg
          rw [h50]
          intro _
          refine cut_intro fun J53 h53 => ?_
          have kin := hnin _ (gt_mem hjl)
          have knm := gt_mem hjl
          rcases hys with ⟨rfl, hall⟩ | ⟨h1', h2', rfl⟩
          · have k53 : ∀ zs, ((zs = ys ∧ ∀ a ∈ (g.nbr q).take (j + 1), gt (farL g (gb o) k) a ≠ k) ∨ ((gb o q = true ∧ gt (farL g (gb o) k) q < 0) ∧ (g.nbr q).any (fun n => decide (gt (farL g (gb o) k) n = k)) = true ∧ zs = ys.set (q : Int).toNat ((k : Int) + 1))) → J53 zs τ2 := by
              intro zs hz
              rw [h53]
              intro _
              exact wk_i (by omega) (bk_of _ (by omega) ⟨j + 1, rfl, rfl, by omega, rfl, hz⟩)
            refine ⟨by omega, by omega, lat_I (by omega) (by omega) ⟨kin.1, by omega, lat_I kin.1 (by omega) (bc_d (fun he => wk_i (by omega) ⟨by omega, by omega, lat_I (by omega) (by omega) (k53 _ (.inr ⟨⟨hoq, by rw [← hxq]; exact hneg⟩, ?_, rfl⟩))⟩) (fun he => k53 _ (.inl ⟨rfl, fun a ha => ?_⟩)))⟩⟩
            · exact List.any_eq_true.2 ⟨_, knm, decide_eq_true ((hxs _ kin.1 kin.2).1 he)⟩
            · rcases take_mem hjl ha with h1 | rfl
              · exact hall a h1
              · exact fun e => he ((hxs _ kin.1 kin.2).2 e)
          · rw [gt_set (by omega) (by omega) (by omega), if_pos rfl] at hneg
            omega
        have k64 : ∀ t, t = decide (j < (g.nbr q).length ∧ gb o q = true ∧ gt ys q < 0) → J64 t τ2 := by
          rintro t rfl
          rw [h64]
          intro _
          exact bc_d (fun h => k50 h.1 h.2.1 h.2.2) fin
        refine bc_d (fun h1 => bix hop (by omega) (by omega) (bc_b (fun h2 => ⟨by omega, by omega, lat_I (by omega) (by omega) (k64 _ ?_)⟩) (fun h2 => k64 _ ?_))) (fun h1 => bc_f (k64 _ ?_))
        · refine decide_eq_decide.2 ⟨fun h => ⟨by omega, h2, h⟩, fun h => h.2.2⟩
        · simp [h2]
        · rw [decide_eq_false (fun h => h1 (by omega))]
      · have hqq : q = g.C.length := by omega
        have : xs = farL g (gb o) (k + 1) := ext_gt hxl (farL_len _) fun c h0 h1 => by rw [hx c h0 h1, if_pos (by omega)]
        rw [this]
        exact k19
    · rw [h7]
      intro _
      have : k = g.C.length := by omega
      subst this
      exact fun A n c σ' ho => rt_of ⟨_, _, _, rfl, ho⟩
  have hrl : (List.replicate (((on : Nat) : Int) : Int).toNat 0 : List Int).length = g.C.length := by rw [List.length_replicate]; omega
  refine ⟨fun m i xs τ => ∃ k : Nat, m = g.C.length - k ∧ i = k ∧ k ≤ g.C.length ∧ xs.length = g.C.length ∧ τ = σ ∧ ∀ c : Int, 0 ≤ c → c < k → gt xs c = gt (farL g (gb o) 0) c, ⟨_, 0, rfl, rfl, by omega, hrl, rfl, fun c h0 h1 => by omega⟩, ?_⟩
  rintro m i xs τ ⟨k, rfl, rfl, hk, hxl, rfl, hx⟩ _
  refine bc_d (fun hlt => ?_) (fun hlt => ?_)
  · have hkN : (k : Int) < g.C.length := by omega
    refine cut_intro fun J79 h79 => ?_
    have hz := farL_zero (g := g) (op := gb o) (c := (k : Int)) (by omega) hkN
    have k79 : ∀ v : Int, ∀ ys : List Int, v = gt (farL g (gb o) 0) k → ys = xs.set (k : Int).toNat v → J79 ys τ := by
      rintro v ys hv rfl
      rw [h79]
      intro _
      refine wk_i (by omega) (bk_of _ (by omega) ⟨k + 1, rfl, rfl, by omega, by simpa using hxl, rfl, fun c h0 h1 => ?_⟩)
      rw [gt_set (by omega) h0 (by omega)]
      by_cases e : c = k
      · subst e; rw [if_pos rfl]; exact hv
      · rw [if_neg e]; exact hx c h0 (by omega)
    refine ⟨by omega, by omega, lat_I (by omega) (by omega) (cut_intro fun J87 h87 => ?_)⟩
    have k87 : ∀ t, t = decide (gb o k = true ∧ gt g.C k = 3) → J87 t τ := by
      rintro t rfl
      rw [h87]
      intro _
      refine bc_d (fun h => ⟨by omega, by simp; omega, lat_I (by omega) (by simp; omega) (k79 0 _ ?_ ?_)⟩) (fun h => k79 (-1) _ ?_ rfl)
      · rw [hz, if_pos h]
      · exact List.set_set ..
      · rw [hz, if_neg h]
    refine bix hop (by omega) (by omega) (bc_b (fun h1 => gixg hg.c (by omega) (by omega) (k87 _ ?_)) (fun h1 => k87 _ ?_))
    · simp [h1]
    · simp [h1]
  · have : k = g.C.length := by omega
    subst this
    exact k3 _ (ext_gt hxl (farL_len _) hx)
set_option maxRecDepth 4000 in
theorem c_far {σ : Hp} {f : Option Addr} {V : FA} {F : Fd} {b : Int} (hf : FdR σ f V F) (hF : F.ok) (hgate : ∀ c : Int, 0 ≤ c → c < F.g.C.length → gt F.g.C c = 3 → F.free c = true) :
    FCalls Try.prog N_ground_field_far #[.pointer f, .int .i64 b] σ (NewL 3 [.int .i64] σ (farS F.g fun c => F.free c && decide (c ≠ b))) := by
  refine M_ground_field_far_ok _ _ _ _ ?_
  unfold M_ground_field_far
  have ho := hF.s
  have hcn := hf.cn
  obtain ⟨l1, l2, l3⟩ := hF.len
  refine hf.dC ?_
  intro A4 l4 c4 σ5 o4
  obtain rfl : l4 = 1 := o4.len
  refine clL M_slices_Repeat_int_enter (c_Repeat_int (a := (-1 : Int)) o4.rd (by omega)) ?_
  rw [show ((V.x.cn : Nat) : Int).toNat = F.g.C.length by omega]
  have hs5 := o4.sub
  have hf5 := hf.sub hs5
  generalize hop : (fun c => F.free c && decide (c ≠ b)) = op
  have hopc : ∀ c, op c = (F.free c && decide (c ≠ b)) := fun c => by rw [← hop]
  have hgop : ∀ c : Int, 0 ≤ c → c < F.g.C.length → gt F.g.C c = 3 → (op c = true ↔ c ≠ b) := by
    intro c h0 h1 h3
    rw [hopc, hgate c h0 h1 h3]
    simp
  refine cut_intro fun J13 h13 => ?_
  have k13 : ∀ A l c X Q τ, Bfs F.g op X Q → neg X + Q.length ≤ F.g.C.length → OwnSl 3 [.int .i64] σ5 A l c Q τ → J13 A l c X τ := by
    intro A l c X Q τ hb hn hown
    rw [h13]
    intro _
    refine cut_intro fun J18 h18 => ?_
    refine ⟨fun m A l c X τ => ∃ Q, m = neg X + Q.length ∧ Bfs F.g op X Q ∧ neg X + Q.length ≤ F.g.C.length ∧ OwnSl 3 [.int .i64] σ5 A l c Q τ, ⟨_, Q, rfl, hb, hn, hown⟩, ?_⟩
    rintro m A l c X τ ⟨Q, rfl, hb, hn, hown⟩ _
    have hlq : l = Q.length := hown.len
    refine bc_d (fun hlt => ?_) (fun hlt => ?_)
    · obtain ⟨a, T, rfl⟩ : ∃ a T, Q = a :: T := by
        cases Q with
        | nil => simp at hlq; omega
        | cons a T => exact ⟨a, T, rfl⟩
      refine cut_intro fun J30 h30 => ?_
      have k30 : ∀ A l c X' T' τ', Bfs F.g op X' T' → neg X' + T'.length < neg X + (a :: T).length → OwnSl 3 [.int .i64] σ5 A l c (a :: T') τ' → J30 A l c X' τ' := by
        intro A l c X' T' τ' hb' hn' hown'
        rw [h30]
        intro _
        have hl' : l = T'.length + 1 := hown'.len
        exact ⟨by omega, by omega, bk_of _ hn' ⟨T', rfl, hb', by simp only [List.length_cons] at *; omega, hown'.tail1⟩⟩
      obtain ⟨⟨a0, a1⟩, ax⟩ := hb.q a (List.mem_cons_self ..)
      refine hix hown.rd ?_
      have hfτ := hf5.sub hown.sub
      refine clL M_ground_field_beside_enter (c_field_beside hfτ.toFdB ho a0 a1) ?_
      have hnl := nbr_len (g := F.g) (c := a)
      have hnin := nbr_in ho a0 a1
      refine ⟨fun m A l c i X' τ' => ∃ (j : Nat) (T' : List Int), m = (F.g.nbr a).length - j ∧ i = j ∧ j ≤ (F.g.nbr a).length ∧ BfsIn F.g op a j X' T' ∧ neg X' + T'.length = neg X + T.length ∧ OwnSl 3 [.int .i64] σ5 A l c (a :: T') τ', ⟨_, 0, T, rfl, rfl, by omega, hb.enter, rfl, hown⟩, ?_⟩
      rintro m A l c i X' τ' ⟨j, T', rfl, rfl, hj, hb', hn', hown'⟩ _
      have hxl := hb'.len
      refine bc_d (fun hlt2 => ?_) (fun hlt2 => ?_)
      · have hjl : j < (F.g.nbr a).length := by omega
        have kin := hnin _ (gt_mem hjl)
        refine cut_intro fun J52 h52 => ?_
        have k52 : ∀ A l c X2 T2 τ2, BfsIn F.g op a (j + 1) X2 T2 → neg X2 + T2.length = neg X + T.length → OwnSl 3 [.int .i64] σ5 A l c (a :: T2) τ2 → J52 A l c X2 τ2 := by
          intro A l c X2 T2 τ2 h1 h2 h3
          rw [h52]
          intro _
          exact wk_i (by omega) (bk_of _ (by omega) ⟨j + 1, T2, rfl, rfl, by omega, h1, h2, h3⟩)
        refine ⟨by omega, by omega, lat_I (by omega) (by omega) (cut_intro fun J61 h61 => ?_)⟩
        have k61 : ∀ t, t = decide (op (gt (F.g.nbr a) j) = true ∧ gt X' (gt (F.g.nbr a) j) < 0) → J61 t τ' := by
          rintro t rfl
          rw [h61]
          intro _
          refine bc_d (fun h => ?_) (fun h => k52 _ _ _ _ _ _ (hb'.pass hjl fun hop => ?_) hn' hown')
          · refine hix hown'.rd ?_
            have hax := (hb'.q a (List.mem_cons_self ..)).2
            have hbound := lab_lt ho hb'.pre a a0 a1
            refine ⟨a0, by omega, lat_I a0 (by omega) (wk_i (by omega) ⟨kin.1, by omega, lat_I kin.1 (by omega) (adp_own hown' (roomy_i ?_ fun A l c τ2 ho2 => ?_))⟩)⟩
            · show (a :: T').length + 1 ≤ _
              have := hn
              simp only [List.length_cons] at *
              omega
            · refine k52 _ _ _ _ (T' ++ [gt (F.g.nbr a) j]) _ (hb'.set ho hjl h.1 h.2) ?_ ho2
              have := neg_setI (X := X') (c := gt (F.g.nbr a) j) (v := gt X' a + 1) kin.1 (by omega) h.2 (by omega)
              simp only [List.length_append, List.length_cons, List.length_nil]
              omega
          · apply Classical.byContradiction
            intro hx
            exact h ⟨hop, by omega⟩
        have hfτ' := hf5.sub hown'.sub
        refine clB M_ground_field_free_enter (c_field_free hfτ' hF kin.1 kin.2) ?_
        have hoc := hopc (gt (F.g.nbr a) j)
        refine bc_b (fun h1 => bc_nd (fun h2 => ⟨kin.1, by omega, lat_I kin.1 (by omega) (k61 _ ?_)⟩) (fun h2 => k61 _ ?_)) (fun h1 => bc_f (k61 _ ?_))
        · rw [hoc, h1, decide_eq_true h2]
          simp
        · have hb0 : op (gt (F.g.nbr a) j) = false := by rw [hoc, decide_eq_false (fun h => h h2), Bool.and_false]
          rw [decide_eq_false (fun h => by rw [hb0] at h; cases h.1)]
        · rw [hoc, h1]
          simp
      · have hjj : j = (F.g.nbr a).length := by omega
        subst hjj
        refine k30 _ _ _ _ T' _ hb'.leave ?_ hown'
        simp only [List.length_cons]
        omega
    · have hq : Q = [] := List.eq_nil_of_length_eq_zero (by omega)
      subst hq
      rw [h18]
      intro _
      rw [farS_is ho (hb.done ho)]
      exact fun A n c σ' ho => NewL.base (hs5.trans hown.sub) ho fun _ _ h => h
  refine hf5.dC ?_
  refine ⟨fun m A l c i X τ => ∃ (k : Nat) (Q : List Int), m = F.g.C.length - k ∧ i = k ∧ k ≤ F.g.C.length ∧ Gates F.g op k X Q ∧ OwnSl 3 [.int .i64] σ5 A l c Q τ, ⟨_, 0, [], rfl, rfl, by omega, Gates.start, OwnSl.nil ..⟩, ?_⟩
  rintro m A l c i X τ ⟨k, Q, rfl, rfl, hk, hG, hown⟩ _
  have hxl := hG.len
  refine bc_d (fun hlt => ?_) (fun hlt => ?_)
  · have hkN : k < F.g.C.length := by omega
    refine cut_intro fun J90 h90 => ?_
    have k90 : ∀ A l c X Q τ, Gates F.g op (k + 1) X Q → OwnSl 3 [.int .i64] σ5 A l c Q τ → J90 A l c X τ := by
      intro A l c X Q τ h1 h2
      rw [h90]
      intro _
      exact wk_i (by omega) (bk_of _ (by omega) ⟨k + 1, Q, rfl, rfl, by omega, h1, h2⟩)
    refine gixg (hf5.sub hown.sub).gr.c (by omega) (by omega) (cut_intro fun J101 h101 => ?_)
    have k101 : ∀ t, t = decide (op k = true ∧ gt F.g.C k = 3) → J101 t τ := by
      rintro t rfl
      rw [h101]
      intro _
      refine bc_d (fun h => ⟨by omega, by omega, lat_I (by omega) (by omega) (adp_own hown (roomy_i ?_ fun A l c τ2 ho2 => k90 _ _ _ _ (Q ++ [(k : Int)]) _ ?_ ho2))⟩) (fun h => k90 _ _ _ _ _ _ (hG.pass h) hown)
      · show Q.length + 1 ≤ _
        have := hG.num
        omega
      · have := hG.set hkN h
        simpa using this
    refine bc_d (fun h1 => k101 _ ?_) (fun h1 => k101 _ ?_)
    · have := hgop k (by omega) (by omega) h1
      rw [← decide_not]
      exact decide_eq_decide.2 ⟨fun e => ⟨this.2 e, h1⟩, fun e => this.1 e.1⟩
    · simp [h1]
  · have : k = F.g.C.length := by omega
    subst this
    exact k13 _ _ _ _ Q _ hG.done (by have := hG.num; omega) hown
end Go.Proofs.Ytmpkiaghkhhlhaa

/- Contracts of layer 4: some, numbers, Free, Far, both sides. No conditions but those that each theorem names. -/
namespace Go.Proofs.Ytmpkiaghkhhlhaa
open Go.RowKit

/-! ### Lists of numbers -/
def nums (p : Int → Bool) (k : Nat) : List Int := ((List.range k).map fun i : Nat => (i : Int)).filter p
theorem nums_succ {p : Int → Bool} {k : Nat} : nums p (k + 1) = nums p k ++ if p k = true then [(k : Int)] else [] := by
  unfold nums
  rw [List.range_succ, List.map_append, List.filter_append]
  congr 1
  cases e : p k <;> simp [e]
theorem nums_len {p : Int → Bool} {k : Nat} : (nums p k).length ≤ k := by
  refine Nat.le_trans (List.length_filter_le ..) ?_
  simp
theorem mem_nums {p : Int → Bool} {k : Nat} {a : Int} : a ∈ nums p k ↔ (0 ≤ a ∧ a < k) ∧ p a = true := by
  unfold nums
  rw [List.mem_filter, List.mem_map]
  constructor
  · rintro ⟨⟨i, hi, rfl⟩, h⟩
    have := List.mem_range.1 hi
    exact ⟨⟨by omega, by omega⟩, h⟩
  · rintro ⟨⟨h0, h1⟩, h⟩
    exact ⟨⟨a.toNat, List.mem_range.2 (by omega), by omega⟩, h⟩
theorem nums_congr {p q : Int → Bool} {k : Nat} (h : ∀ a : Int, 0 ≤ a → a < k → p a = q a) : nums p k = nums q k := by
  unfold nums
  refine List.filter_congr fun a ha => ?_
  obtain ⟨i, hi, rfl⟩ := List.mem_map.1 ha
  have := List.mem_range.1 hi
  exact h _ (by omega) (by omega)
/-- a function's value that decides p of a cell, whatever is added to memory -/
def DecU (f : Value) (p : Int → Bool) (N : Nat) (σ : Hp) : Prop := ∀ σ', Hp.Sub σ σ' → ∀ c : Int, 0 ≤ c → c < N → ∀ K : Bool → Hp → Prop, K (p c) σ' → cl Try.prog f #[.int .i64 c] σ' fun v σ'' => ∃ t : Bool, (v = .bool t ∧ K t σ'')
theorem DecU.of {g : FuncId} {first caps : Array Value} {p : Int → Bool} {N : Nat} {σ : Hp} (he : enterB Try.prog g = true) (h : ∀ σ', Hp.Sub σ σ' → ∀ c : Int, 0 ≤ c → c < N → FCalls Try.prog g (app3 first #[.int .i64 c] caps) σ' fun u σ'' => u = .bool (p c) ∧ σ'' = σ') : DecU (.func (.func g) first caps) p N σ :=
  fun σ' hs c h0 h1 _ hk => FFun.func he ((h σ' hs c h0 h1).mono fun _ _ ⟨e1, e2⟩ => by subst e1; subst e2; exact ⟨_, rfl, hk⟩)
theorem c_some {σ : Hp} {f : Option Addr} {V : FA} {g : Gnd} {l : List Pit} {is : Value} {p : Int → Bool} (hf : FdB σ f V g l) (hl : g.C.length ≤ 4294967296) (hd : DecU is p g.C.length σ) :
    FCalls Try.prog N_ground_field_some #[.pointer f, is] σ (NewL 3 [.int .i64] σ (nums p g.C.length)) := by
  refine M_ground_field_some_ok _ _ _ _ ?_
  unfold M_ground_field_some
  have hcn := hf.gr.c.lenI
  refine cut_intro fun J3 h3 => hf.dC ?_
  refine ⟨fun m A n c i τ => ∃ k : Nat, m = g.C.length - k ∧ i = k ∧ k ≤ g.C.length ∧ OwnSl 3 [.int .i64] σ A n c (nums p k) τ, ⟨_, 0, rfl, rfl, by omega, OwnSl.nil ..⟩, ?_⟩
  rintro m A n c i τ ⟨k, rfl, rfl, hk, hown⟩ _
  refine bc_d (fun hlt => ?_) (fun hlt => ?_)
  · refine cut_intro fun J16 h16 => ?_
    have k16 : ∀ A n c σ', OwnSl 3 [.int .i64] σ A n c (nums p (k + 1)) σ' → J16 A n c σ' := by
      intro A n c σ' h
      rw [h16]
      intro _
      exact wk_i (by omega) (bk_of _ (by omega) ⟨k + 1, rfl, rfl, by omega, h⟩)
    rw [nums_succ] at k16
    refine hd τ hown.sub k (by omega) (by omega) _ ?_
    refine bc_b (fun hb => ?_) (fun hb => k16 _ _ _ _ ?_)
    · rw [if_pos hb] at k16
      refine adp_own hown (roomy_i ?_ fun A n c σ' ho => k16 _ _ _ _ ho)
      have := nums_len (p := p) (k := k)
      show (nums p k).length + 1 ≤ _
      omega
    · rw [if_neg (by rw [hb]; simp), List.append_nil]
      exact hown
  · rw [h3]
    intro _
    have : k = g.C.length := by omega
    subst this
    exact rt_of ⟨_, _, _, rfl, hown⟩
theorem c_numbers {σ : Hp} {A : Option Addr} {n c : Nat} {xs : List Bool} (hx : RdS [.bool] σ A n xs) (hl : xs.length ≤ 4294967296) :
    FCalls Try.prog N_ref04_numbers #[.slice A n c] σ (NewL 3 [.int .i64] σ (nums (gb xs) xs.length)) := by
  refine M_ref04_numbers_ok _ _ _ _ _ ?_
  unfold M_ref04_numbers
  have hcn := hx.lenB
  refine cut_intro fun J3 h3 => ?_
  refine ⟨fun m A n c i τ => ∃ k : Nat, m = xs.length - k ∧ i = k ∧ k ≤ xs.length ∧ OwnSl 3 [.int .i64] σ A n c (nums (gb xs) k) τ, ⟨_, 0, rfl, rfl, by omega, OwnSl.nil ..⟩, ?_⟩
  rintro m A' n' c' i τ ⟨k, rfl, rfl, hk, hown⟩ _
  refine bc_d (fun hlt => ?_) (fun hlt => ?_)
  · refine cut_intro fun J13 h13 => ?_
    have k13 : ∀ A n c σ', OwnSl 3 [.int .i64] σ A n c (nums (gb xs) (k + 1)) σ' → J13 A n c σ' := by
      intro A n c σ' h
      rw [h13]
      intro _
      exact wk_i (by omega) (bk_of _ (by omega) ⟨k + 1, rfl, rfl, by omega, h⟩)
    rw [nums_succ] at k13
    refine bix (hx.sub hown.sub) (by omega) (by omega) ?_
    refine bc_b (fun hb => ?_) (fun hb => k13 _ _ _ _ ?_)
    · rw [if_pos hb] at k13
      refine adp_own hown (roomy_i ?_ fun A n c σ' ho => k13 _ _ _ _ ho)
      have := nums_len (p := gb xs) (k := k)
      show (nums (gb xs) k).length + 1 ≤ _
      omega
    · rw [if_neg (by rw [hb]; simp), List.append_nil]
      exact hown
  · rw [h3]
    intro _
    have : k = xs.length := by omega
    subst this
    exact rt_of ⟨_, _, _, rfl, hown⟩
/-- what hands back numbers and an error -/
def NewI (σ : Hp) (xs : List Int) (e : Int) : Value → Hp → Prop := fun v σ' => ∃ A n c, v = .tuple #[.slice A n c, .int .i64 e] ∧ OwnSl 3 [.int .i64] σ A n c xs σ'
theorem NewI.nil {σ : Hp} {e : Int} : NewI σ [] e (.tuple #[.slice none 0 0, .int .i64 e]) σ := ⟨none, 0, 0, rfl, OwnSl.nil ..⟩
theorem NewI.base {σ σ' σ2 : Hp} {xs : List Int} {e : Int} {A : Option Addr} {n c : Nat} {R : Value → Hp → Prop} (hs : Hp.Sub σ σ') (h : OwnSl 3 [.int .i64] σ' A n c xs σ2) (hk : ∀ v σ3, NewI σ xs e v σ3 → R v σ3) : rt σ2 R (.tuple #[.slice A n c, .int .i64 e]) := by
  obtain ⟨σ3, h1, h2⟩ := h.base hs
  exact rt_sub h2 (hk _ _ ⟨_, _, _, rfl, h1⟩)
theorem gate_open {g : Gnd} {l : List Pit} {st : List Sit} (h : (chkS g l st).2 = 0) {c : Int} (h0 : 0 ≤ c) (h1 : c < g.C.length) (h3 : gt g.C c = 3) : gb (g.opn l st) c = true := by
  obtain ⟨hch, hG, hsl, _, hall⟩ := chkS_ok h
  rw [gb_opn h0 h1, hsl]
  cases e : gb (g.takS l st (-1) l.length) c with
  | false => simp [h3]
  | true =>
    obtain ⟨j, hj, _, hc⟩ := (gb_takS hG h0 h1 l.length (Nat.le_refl _)).1 e
    have hs := hall j hj
    unfold Gnd.siteOK at hs
    simp only [Bool.or_eq_true, Bool.and_eq_true, decide_eq_true_eq] at hs
    rcases hs with hs | ⟨_, hs⟩
    · rw [hs, cover_neg (by decide)] at hc
      cases hc
    · unfold Gnd.bes at hs
      simp only [Bool.and_eq_true] at hs
      have := all_mem (fit_is hs.1) c hc
      simp only [Gnd.grass, decide_eq_true_eq] at this
      omega
theorem gate_free {g : Gnd} {l : List Pit} {st : List Sit} (h : (chkS g l st).2 = 0) : ∀ c : Int, 0 ≤ c → c < (fdK g l st l.length).g.C.length → gt (fdK g l st l.length).g.C c = 3 → (fdK g l st l.length).free c = true := by
  intro c h0 h1 h3
  rw [(fdK_g _).1] at h1 h3
  rw [free_opn h h0 h1]
  exact gate_open h h0 h1 h3
def freeS (g : Gnd) (l : List Pit) (st : List Sit) : List Int × Int := if (chkS g l st).2 ≠ 0 then ([], (chkS g l st).2) else (nums (gb (g.opn l st)) g.C.length, 0)
def farE (g : Gnd) (l : List Pit) (st : List Sit) : List Int × Int := if (chkS g l st).2 ≠ 0 then ([], (chkS g l st).2) else (farS g (gb (g.opn l st)), 0)
section
variable {σ : Hp} {x : GV} {g : Gnd} {lA sA : Option Addr} {ln lc sn sc : Nat} {l : List Pit} {st : List Sit}
theorem c_ref04_Free (hg : GRd σ x g) (hl : RdS sP σ lA ln l) (hst : RdS sS σ sA sn st) (hsc : sn ≤ sc) :
    FCalls Try.prog N_ref04_Free #[x.v g, .slice lA ln lc, .slice sA sn sc] σ (NewI σ (freeS g l st).1 (freeS g l st).2) := by
  refine M_ref04_Free_ok _ _ _ _ _ _ _ _ _ _ _ _ _ _ _ _ ?_
  unfold M_ref04_Free
  refine clII M_ref04_Check_enter (c_ref04_Check hg hl hst hsc) ?_
  refine bc_nd (fun h => rt_of ?_) (fun h => ?_)
  · rw [freeS, if_pos h]
    exact NewI.nil
  obtain ⟨hch, hG, hsl, _, _⟩ := chkS_ok h
  have hok := Gnd.okS_len hG.s
  rw [freeS, if_neg (by simp [h])]
  refine clL M_ref04_Open_enter (c_Open hg hG hl hst (by omega)) ?_
  intro A n c σ' hown
  refine cl_of M_ref04_numbers_enter (c_numbers hown.rd (by rw [opn_len]; omega)) ?_
  rw [opn_len]
  rintro v σ2 ⟨A2, n2, c2, rfl, h2⟩
  exact ⟨_, _, _, rfl, NewI.base hown.sub h2 fun _ _ h => h⟩
theorem c_ground_Free (hg : GRd σ x g) (hl : RdS sP σ lA ln l) (hst : RdS sS σ sA sn st) :
    FCalls Try.prog N_ground_Free #[x.v g, .slice lA ln lc, .slice sA sn sc] σ (NewI σ (freeS g l st).1 (freeS g l st).2) := by
  refine M_ground_Free_ok _ _ _ _ _ _ _ _ _ _ _ _ _ _ _ _ ?_
  unfold M_ground_Free
  refine cl_of M_ground_newField_enter (c_newField hg hl hst) ?_
  rintro v σ2 (⟨hne, rfl, rfl⟩ | ⟨h, f, V, σ0, rfl, hs0, hfw⟩)
  · refine ⟨_, _, _, rfl, bc_nd (fun _ => rt_of ?_) (fun h => absurd h hne)⟩
    rw [freeS, if_pos hne]
    exact NewI.nil
  refine ⟨_, _, _, rfl, bc_nd (fun h' => absurd h h') (fun _ => ?_)⟩
  obtain ⟨hch, hG, hsl, _, hall⟩ := chkS_ok h
  have hok := Gnd.okS_len hG.s
  have hF := fdK_ok (st := st) hch l.length
  obtain ⟨eg, el⟩ := fdK_g (g := g) (l := l) (st := st) l.length
  have hfr := hfw.r
  have hb : FdB σ2 f V g l := by have := hfr.toFdB; rw [eg, el] at this; exact this
  rw [freeS, if_neg (by simp [h])]
  refine cl_of M_ground_field_some_enter (c_some (p := gb (g.opn l st)) hb (by omega) (DecU.of M_ground_field_free_enter fun σ' hs c h0 h1 => ?_)) ?_
  · rw [← free_opn h h0 h1]
    exact c_field_free (hfr.sub hs) hF h0 (by rw [eg]; exact h1)
  · rintro v σ3 ⟨A2, n2, c2, rfl, h2⟩
    exact ⟨_, _, _, rfl, NewI.base (hs0.trans hfw.base) h2 fun _ _ h => h⟩
theorem c_ref04_Far (hg : GRd σ x g) (hl : RdS sP σ lA ln l) (hst : RdS sS σ sA sn st) (hsc : sn ≤ sc) :
    FCalls Try.prog N_ref04_Far #[x.v g, .slice lA ln lc, .slice sA sn sc] σ (NewI σ (farE g l st).1 (farE g l st).2) := by
  refine M_ref04_Far_ok _ _ _ _ _ _ _ _ _ _ _ _ _ _ _ _ ?_
  unfold M_ref04_Far
  refine clII M_ref04_Check_enter (c_ref04_Check hg hl hst hsc) ?_
  refine bc_nd (fun h => rt_of ?_) (fun h => ?_)
  · rw [farE, if_pos h]
    exact NewI.nil
  obtain ⟨hch, hG, hsl, _, _⟩ := chkS_ok h
  rw [farE, if_neg (by simp [h])]
  refine clLs M_ref04_Open_enter (c_Open hg hG hl hst (by omega)) ?_
  intro A n c σ' hown
  refine clL M_ref04_far_enter (c_ref04_far (hg.sub hown.sub) hG.s hown.rd opn_len) ?_
  intro A2 n2 c2 σ2 h2
  exact NewI.base hown.sub h2 fun _ _ h => h
theorem far_fdK (h : (chkS g l st).2 = 0) {b : Int} : farS (fdK g l st l.length).g (fun c => (fdK g l st l.length).free c && decide (c ≠ b)) = farS g fun c => gb (g.opn l st) c && decide (c ≠ b) := by
  obtain ⟨hch, hG, hsl, _, hall⟩ := chkS_ok h
  rw [(fdK_g _).1]
  exact farS_congr hG.s fun c h0 h1 => by rw [free_opn h h0 h1]
theorem c_ground_Far (hg : GRd σ x g) (hl : RdS sP σ lA ln l) (hst : RdS sS σ sA sn st) :
    FCalls Try.prog N_ground_Far #[x.v g, .slice lA ln lc, .slice sA sn sc] σ (NewI σ (farE g l st).1 (farE g l st).2) := by
  refine M_ground_Far_ok _ _ _ _ _ _ _ _ _ _ _ _ _ _ _ _ ?_
  unfold M_ground_Far
  refine cl_of M_ground_newField_enter (c_newField hg hl hst) ?_
  rintro v σ2 (⟨hne, rfl, rfl⟩ | ⟨h, f, V, σ0, rfl, hs0, hfw⟩)
  · refine ⟨_, _, _, rfl, bc_nd (fun _ => rt_of ?_) (fun h => absurd h hne)⟩
    rw [farE, if_pos hne]
    exact NewI.nil
  refine ⟨_, _, _, rfl, bc_nd (fun h' => absurd h h') (fun _ => ?_)⟩
  obtain ⟨hch, hG, hsl, _, hall⟩ := chkS_ok h
  have hF := fdK_ok (st := st) hch l.length
  rw [farE, if_neg (by simp [h])]
  refine cl_of M_ground_field_far_enter (c_far (b := -1) hfw.r hF (gate_free h)) ?_
  have e : farS g (fun c => gb (g.opn l st) c && decide (c ≠ -1)) = farS g (gb (g.opn l st)) := farS_congr hG.s fun c h0 h1 => by
    rw [decide_eq_true (show c ≠ -1 by omega), Bool.and_true]
  rw [far_fdK h, e]
  rintro v σ3 ⟨A2, n2, c2, rfl, h2⟩
  exact ⟨_, _, _, rfl, NewI.base (hs0.trans hfw.base) h2 fun _ _ h => h⟩
end
end Go.Proofs.Ytmpkiaghkhhlhaa

/- Contracts of layer 4: Trapped and Safe, both sides. No conditions but those that each theorem names. -/
namespace Go.Proofs.Ytmpkiaghkhhlhaa
open Go.RowKit

/-- open, but for one cell -/
def less (op : Int → Bool) (b : Int) : Int → Bool := fun c => op c && decide (c ≠ b)
/-- is a cell trapped by a blocked one? -/
def trp (g : Gnd) (op : Int → Bool) (b c : Int) : Bool := less op b c && decide (gt (farS g (less op b)) c < 0)
def mkB (N : Nat) (f : Int → Bool) : List Bool := (List.range N).map fun c : Nat => f c
theorem mkB_len {N : Nat} {f : Int → Bool} : (mkB N f).length = N := by simp [mkB]
theorem gb_mk {N : Nat} {f : Int → Bool} {c : Int} (h0 : 0 ≤ c) (h1 : c < N) : gb (mkB N f) c = f c := by
  rw [gb_eq (by rw [mkB_len]; omega)]
  unfold mkB
  simp only [List.getElem_map, List.getElem_range]
  congr 1
  omega
theorem ext_gb {X Y : List Bool} {N : Nat} (hX : X.length = N) (hY : Y.length = N) (h : ∀ c : Int, 0 ≤ c → c < N → gb X c = gb Y c) : X = Y := by
  refine List.ext_getElem (by omega) fun i hi hi' => ?_
  have := h i (by omega) (by omega)
  rwa [gb_nat hi, gb_nat hi'] at this
theorem bl_rd {σ : Hp} {A : Option Addr} {n : Nat} {xs : List Bool} (h : RdS [.bool] σ A n xs) : n = xs.length := h.1
set_option maxRecDepth 4000 in
theorem c_ref04_trapped {σ : Hp} {x : GV} {g : Gnd} {oA : Option Addr} {on oc : Nat} {o : List Bool} {b : Int} (hg : GRd σ x g) (ho : g.okS = true) (hop : RdS [.bool] σ oA on o) (hol : o.length = g.C.length) (b0 : 0 ≤ b) (b1 : b < g.C.length) :
    FCalls Try.prog N_ref04_trapped #[x.v g, .slice oA on oc, .int .i64 b] σ (NewL 4 [.bool] σ (mkB g.C.length (trp g (gb o) b))) := by
  refine M_ref04_trapped_ok _ _ _ _ _ _ _ _ _ _ _ _ _ _ ?_
  unfold M_ref04_trapped
  have hon := hop.lenB
  obtain ⟨l1, l2, l3⟩ := Gnd.okS_len ho
  refine adp_nil.2 ⟨o, hop, roomy_i ?_ ⟨b0, ?_, lat_b (xs := o) b0 (by omega) ?_⟩⟩
  · show 0 + o.length ≤ _
    omega
  · show b < ((List.length o : Nat) : Int)
    omega
  have hlen : (List.set o b.toNat false).length = g.C.length := by simpa using hol
  have hgs : ∀ c : Int, 0 ≤ c → c < g.C.length → gb (List.set o b.toNat false) c = less (gb o) b c := by
    intro c h0 h1
    rw [gb_set b0 h0 (by omega)]
    unfold less
    by_cases e : c = b
    · simp [e]
    · simp [e]
  refine (?_ : ∀ r : List Bool, r.length = g.C.length → (∀ c : Int, 0 ≤ c → c < g.C.length → gb r c = less (gb o) b c) → exl 4 [.bool] r σ _) (List.set o b.toNat false) hlen hgs
  intro r hlen hgs A5 l5 c5 σ6 o5
  have hfar : farS g (gb r) = farS g (less (gb o) b) := farS_congr ho hgs
  have hc := c_ref04_far (oc := c5) (o := r) (hg.sub o5.sub) ho o5.rd hlen
  rw [hfar] at hc
  have hFl := farS_len (g := g) (op := less (gb o) b)
  have htrp : ∀ c, trp g (gb o) b c = (less (gb o) b c && decide (gt (farS g (less (gb o) b)) c < 0)) := fun c => rfl
  generalize farS g (less (gb o) b) = X at *
  refine clL M_ref04_far_enter hc ?_
  refine adp_own o5 ⟨by omega, by omega, by omega, cut_intro fun J16 h16 => ?_⟩
  have hrl : (List.replicate (((on : Nat) : Int) : Int).toNat false : List Bool).length = g.C.length := by rw [List.length_replicate]; omega
  refine ⟨fun m i xs τ => ∃ k : Nat, m = g.C.length - k ∧ i = k ∧ k ≤ g.C.length ∧ xs.length = g.C.length ∧ τ = σ ∧ ∀ c : Int, 0 ≤ c → c < k → gb xs c = trp g (gb o) b c, ⟨_, 0, rfl, rfl, by omega, hrl, rfl, fun c h0 h1 => by omega⟩, ?_⟩
  rintro m i xs τ ⟨k, rfl, rfl, hk, hxl, rfl, hx⟩ _
  refine bc_d (fun hlt => ?_) (fun hlt => ?_)
  · have hkN : (k : Int) < g.C.length := by omega
    refine cut_intro fun J28 h28 => ?_
    have k28 : ∀ v : Bool, v = trp g (gb o) b k → J28 (xs.set (k : Int).toNat v) τ := by
      rintro v hv
      rw [h28]
      intro _
      refine wk_i (by omega) (bk_of _ (by omega) ⟨k + 1, rfl, rfl, by omega, by simpa using hxl, rfl, fun c h0 h1 => ?_⟩)
      rw [gb_set (by omega) h0 (by omega)]
      by_cases e : c = k
      · subst e; rw [if_pos rfl]; exact hv
      · rw [if_neg e]; exact hx c h0 (by omega)
    have hrk := hgs k (by omega) hkN
    refine ⟨by omega, by omega, lat_b (by omega) (by omega) (bc_b (fun h1 => ⟨by omega, by omega, lat_I (by omega) (by omega) ⟨by omega, by omega, lat_b (by omega) (by omega) (k28 _ ?_)⟩⟩) (fun h1 => ⟨by omega, by omega, lat_b (by omega) (by omega) (k28 _ ?_)⟩))⟩
    · rw [htrp, ← hrk, h1, Bool.true_and]
    · rw [htrp, ← hrk, h1, Bool.false_and]
  · rw [h16]
    intro _
    have : k = g.C.length := by omega
    subst this
    have : xs = mkB g.C.length (trp g (gb o) b) := ext_gb hxl mkB_len fun c h0 h1 => by rw [hx c h0 h1, gb_mk h0 h1]
    rw [this]
    exact fun A n c σ' ho => rt_of ⟨_, _, _, rfl, ho⟩
theorem c_trapped_1 {σ : Hp} {f cap0 cap1 cap2 A : Option Addr} {n cp : Nat} {V : FA} {F : Fd} {X : List Int} {b c : Int} (hf : FdR σ f V F) (hF : F.ok) (h0 : Bx1 σ cap0 (.pointer f)) (h1 : Bx1 σ cap1 (.int .i64 b)) (h2 : Bx1 σ cap2 (.slice A n cp))
    (hX : RdS [.int .i64] σ A n X) (hl : X.length = F.g.C.length) (c0 : 0 ≤ c) (c1 : c < F.g.C.length) :
    FCalls Try.prog N_ground_field_trapped_1 #[.int .i64 c, .pointer cap0, .pointer cap1, .pointer cap2] σ fun v σ' => v = .bool (F.free c && decide (c ≠ b) && decide (gt X c < 0)) ∧ σ' = σ := by
  refine M_ground_field_trapped_1_ok _ _ _ _ _ _ ?_
  unfold M_ground_field_trapped_1
  refine h0.ldP (clB M_ground_field_free_enter (c_field_free hf hF c0 c1) ?_)
  refine bc_b (fun hfr => h1.ldI (bc_nd (fun hne => h2.ldS (gixg hX c0 (by omega) (rt_of ⟨?_, rfl⟩))) (fun he => rt_of ⟨?_, rfl⟩))) (fun hfr => bc_f (rt_of ⟨?_, rfl⟩))
  · simp [hfr, hne]
  · simp [he]
  · simp [hfr]
theorem c_trapped {σ : Hp} {f : Option Addr} {V : FA} {F : Fd} {b : Int} (hf : FdR σ f V F) (hF : F.ok) (hgate : ∀ c : Int, 0 ≤ c → c < F.g.C.length → gt F.g.C c = 3 → F.free c = true) :
    FCalls Try.prog N_ground_field_trapped #[.pointer f, .int .i64 b] σ (NewL 3 [.int .i64] σ (nums (trp F.g F.free b) F.g.C.length)) := by
  refine M_ground_field_trapped_ok _ _ _ _ ?_
  unfold M_ground_field_trapped
  obtain ⟨l1, l2, l3⟩ := hF.len
  refine cl_of M_ground_field_far_enter (c_far (b := b) hf hF hgate) ?_
  rintro v σ2 ⟨A3, l3, c3, rfl, o3⟩
  refine ⟨_, _, _, rfl, ?_⟩
  intro b4 n4 b6 n6 b8 n8
  have e4 : Hp.Sub σ2 (σ2.ins b4 (.cells #[.pointer f] 67)) := Hp.Sub.ins _ n4
  have e6 : Hp.Sub (σ2.ins b4 (.cells #[.pointer f] 67)) ((σ2.ins b4 (.cells #[.pointer f] 67)).ins b6 (.cells #[.int .i64 b] 3)) := Hp.Sub.ins _ n6
  have e8 := Hp.Sub.ins (.cells #[.slice A3 l3 c3] 22) n8
  have x4 : Bx1 (σ2.ins b4 (.cells #[.pointer f] 67)) (some ⟨b4, 0, none⟩) (.pointer f) := Bx1.ins
  have x6 : Bx1 ((σ2.ins b4 (.cells #[.pointer f] 67)).ins b6 (.cells #[.int .i64 b] 3)) (some ⟨b6, 0, none⟩) (.int .i64 b) := Bx1.ins
  have x8 : Bx1 (((σ2.ins b4 (.cells #[.pointer f] 67)).ins b6 (.cells #[.int .i64 b] 3)).ins b8 (.cells #[.slice A3 l3 c3] 22)) (some ⟨b8, 0, none⟩) (.slice A3 l3 c3) := Bx1.ins
  have x4 := x4.sub (e6.trans e8)
  have x6 := x6.sub e8
  have hs := o3.sub.trans (e4.trans (e6.trans e8))
  have hX : RdS [.int .i64] _ A3 l3 (farS F.g fun c => F.free c && decide (c ≠ b)) := o3.rd.sub (e4.trans (e6.trans e8))
  have hf' := hf.sub hs
  generalize (((σ2.ins b4 (.cells #[.pointer f] 67)).ins b6 (.cells #[.int .i64 b] 3)).ins b8 (.cells #[.slice A3 l3 c3] 22)) = τ at *
  refine cl_of M_ground_field_some_enter (c_some (p := trp F.g F.free b) hf'.toFdB (by omega) (DecU.of M_ground_field_trapped_1_enter fun σ' hs' c h0 h1 => ?_)) ?_
  · exact c_trapped_1 (hf'.sub hs') hF (x4.sub hs') (x6.sub hs') (x8.sub hs') (hX.sub hs') farS_len h0 h1
  · rintro v σ3 ⟨A2, n2, c2, rfl, h2⟩
    exact ⟨_, _, _, rfl, NewL.base hs h2 fun _ _ h => h⟩
def trpE (g : Gnd) (l : List Pit) (st : List Sit) (b : Int) : List Int × Int :=
  if (chkS g l st).2 ≠ 0 then ([], (chkS g l st).2) else if ¬ (0 ≤ b ∧ b ≤ (g.C.length : Int) - 1) then ([], 1) else (nums (trp g (gb (g.opn l st)) b) g.C.length, 0)
theorem trp_congr {g : Gnd} {op op' : Int → Bool} (ho : g.okS = true) (he : ∀ c : Int, 0 ≤ c → c < g.C.length → op c = op' c) {b c : Int} (h0 : 0 ≤ c) (h1 : c < g.C.length) : trp g op b c = trp g op' b c := by
  have : farS g (less op b) = farS g (less op' b) := farS_congr ho fun c h0 h1 => by unfold less; rw [he c h0 h1]
  unfold trp
  rw [this]
  unfold less
  rw [he c h0 h1]
section
variable {σ : Hp} {x : GV} {g : Gnd} {lA sA : Option Addr} {ln lc sn sc : Nat} {l : List Pit} {st : List Sit} {b : Int}
theorem trp_fdK (h : (chkS g l st).2 = 0) {c : Int} (h0 : 0 ≤ c) (h1 : c < g.C.length) : trp (fdK g l st l.length).g (fdK g l st l.length).free b c = trp g (gb (g.opn l st)) b c := by
  obtain ⟨_, hG, _, _, _⟩ := chkS_ok h
  rw [(fdK_g _).1]
  exact trp_congr hG.s (fun c h0 h1 => free_opn h h0 h1) h0 h1
theorem c_ref04_Trapped (hg : GRd σ x g) (hl : RdS sP σ lA ln l) (hst : RdS sS σ sA sn st) (hsc : sn ≤ sc) :
    FCalls Try.prog N_ref04_Trapped #[x.v g, .slice lA ln lc, .slice sA sn sc, .int .i64 b] σ (NewI σ (trpE g l st b).1 (trpE g l st b).2) := by
  refine M_ref04_Trapped_ok _ _ _ _ _ _ _ _ _ _ _ _ _ _ _ _ _ ?_
  unfold M_ref04_Trapped
  have hcn := hg.c.lenI
  refine clII M_ref04_Check_enter (c_ref04_Check hg hl hst hsc) ?_
  refine bc_nd (fun h => rt_of ?_) (fun h => ?_)
  · rw [trpE, if_pos h]
    exact NewI.nil
  obtain ⟨hch, hG, hsl, _, _⟩ := chkS_ok h
  have hok := Gnd.okS_len hG.s
  refine wk_i (by omega) (l_rw (bc_nd (fun h2 => rt_of ?_) (fun h2 => ?_)))
  · rw [hcn] at h2
    rw [trpE, if_neg (by simp [h]), if_pos h2]
    exact NewI.nil
  rw [hcn] at h2
  rw [trpE, if_neg (by simp [h]), if_neg (by simpa using h2)]
  refine clLs M_ref04_Open_enter (c_Open hg hG hl hst (by omega)) ?_
  intro A n c σ' hown
  refine cl_of M_ref04_trapped_enter (c_ref04_trapped (hg.sub hown.sub) hG.s hown.rd opn_len h2.1 (by omega)) ?_
  rintro v σ2 ⟨A2, n2, c2, rfl, h2⟩
  refine ⟨_, _, _, rfl, ?_⟩
  refine cl_of M_ref04_numbers_enter (c_numbers h2.rd (by rw [mkB_len]; omega)) ?_
  rw [mkB_len, nums_congr (q := trp g (gb (g.opn l st)) b) fun a h0 h1 => gb_mk h0 h1]
  rintro v σ3 ⟨A3, n3, c3, rfl, h3⟩
  exact ⟨_, _, _, rfl, NewI.base (hown.sub.trans h2.sub) h3 fun _ _ h => h⟩
theorem c_ground_Trapped (hg : GRd σ x g) (hl : RdS sP σ lA ln l) (hst : RdS sS σ sA sn st) :
    FCalls Try.prog N_ground_Trapped #[x.v g, .slice lA ln lc, .slice sA sn sc, .int .i64 b] σ (NewI σ (trpE g l st b).1 (trpE g l st b).2) := by
  refine M_ground_Trapped_ok _ _ _ _ _ _ _ _ _ _ _ _ _ _ _ _ _ ?_
  unfold M_ground_Trapped
  intro A1 l1' c1 σ2 o1
  refine cl_of M_ground_withCell_enter (c_withCell (ks := [b]) (hg.sub o1.sub) (hl.sub o1.sub) (hst.sub o1.sub) o1.rd (by simp)) ?_
  have hany : ([b].any fun c => !decide (0 ≤ c ∧ c ≤ (g.C.length : Int) - 1)) = !decide (0 ≤ b ∧ b ≤ (g.C.length : Int) - 1) := by
    simp only [List.any_cons, List.any_nil, Bool.or_false]
  rw [hany]
  rintro v σ4 (⟨hne, rfl, rfl⟩ | ⟨he0, f, V, σ0, rfl, hs0, hfw⟩)
  · refine ⟨_, _, rfl, bc_nd (fun _ => rt_sub o1.sub ?_) (fun h => absurd h hne)⟩
    unfold trpE
    by_cases e : (chkS g l st).2 ≠ 0
    · rw [if_pos e, if_pos e]
      exact NewI.nil
    · rw [if_neg e] at hne
      rw [if_neg e, if_neg e]
      by_cases hc : 0 ≤ b ∧ b ≤ (g.C.length : Int) - 1
      · rw [decide_eq_true hc] at hne
        simp at hne
      · rw [if_pos hc, decide_eq_false hc]
        exact NewI.nil
  · have hch : (chkS g l st).2 = 0 := by
      by_cases e : (chkS g l st).2 ≠ 0
      · rw [if_pos e] at he0; exact absurd he0 e
      · simpa using e
    rw [if_neg (by simp [hch])] at he0 ⊢
    have hb : 0 ≤ b ∧ b ≤ (g.C.length : Int) - 1 := by
      apply Classical.byContradiction
      intro hc
      rw [decide_eq_false hc] at he0
      simp at he0
    refine ⟨_, _, rfl, bc_nd (fun h => absurd he0 h) (fun _ => ?_)⟩
    obtain ⟨hchk, hG, hsl, _, hall⟩ := chkS_ok hch
    rw [trpE, if_neg (by simp [hch]), if_neg (by simpa using hb)]
    have hF := fdK_ok (st := st) hchk l.length
    refine cl_of M_ground_field_trapped_enter (c_trapped (b := b) hfw.r hF (gate_free hch)) ?_
    have eg : (fdK g l st l.length).g.C.length = g.C.length := by rw [(fdK_g _).1]
    rw [eg, nums_congr fun a h0 h1 => trp_fdK (b := b) hch h0 h1]
    rintro v σ3 ⟨A2, n2, c2, rfl, h2⟩
    exact ⟨_, _, _, rfl, NewI.base (o1.sub.trans (hs0.trans hfw.base)) h2 fun _ _ h => h⟩
end
end Go.Proofs.Ytmpkiaghkhhlhaa

