/- Texts Gd6: what the claims of this seat rest on; each text says what it proves. -/
import Derived.Test.YtmpkiaghkhhlhaaB18

/- Plain law of layer 4: one more pitch. The layout stays right, no cell is opened, nobody gets nearer to a gate, and nobody gets free who was trapped. No program in sight. -/
namespace Go.Proofs.Ytmpkiaghkhhlhaa
open Go.RowKit

section
variable {g : Gnd} {l : List Pit} {st : List Sit}
theorem more_sit {a j : Nat} {s : Sit} (ha : a < st.length) : sit (st.set a s) j = if j = a then s else sit st j := sit_set ha
theorem more_chk (h : (chkS g l st).2 = 0) {a : Nat} (ha : a < l.length) {s : Sit} (hs : g.bes (pt l a) s (g.takS l st a l.length) = true) : chkS g l (st.set a s) = (0, 0) := by
  obtain ⟨hP, hG, hlen, _, hall⟩ := chkS_ok h
  refine chkS_of hP (by simpa using hlen) fun k hk => ?_
  have hak : a < st.length := by omega
  have hin := Gnd.cover_in (s := s) hG.s (hG.pt ha)
  unfold Gnd.siteOK
  rw [more_sit hak]
  by_cases e : k = a
  · subst e
    rw [if_pos rfl]
    have h0 := fit_pos (bes_fit hs)
    have : g.bes (pt l k) s (g.takS l (st.set k s) (-1) k) = true := bes_mono (fun c hc hf => by
      obtain ⟨c0, c1⟩ := hin c hc
      obtain ⟨j, hj, _, hjc⟩ := (gb_takS hG c0 c1 k (by omega)).1 hf
      rw [more_sit hak, if_neg (by omega)] at hjc
      exact (gb_takS hG c0 c1 l.length (Nat.le_refl _)).2 ⟨j, by omega, by omega, hjc⟩) hs
    rw [this]
    simp [h0]
  · rw [if_neg e]
    have hk1 := hall k hk
    unfold Gnd.siteOK at hk1
    rw [Bool.or_eq_true, decide_eq_true_eq, Bool.and_eq_true, decide_eq_true_eq] at hk1
    rcases hk1 with h1 | ⟨h1, h2⟩
    · simp [h1]
    · have hin2 := Gnd.cover_in (s := sit st k) hG.s (hG.pt hk)
      have : g.bes (pt l k) (sit st k) (g.takS l (st.set a s) (-1) k) = true := bes_mono (fun c hc hf => by
        obtain ⟨c0, c1⟩ := hin2 c hc
        obtain ⟨j, hj, _, hjc⟩ := (gb_takS hG c0 c1 k (by omega)).1 hf
        rw [more_sit hak] at hjc
        split at hjc
        · rename_i ej
          subst ej
          have : gb (g.takS l st j l.length) c = true := (gb_takS hG c0 c1 l.length (Nat.le_refl _)).2 ⟨k, hk, by omega, hc⟩
          unfold Gnd.bes at hs
          simp only [Bool.and_eq_true, List.all_eq_true] at hs
          have h3 := hs.2 c hjc
          rw [this] at h3
          cases h3
        · exact (gb_takS hG c0 c1 k (by omega)).2 ⟨j, hj, by omega, hjc⟩) h2
      rw [this]
      simp [h1]
theorem more_opn (h : (chkS g l st).2 = 0) {a : Nat} (ha : a < l.length) (hno : (sit st a).1 < 0) {s : Sit} {c : Int} (h0 : 0 ≤ c) (h1 : c < g.C.length) (hc : gb (g.opn l (st.set a s)) c = true) : gb (g.opn l st) c = true := by
  obtain ⟨hP, hG, hlen, _, hall⟩ := chkS_ok h
  rw [gb_opn h0 h1, Bool.and_eq_true] at hc ⊢
  refine ⟨?_, hc.2⟩
  cases e : gb (g.takS l st (-1) st.length) c with
  | false => rfl
  | true =>
    obtain ⟨j, hj, hb, hjc⟩ := (gb_takS hG h0 h1 st.length (by omega)).1 e
    have : gb (g.takS l (st.set a s) (-1) (st.set a s).length) c = true := by
      refine (gb_takS hG h0 h1 _ (by simp; omega)).2 ⟨j, by simpa using hj, hb, ?_⟩
      rw [more_sit (by omega), if_neg]
      · exact hjc
      · intro ej
        rw [ej, cover_neg hno] at hjc
        cases hjc
    rw [this] at hc
    simp at hc
end

theorem Lab.mono {g : Gnd} {op op' : Int → Bool} {X Y : List Int} (ho : g.okS = true) (hX : Lab g op X) (hY : Lab g op' Y) (hop : ∀ c : Int, 0 ≤ c → c < g.C.length → op' c = true → op c = true) : ∀ (k : Nat) (c : Int), 0 ≤ c → c < g.C.length → gt Y c = k → 0 ≤ gt X c ∧ gt X c ≤ k
  | 0, c, h0, h1, h => by
    have h2 := (hY.zero c h0 h1).1 h
    have := (hX.zero c h0 h1).2 ⟨hop c h0 h1 h2.1, h2.2⟩
    omega
  | k + 1, c, h0, h1, h => by
    obtain ⟨n, hn, he⟩ := hY.pre c h0 h1 (by omega)
    obtain ⟨n0, n1⟩ := nbr_in ho h0 h1 n hn
    obtain ⟨i1, i2⟩ := Lab.mono ho hX hY hop k n n0 n1 (by omega)
    have := hX.step c h0 h1 (hop c h0 h1 (hY.isop c h0 h1 (by omega))) n hn i1
    omega
theorem far_mono {g : Gnd} {op op' : Int → Bool} (ho : g.okS = true) (hop : ∀ c : Int, 0 ≤ c → c < g.C.length → op' c = true → op c = true) {c : Int} (h0 : 0 ≤ c) (h1 : c < g.C.length) (hc : 0 ≤ gt (farS g op') c) : 0 ≤ gt (farS g op) c ∧ gt (farS g op) c ≤ gt (farS g op') c := by
  have := Lab.mono ho (farS_lab (op := op) ho) (farS_lab (op := op') ho) hop (gt (farS g op') c).toNat c h0 h1 (by omega)
  omega
theorem trp_mono {g : Gnd} {op op' : Int → Bool} (ho : g.okS = true) (hop : ∀ c : Int, 0 ≤ c → c < g.C.length → op' c = true → op c = true) {b c : Int} (h0 : 0 ≤ c) (h1 : c < g.C.length) (hc : op' c = true) (ht : trp g op b c = true) : trp g op' b c = true := by
  unfold trp at ht ⊢
  rw [Bool.and_eq_true, decide_eq_true_eq] at ht ⊢
  unfold less at ht ⊢
  rw [Bool.and_eq_true] at ht ⊢
  refine ⟨⟨hc, ht.1.2⟩, ?_⟩
  rcases Int.lt_or_le (gt (farS g fun c => op' c && decide (c ≠ b)) c) 0 with hlt | hge
  · exact hlt
  · have := far_mono (op := fun c => op c && decide (c ≠ b)) ho (fun c h0 h1 h => by
      simp only [Bool.and_eq_true] at h ⊢
      exact ⟨hop c h0 h1 h.1, h.2⟩) h0 h1 hge
    have := ht.2
    omega
theorem far_near {g : Gnd} {op : Int → Bool} (ho : g.okS = true) {c n : Int} (h0 : 0 ≤ c) (h1 : c < g.C.length) (hn : n ∈ g.nbr c) (hc : op c = true) (hon : op n = true) : ¬ (1 < gt (farS g op) c - gt (farS g op) n) ∧ (gt (farS g op) c < 0 ↔ gt (farS g op) n < 0) := by
  have hL := farS_lab (op := op) ho
  obtain ⟨n0, n1⟩ := nbr_in ho h0 h1 n hn
  have s1 := hL.step c h0 h1 hc n hn
  have s2 := hL.step n n0 n1 hon c (nbr_symm ho h0 h1 hn)
  have l1 := hL.lo c h0 h1
  have l2 := hL.lo n n0 n1
  constructor
  · intro h
    by_cases hx : 0 ≤ gt (farS g op) n
    · have := s1 hx; omega
    · by_cases hy : 0 ≤ gt (farS g op) c
      · have := s2 hy; omega
      · omega
  · constructor
    · intro h
      by_cases hx : 0 ≤ gt (farS g op) n
      · have := s1 hx; omega
      · omega
    · intro h
      by_cases hy : 0 ≤ gt (farS g op) c
      · have := s2 hy; omega
      · omega
end Go.Proofs.Ytmpkiaghkhhlhaa

