/- Trimmed by wip/trim.py to what this claim rests on. -/
import Derived.Test.YtecodlefcmjihaaGreatWTk5
namespace Go.Proofs.YtecodlefcmjihaaGreat
open Go.RowKit
def vT : List (Int × Int) → List Int → Int
  | b :: bs, k :: ks => k * b.1 + vT bs ks
  | _, _ => 0
def vP : List (Int × Int) → List Int → Int
  | b :: bs, k :: ks => k * b.2 + vP bs ks
  | _, _ => 0
def KJ (ks : List Int) : Prop := ∀ k ∈ ks, 0 ≤ k
theorem Vx {row : List Int} {b : Int × Int} (hb : bOK b) : ∀ (n : Nat) (t : Int), 0 ≤ t → t.toNat ≤ n → gt row t < none60 →
    t = (AR row b t.toNat t).1 + (AR row b t.toNat t).2 * b.1 ∧ gt row t = gt row (AR row b t.toNat t).1 + (AR row b t.toNat t).2 * b.2 ∧ 0 ≤ (AR row b t.toNat t).1 ∧ 0 ≤ (AR row b t.toNat t).2 ∧ gt row (AR row b t.toNat t).1 < none60 ∧
    ¬ (b.1 ≤ (AR row b t.toNat t).1 ∧ gt row ((AR row b t.toNat t).1 - b.1) < none60 ∧ gt row ((AR row b t.toNat t).1 - b.1) + b.2 = gt row (AR row b t.toNat t).1) := by
  intro n
  induction n with
  | zero =>
    intro t h0 hn hlt
    have ht : t = 0 := by omega
    have hno : ¬ (b.1 ≤ t ∧ gt row (t - b.1) < none60 ∧ gt row (t - b.1) + b.2 = gt row t) := fun h => by have := hb.1.1; omega
    rw [IS hno]
    exact ⟨by dsimp only; omega, by dsimp only; omega, h0, Int.le_refl _, hlt, hno⟩
  | succ n ih =>
    intro t h0 hn hlt
    by_cases hc : b.1 ≤ t ∧ gt row (t - b.1) < none60 ∧ gt row (t - b.1) + b.2 = gt row t
    · have h1 := hb.1.1
      obtain ⟨a1, a2, a3, a4, a5, a6⟩ := ih (t - b.1) (by omega) (by omega) hc.2.1
      rw [Jk hb.1.1 hc]
      refine ⟨?_, ?_, a3, ?_, a5, a6⟩
      · dsimp only
        rw [Int.add_mul, Int.one_mul]
        omega
      · dsimp only
        rw [Int.add_mul, Int.one_mul]
        omega
      · show (0 : Int) ≤ _ + 1
        omega
    · rw [IS hc]
      exact ⟨by dsimp only; omega, by dsimp only; omega, h0, Int.le_refl _, hlt, hc⟩
theorem Tj {m : Nat} : ∀ (bs : List (Int × Int)), (∀ b ∈ bs, bOK b) → ∀ t : Int, 0 ≤ t → t < m → gt (Aw m bs) t < none60 →
    vT bs (Bk m bs t) = t ∧ vP bs (Bk m bs t) = gt (Aw m bs) t ∧ KJ (Bk m bs t)
  | [], _, t, h0, h1, h2 => by
    have e : gt (Aw m []) t = gt ((List.replicate m none60).set 0 0) t := rfl
    rw [e, AQ (by rw [List.length_replicate]; omega) h0] at h2
    have ht : t = 0 := by
      by_cases c : t = 0
      · exact c
      · rw [if_neg (by omega), Ft h0 (by omega)] at h2
        omega
    subst ht
    refine ⟨rfl, ?_, fun k hk => by cases hk⟩
    rw [e, AQ (by rw [List.length_replicate]; omega) h0, if_pos (by omega)]
    rfl
  | b :: bs, hb, t, h0, h1, h2 => by
    have hb1 := hb b (List.mem_cons_self ..)
    have hbs : ∀ x ∈ bs, bOK x := fun x hx => hb x (List.mem_cons_of_mem _ hx)
    obtain ⟨a1, a2, a3, a4, a5, a6⟩ := Vx (row := Aw m (b :: bs)) hb1 t.toNat t h0 (Nat.le_refl _) h2
    have em : Bk m (b :: bs) t = (AR (Aw m (b :: bs)) b t.toNat t).2 :: Bk m bs (AR (Aw m (b :: bs)) b t.toNat t).1 := rfl
    rw [em]
    generalize AR (Aw m (b :: bs)) b t.toNat t = r at *
    obtain ⟨u, c⟩ := r
    dsimp only at a1 a2 a3 a4 a5 a6 ⊢
    have hb11 := hb1.1.1
    have hcb : 0 ≤ c * b.1 := Int.mul_nonneg a4 (by omega)
    obtain ⟨k, hk⟩ := Int.eq_ofNat_of_zero_le a3
    have hr : gt (Aw m (b :: bs)) u = gt (Aw m bs) u := by
      have h3 := JB (b := b) hb11 (P := Aw m bs) (t := k) (by rw [Ba]; omega)
      rw [← hk] at h3
      have e : M7 b (Aw m bs) = Aw m (b :: bs) := rfl
      rw [e] at h3
      rw [h3]
      unfold GB
      by_cases hc : 0 ≤ u - b.1 ∧ gt (Aw m (b :: bs)) (u - b.1) < none60
      · rw [if_pos hc]
        by_cases hd : gt (Aw m (b :: bs)) (u - b.1) + b.2 < gt (Aw m bs) u
        · exfalso
          refine a6 ⟨by omega, hc.2, ?_⟩
          rw [h3]
          unfold GB
          rw [if_pos hc, if_pos hd]
        · rw [if_neg hd]
      · rw [if_neg hc]
    rw [hr] at a5
    obtain ⟨i1, i2, i3⟩ := Tj bs hbs u a3 (by omega) a5
    refine ⟨?_, ?_, fun x hx => ?_⟩
    · show c * b.1 + vT bs _ = t
      rw [i1]; omega
    · show c * b.2 + vP bs _ = _
      rw [i2, a2, hr]; omega
    · rcases List.mem_cons.1 hx with rfl | hx
      · exact a4
      · exact i3 x hx
theorem R9 : ∀ {bs : List (Int × Int)} {ks : List Int}, (∀ b ∈ bs, bOK b) → KJ ks → 0 ≤ vT bs ks ∧ 0 ≤ vP bs ks ∧ vP bs ks ≤ 1000000 * vT bs ks
  | [], _, _, _ => by simp [vT, vP]
  | _ :: _, [], _, _ => by simp [vT, vP]
  | b :: bs, k :: ks, hb, hk => by
    have h1 := R9 (bs := bs) (ks := ks) (fun x hx => hb x (List.mem_cons_of_mem _ hx)) fun x hx => hk x (List.mem_cons_of_mem _ hx)
    have hb1 := hb b (List.mem_cons_self ..)
    have hk1 := hk k (List.mem_cons_self ..)
    have h2 : 0 ≤ k * b.1 := Int.mul_nonneg hk1 (by have := hb1.1.1; omega)
    have h3 : 0 ≤ k * b.2 := Int.mul_nonneg hk1 (by have := hb1.2.1; omega)
    have h4 : k * b.2 ≤ k * (1000000 * b.1) := Int.mul_le_mul_of_nonneg_left (by have := hb1.1.1; have := hb1.2.2; omega) hk1
    have h5 : k * (1000000 * b.1) = 1000000 * (k * b.1) := by rw [Int.mul_left_comm]
    show 0 ≤ k * b.1 + vT bs ks ∧ 0 ≤ k * b.2 + vP bs ks ∧ k * b.2 + vP bs ks ≤ 1000000 * (k * b.1 + vT bs ks)
    omega
theorem Ob {m : Nat} : ∀ (bs : List (Int × Int)), (∀ b ∈ bs, bOK b) → ∀ ks : List Int, ks.length = bs.length → KJ ks → vT bs ks < m → gt (Aw m bs) (vT bs ks) ≤ vP bs ks
  | [], _, [], _, _, h => by
    show gt ((List.replicate m none60).set 0 0) 0 ≤ 0
    have h : (0 : Int) < m := h
    rw [AQ (by rw [List.length_replicate]; omega) (by omega), if_pos (by omega)]
    exact Int.le_refl _
  | [], _, _ :: _, hl, _, _ => by simp at hl
  | _ :: _, _, [], hl, _, _ => by simp at hl
  | b :: bs, hb, k :: ks, hl, hk, h => by
    have hb1 := hb b (List.mem_cons_self ..)
    have hbs : ∀ x ∈ bs, bOK x := fun x hx => hb x (List.mem_cons_of_mem _ hx)
    have hks : KJ ks := fun x hx => hk x (List.mem_cons_of_mem _ hx)
    have hll : ks.length = bs.length := by simpa using hl
    have hv := R9 (bs := bs) hbs hks
    have hb11 := hb1.1.1
    have hb12 := hb1.2.1
    obtain ⟨q, rfl⟩ := Int.eq_ofNat_of_zero_le (hk k (List.mem_cons_self ..))
    have step : ∀ n : Nat, (n : Int) * b.1 + vT bs ks < m → gt (Aw m (b :: bs)) ((n : Int) * b.1 + vT bs ks) ≤ (n : Int) * b.2 + vP bs ks := by
      have low : ∀ t : Nat, t < m → gt (Aw m (b :: bs)) t ≤ gt (Aw m bs) t := fun t ht => by
        have h3 := JB (b := b) hb11 (P := Aw m bs) (t := t) (by rw [Ba]; omega)
        have e : M7 b (Aw m bs) = Aw m (b :: bs) := rfl
        rw [e] at h3
        rw [h3]
        unfold GB
        split
        · split <;> omega
        · exact Int.le_refl _
      intro n
      induction n with
      | zero =>
        intro hlt
        have e1 : ((0 : Nat) : Int) * b.1 = 0 := Int.zero_mul _
        have e2 : ((0 : Nat) : Int) * b.2 = 0 := Int.zero_mul _
        rw [e1] at hlt
        rw [e1, e2, Int.zero_add, Int.zero_add]
        obtain ⟨t, ht⟩ := Int.eq_ofNat_of_zero_le hv.1
        have h5 : vT bs ks < m := by omega
        have := Ob bs hbs ks hll hks h5
        have h4 := low t (by omega)
        rw [← ht] at h4
        omega
      | succ n ih =>
        intro hlt
        have e1 : ((n + 1 : Nat) : Int) * b.1 = (n : Int) * b.1 + b.1 := by rw [Int.natCast_add, Int.add_mul]; simp
        have e2 : ((n + 1 : Nat) : Int) * b.2 = (n : Int) * b.2 + b.2 := by rw [Int.natCast_add, Int.add_mul]; simp
        rw [e1] at hlt ⊢
        rw [e2]
        have hn0 : 0 ≤ (n : Int) * b.1 := Int.mul_nonneg (by omega) (by omega)
        have hi := ih (by omega)
        obtain ⟨t, ht⟩ := Int.eq_ofNat_of_zero_le (show 0 ≤ (n : Int) * b.1 + b.1 + vT bs ks by omega)
        have h3 := JB (b := b) hb11 (P := Aw m bs) (t := t) (by rw [Ba]; omega)
        have e : M7 b (Aw m bs) = Aw m (b :: bs) := rfl
        rw [e, ← ht] at h3
        rw [h3]
        have e3 : (n : Int) * b.1 + b.1 + vT bs ks - b.1 = (n : Int) * b.1 + vT bs ks := by omega
        have hin := FQ (m := m) bs hbs _ (show 0 ≤ (n : Int) * b.1 + b.1 + vT bs ks by omega) (by rw [Ba]; exact hlt)
        unfold GB
        rw [e3]
        split
        · split <;> omega
        · rename_i hc
          have : ¬ gt (Aw m (b :: bs)) ((n : Int) * b.1 + vT bs ks) < none60 := fun h' => hc ⟨by omega, h'⟩
          omega
    exact step q h
theorem Rk : ∀ {bs : List (Int × Int)} {ks : List Int}, (∀ b ∈ bs, bOK b) → ks.length = bs.length → KJ ks → 0 < vT bs ks → ∃ b ∈ bs, ∃ ks' : List Int, ks'.length = bs.length ∧ KJ ks' ∧ vT bs ks' + b.1 = vT bs ks ∧ vP bs ks' + b.2 = vP bs ks
  | [], [], _, _, _, h => by simp [vT] at h
  | [], _ :: _, _, hl, _, _ => by simp at hl
  | _ :: _, [], _, hl, _, _ => by simp at hl
  | b :: bs, k :: ks, hb, hl, hk, h => by
    have hk0 := hk k (List.mem_cons_self ..)
    by_cases c : k = 0
    · subst c
      have e : vT (b :: bs) (0 :: ks) = vT bs ks := by show 0 * b.1 + _ = _; omega
      have e' : vP (b :: bs) (0 :: ks) = vP bs ks := by show 0 * b.2 + _ = _; omega
      rw [e] at h
      obtain ⟨x, hx, ks', h1, h2, h3, h4⟩ := Rk (fun x hx => hb x (List.mem_cons_of_mem _ hx)) (by simpa using hl) (fun x hx => hk x (List.mem_cons_of_mem _ hx)) h
      refine ⟨x, List.mem_cons_of_mem _ hx, 0 :: ks', by simp [h1], fun y hy => ?_, ?_, ?_⟩
      · rcases List.mem_cons.1 hy with rfl | hy
        · exact Int.le_refl _
        · exact h2 y hy
      · show 0 * b.1 + vT bs ks' + x.1 = 0 * b.1 + vT bs ks; omega
      · show 0 * b.2 + vP bs ks' + x.2 = 0 * b.2 + vP bs ks; omega
    · refine ⟨b, List.mem_cons_self .., (k - 1) :: ks, by simpa using hl, fun y hy => ?_, ?_, ?_⟩
      · rcases List.mem_cons.1 hy with rfl | hy
        · omega
        · exact hk y (List.mem_cons_of_mem _ hy)
      · show (k - 1) * b.1 + vT bs ks + b.1 = k * b.1 + vT bs ks
        rw [Int.sub_mul]; omega
      · show (k - 1) * b.2 + vP bs ks + b.2 = k * b.2 + vP bs ks
        rw [Int.sub_mul]; omega
theorem WQ {bs : List (Int × Int)} (hb : ∀ b ∈ bs, bOK b) {n : Int} (hn : 0 ≤ n) : ∀ (w : Nat) (ks : List Int), ks.length = bs.length → KJ ks → n ≤ vT bs ks → (vT bs ks).toNat ≤ w → ∃ ks' : List Int, ks'.length = bs.length ∧ KJ ks' ∧ n ≤ vT bs ks' ∧ vT bs ks' ≤ n + 1000 ∧ vP bs ks' ≤ vP bs ks := by
  intro w
  induction w with
  | zero => exact fun ks h1 h2 h3 h4 => ⟨ks, h1, h2, h3, by omega, Int.le_refl _⟩
  | succ w ih =>
    intro ks h1 h2 h3 h4
    by_cases c : vT bs ks ≤ n + 1000
    · exact ⟨ks, h1, h2, h3, c, Int.le_refl _⟩
    · obtain ⟨b, hbm, ks1, q1, q2, q3, q4⟩ := Rk hb h1 h2 (by omega)
      have hb1 := hb b hbm
      obtain ⟨⟨u1, u2⟩, ⟨u3, u4⟩⟩ := hb1
      obtain ⟨ks', r1, r2, r3, r4, r5⟩ := ih ks1 q1 q2 (by omega) (by omega)
      exact ⟨ks', r1, r2, r3, r4, by omega⟩
def prc (bs : List (Int × Int)) (n : Int) : Int := gt (Aw (n + 1001).toNat bs) (BW (Aw (n + 1001).toNat bs) n 1001)
def sel (bs : List (Int × Int)) (n : Int) : Int := BW (Aw (n + 1001).toNat bs) n 1001
theorem SQ {row : List Int} {n : Int} : ∀ k : Nat, BW row n (k + 1) ≤ n + k
  | 0 => by
    show (if gt row (n + ((0 : Nat) : Int)) < gt row n then n + ((0 : Nat) : Int) else n) ≤ _
    split <;> omega
  | k + 1 => by
    have := SQ (row := row) (n := n) k
    show (if gt row (n + ((k + 1 : Nat) : Int)) < gt row (BW row n (k + 1)) then n + ((k + 1 : Nat) : Int) else BW row n (k + 1)) ≤ _
    split <;> omega
theorem Q6 {row : List Int} {n : Int} : ∀ k : Nat, ∀ i : Nat, i < k → gt row (BW row n k) ≤ gt row (n + i)
  | 0, i, h => by omega
  | k + 1, i, h => by
    have ih := Q6 (row := row) (n := n) k
    show gt row (if gt row (n + (k : Int)) < gt row (BW row n k) then n + (k : Int) else BW row n k) ≤ _
    by_cases c : i = k
    · subst c
      split
      · exact Int.le_refl _
      · omega
    · have := ih i (by omega)
      split <;> omega
section
variable {bs : List (Int × Int)} {n : Int}
theorem L7 (_ : 0 ≤ n) : n ≤ sel bs n ∧ sel bs n ≤ n + 1000 := ⟨(PM 1001).1, SQ 1000⟩
theorem HU (hb : ∀ b ∈ bs, bOK b) (hn : 0 ≤ n) (hp : ¬ prc bs n = none60) : vT bs (Bk (n + 1001).toNat bs (sel bs n)) = sel bs n ∧ vP bs (Bk (n + 1001).toNat bs (sel bs n)) = prc bs n ∧ KJ (Bk (n + 1001).toNat bs (sel bs n)) ∧ (Bk (n + 1001).toNat bs (sel bs n)).length = bs.length ∧ 0 ≤ prc bs n ∧ prc bs n ≤ 1000000 * (n + 1000) := by
  have hs := L7 (bs := bs) hn
  have hin := FQ (m := (n + 1001).toNat) bs hb (sel bs n) (by omega) (by rw [Ba]; omega)
  have e : gt (Aw (n + 1001).toNat bs) (sel bs n) = prc bs n := rfl
  rw [e] at hin
  obtain ⟨h1, h2, h3⟩ := Tj (m := (n + 1001).toNat) bs hb (sel bs n) (by omega) (by omega) (by rw [e]; omega)
  have hv := R9 (bs := bs) (ks := Bk (n + 1001).toNat bs (sel bs n)) hb h3
  rw [h1, h2] at hv
  rw [e] at h2 hv
  exact ⟨h1, h2, h3, Cr .., hin.1, by omega⟩
theorem WY (hb : ∀ b ∈ bs, bOK b) (hn : 0 ≤ n) {ks : List Int} (h1 : ks.length = bs.length) (h2 : KJ ks) (h3 : n ≤ vT bs ks) : prc bs n ≤ vP bs ks := by
  obtain ⟨ks', r1, r2, r3, r4, r5⟩ := WQ hb hn _ ks h1 h2 h3 (Nat.le_refl _)
  have h4 := Ob (m := (n + 1001).toNat) bs hb ks' r1 r2 (by omega)
  obtain ⟨i, hi⟩ := Int.eq_ofNat_of_zero_le (show 0 ≤ vT bs ks' - n by omega)
  have h5 := Q6 (row := Aw (n + 1001).toNat bs) (n := n) 1001 i (by omega)
  have e : n + (i : Int) = vT bs ks' := by omega
  rw [e] at h5
  show gt (Aw (n + 1001).toNat bs) (BW (Aw (n + 1001).toNat bs) n 1001) ≤ _
  omega
theorem UM : ∀ {bs : List (Int × Int)} {xs ys : List Int}, xs.length = bs.length → ys.length = bs.length → vT bs (xs.zipWith (· + ·) ys) = vT bs xs + vT bs ys ∧ vP bs (xs.zipWith (· + ·) ys) = vP bs xs + vP bs ys
  | [], _, _, _, _ => by simp [vT, vP]
  | _ :: _, [], _, h, _ => by simp at h
  | _ :: _, _ :: _, [], _, h => by simp at h
  | b :: bs, x :: xs, y :: ys, h1, h2 => by
    obtain ⟨i1, i2⟩ := UM (bs := bs) (xs := xs) (ys := ys) (by simpa using h1) (by simpa using h2)
    refine ⟨?_, ?_⟩
    · show (x + y) * b.1 + vT bs _ = x * b.1 + vT bs xs + (y * b.1 + vT bs ys)
      rw [i1, Int.add_mul]; omega
    · show (x + y) * b.2 + vP bs _ = x * b.2 + vP bs xs + (y * b.2 + vP bs ys)
      rw [i2, Int.add_mul]; omega
theorem Pz (hb : ∀ b ∈ bs, bOK b) : ∀ ns : List Int, (∀ n ∈ ns, 0 ≤ n ∧ n ≤ 1000 ∧ ¬ prc bs n = none60) → ∃ ks : List Int, ks.length = bs.length ∧ KJ ks ∧ AB ns ≤ vT bs ks ∧ vP bs ks = AB (ns.map (prc bs)) ∧ 0 ≤ AB ns ∧ 0 ≤ AB (ns.map (prc bs)) ∧ AB (ns.map (prc bs)) ≤ 2000000000 * ns.length
  | [], _ => ⟨List.replicate bs.length 0, by simp, fun k hk => by rw [List.eq_of_mem_replicate hk]; exact Int.le_refl _, by
      have : ∀ bs : List (Int × Int), vT bs (List.replicate bs.length 0) = 0 ∧ vP bs (List.replicate bs.length 0) = 0 := by
        intro bs
        induction bs with
        | nil => exact ⟨rfl, rfl⟩
        | cons b bs ih =>
          refine ⟨?_, ?_⟩
          · show 0 * b.1 + vT bs _ = 0
            rw [ih.1]; omega
          · show 0 * b.2 + vP bs _ = 0
            rw [ih.2]; omega
      rw [(this bs).1, (this bs).2]
      exact ⟨Int.le_refl _, rfl, Int.le_refl _, Int.le_refl _, by simp [AB]⟩⟩
  | n :: ns, h => by
    obtain ⟨ks, h1, h2, h3, h4, h5, h6, h7⟩ := Pz hb ns fun x hx => h x (List.mem_cons_of_mem _ hx)
    obtain ⟨n0, n1, n2⟩ := h n (List.mem_cons_self ..)
    obtain ⟨s1, s2, s3, s4, s5, s6⟩ := HU hb n0 n2
    obtain ⟨a1, a2⟩ := UM s4 h1
    have hs := L7 (bs := bs) n0
    refine ⟨(Bk (n + 1001).toNat bs (sel bs n)).zipWith (· + ·) ks, by simp [s4, h1], fun k hk => ?_, ?_, ?_, ?_, ?_, ?_⟩
    · obtain ⟨i, hi, rfl⟩ := List.getElem_of_mem hk
      rw [List.getElem_zipWith]
      rw [List.length_zipWith] at hi
      have i1 : i < (Bk (n + 1001).toNat bs (sel bs n)).length := by omega
      have i2 : i < ks.length := by omega
      have q1 := s3 _ (List.getElem_mem i1)
      have q2 := h2 _ (List.getElem_mem i2)
      exact Int.add_nonneg q1 q2
    · show n + AB ns ≤ _
      rw [a1, s1]; omega
    · show _ = prc bs n + AB (ns.map (prc bs))
      rw [a2, s2, h4]
    · show 0 ≤ n + AB ns
      omega
    · show 0 ≤ prc bs n + AB (ns.map (prc bs))
      omega
    · show prc bs n + AB (ns.map (prc bs)) ≤ 2000000000 * (ns.length + 1 : Nat)
      omega
theorem Lx (hb : ∀ b ∈ bs, bOK b) {ns : List Int} (h : ∀ n ∈ ns, 0 ≤ n ∧ n ≤ 1000 ∧ ¬ prc bs n = none60) (hl : ns.length ≤ 1000) : prc bs (AB ns) ≤ AB (ns.map (prc bs)) ∧ ¬ prc bs (AB ns) = none60 := by
  obtain ⟨ks, h1, h2, h3, h4, h5, h6, h7⟩ := Pz hb ns h
  have := WY hb h5 h1 h2 h3
  rw [h4] at this
  have e : none60 = 1152921504606846976 := rfl
  exact ⟨this, by omega⟩
end
end Go.Proofs.YtecodlefcmjihaaGreat
