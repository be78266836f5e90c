/- Trimmed by wip/trim.py to what this claim rests on. -/
import Derived.Test.YtecodlefcmjihaaGreatWTk1
namespace Go.Proofs.YtecodlefcmjihaaGreat
open Go.RowKit
abbrev none60 : Int := 1152921504606846976
def bOK (b : Int × Int) : Prop := (1 ≤ b.1 ∧ b.1 ≤ 1000) ∧ (1 ≤ b.2 ∧ b.2 ≤ 1000000)
def rowV (b : Int × Int) (P cur : List Int) (t : Int) : Int := if 0 ≤ t - b.1 ∧ gt cur (t - b.1) < none60 then (if gt cur (t - b.1) + b.2 < gt P t then gt cur (t - b.1) + b.2 else gt P t) else gt P t
def rowK (b : Int × Int) (P : List Int) : Nat → List Int
  | 0 => List.replicate P.length none60
  | t + 1 => (rowK b P t).set t (rowV b P (rowK b P t) t)
def rowF (b : Int × Int) (P : List Int) : List Int := rowK b P P.length
def rowsF (m : Nat) : List (Int × Int) → List Int
  | [] => (List.replicate m none60).set 0 0
  | b :: bs => rowF b (rowsF m bs)
def selK (row : List Int) (n : Int) : Nat → Int
  | 0 => n
  | k + 1 => if gt row (n + k) < gt row (selK row n k) then n + k else selK row n k
def takeI (row : List Int) (b : Int × Int) : Nat → Int → Int × Int
  | 0, t => (t, 0)
  | f + 1, t => if b.1 ≤ t ∧ gt row (t - b.1) < none60 ∧ gt row (t - b.1) + b.2 = gt row t then ((takeI row b f (t - b.1)).1, (takeI row b f (t - b.1)).2 + 1) else (t, 0)
def manyF (m : Nat) : List (Int × Int) → Int → List Int
  | [], _ => []
  | b :: bs, t => (takeI (rowsF m (b :: bs)) b t.toNat t).2 :: manyF m bs (takeI (rowsF m (b :: bs)) b t.toNat t).1
def restF (m : Nat) : List (Int × Int) → Int → Nat → Int
  | _, t, 0 => t
  | [], t, _ + 1 => t
  | b :: bs, t, k + 1 => restF m bs (takeI (rowsF m (b :: bs)) b t.toNat t).1 k
theorem restF_zero {m : Nat} {bs : List (Int × Int)} {t : Int} : restF m bs t 0 = t := by cases bs <;> rfl
theorem rowK_len {b : Int × Int} {P : List Int} : ∀ t, (rowK b P t).length = P.length
  | 0 => List.length_replicate ..
  | t + 1 => by rw [rowK, List.length_set, rowK_len t]
theorem rowF_len {b : Int × Int} {P : List Int} : (rowF b P).length = P.length := rowK_len _
theorem rowsF_len {m : Nat} : ∀ bs : List (Int × Int), (rowsF m bs).length = m
  | [] => by rw [rowsF, List.length_set, List.length_replicate]
  | b :: bs => by rw [rowsF, rowF_len, rowsF_len bs]
theorem gt_set_nat {xs : List Int} {i : Nat} {v k : Int} (hi : i < xs.length) (hk : 0 ≤ k) : gt (xs.set i v) k = if k = i then v else gt xs k := by
  unfold gt
  simp only [List.getD, List.getElem?_set]
  by_cases h : k = i
  · subst h
    simp [hi]
  · rw [if_neg (by omega), if_neg h]
theorem gt_rep {n : Nat} {v k : Int} (h0 : 0 ≤ k) (h1 : k < n) : gt (List.replicate n v) k = v := by
  have : k.toNat < n := by omega
  unfold gt
  simp [List.getD, this]
theorem rowK_gt {b : Int × Int} {P : List Int} : ∀ (t : Nat), t ≤ P.length → ∀ k : Int, 0 ≤ k → k < P.length → gt (rowK b P t) k = if k < t then gt (rowF b P) k else none60 := by
  have key : ∀ (d t : Nat), t + d = P.length → ∀ k : Int, 0 ≤ k → k < t → gt (rowK b P (t + d)) k = gt (rowK b P t) k := by
    intro d
    induction d with
    | zero => intro t _ k _ _; rfl
    | succ d ih =>
      intro t ht k k0 k1
      have h1 := ih (t + 1) (by omega) k k0 (by omega)
      have e : t + (d + 1) = t + 1 + d := by omega
      rw [e, h1]
      show gt ((rowK b P t).set t _) k = _
      rw [gt_set_nat (by rw [rowK_len]; omega) k0, if_neg (by omega)]
  intro t
  induction t with
  | zero =>
    intro _ k k0 k1
    rw [if_neg (by omega)]
    exact gt_rep k0 k1
  | succ t ih =>
    intro ht k k0 k1
    have ih := ih (by omega) k k0 k1
    split
    · rename_i hk
      unfold rowF
      have e : P.length = t + 1 + (P.length - (t + 1)) := by omega
      have h := key (P.length - (t + 1)) (t + 1) (by omega) k k0 hk
      rw [← e] at h
      rw [h]
    · show gt ((rowK b P t).set t _) k = _
      rw [gt_set_nat (by rw [rowK_len]; omega) k0, if_neg (by omega), ih, if_neg (by omega)]
def rowIn (xs : List Int) : Prop := ∀ k : Int, 0 ≤ k → k < xs.length → 0 ≤ gt xs k ∧ gt xs k ≤ none60
theorem rowV_in {b : Int × Int} (hb : bOK b) {P cur : List Int} {t : Int} (t1 : t < P.length) (t0 : 0 ≤ t) (hP : rowIn P) (hc : rowIn cur) (hl : cur.length = P.length) : 0 ≤ rowV b P cur t ∧ rowV b P cur t ≤ none60 := by
  have h1 := hP t t0 t1
  have := hb.1
  have := hb.2
  unfold rowV
  split
  · rename_i h
    have h2 := hc (t - b.1) h.1 (by omega)
    split <;> omega
  · exact h1
theorem rowK_in {b : Int × Int} (hb : bOK b) {P : List Int} (hP : rowIn P) : ∀ t : Nat, t ≤ P.length → rowIn (rowK b P t)
  | 0, _ => fun k k0 k1 => by
    rw [rowK_len] at k1
    show 0 ≤ gt (List.replicate P.length none60) k ∧ gt (List.replicate P.length none60) k ≤ none60
    rw [gt_rep k0 k1]
    decide
  | t + 1, ht => fun k k0 k1 => by
    have ih := rowK_in hb hP t (by omega)
    rw [rowK_len] at k1
    show 0 ≤ gt ((rowK b P t).set t _) k ∧ gt ((rowK b P t).set t _) k ≤ none60
    rw [gt_set_nat (by rw [rowK_len]; omega) k0]
    split
    · exact rowV_in hb (by omega) (by omega) hP ih (rowK_len t)
    · exact ih k k0 (by rw [rowK_len]; exact k1)
theorem rowsF_in {m : Nat} : ∀ bs : List (Int × Int), (∀ b ∈ bs, bOK b) → rowIn (rowsF m bs)
  | [], _ => fun k k0 k1 => by
    rw [rowsF_len] at k1
    show 0 ≤ gt ((List.replicate m none60).set 0 0) k ∧ gt ((List.replicate m none60).set 0 0) k ≤ none60
    rw [gt_set_nat (by rw [List.length_replicate]; omega) k0]
    split
    · decide
    · rw [gt_rep k0 k1]
      decide
  | b :: bs, h => by
    have ih := rowsF_in (m := m) bs fun x hx => h x (List.mem_cons_of_mem _ hx)
    exact rowK_in (h b (List.mem_cons_self ..)) ih _ (Nat.le_refl _)
theorem selK_in {row : List Int} {n : Int} : ∀ k : Nat, n ≤ selK row n k ∧ selK row n k ≤ n + k
  | 0 => by
    show n ≤ n ∧ n ≤ n + ((0 : Nat) : Int)
    omega
  | k + 1 => by
    have := selK_in (row := row) (n := n) k
    unfold selK
    split <;> omega
theorem takeI_in {row : List Int} {b : Int × Int} (hb : 1 ≤ b.1) : ∀ (f : Nat) (t : Int), 0 ≤ t → 0 ≤ (takeI row b f t).1 ∧ (takeI row b f t).1 ≤ t ∧ 0 ≤ (takeI row b f t).2 ∧ (takeI row b f t).2 ≤ f
  | 0, t, h => by
    show 0 ≤ t ∧ t ≤ t ∧ (0 : Int) ≤ 0 ∧ (0 : Int) ≤ ((0 : Nat) : Int)
    omega
  | f + 1, t, h => by
    unfold takeI
    split
    · rename_i h1
      have := takeI_in (row := row) hb f (t - b.1) (by omega)
      show 0 ≤ (takeI row b f (t - b.1)).1 ∧ (takeI row b f (t - b.1)).1 ≤ t ∧ 0 ≤ (takeI row b f (t - b.1)).2 + 1 ∧ (takeI row b f (t - b.1)).2 + 1 ≤ ((f + 1 : Nat) : Int)
      omega
    · show 0 ≤ t ∧ t ≤ t ∧ (0 : Int) ≤ 0 ∧ (0 : Int) ≤ ((f + 1 : Nat) : Int)
      omega
theorem takeI_yes {row : List Int} {b : Int × Int} (hb : 1 ≤ b.1) {t : Int} (h : b.1 ≤ t ∧ gt row (t - b.1) < none60 ∧ gt row (t - b.1) + b.2 = gt row t) : takeI row b t.toNat t = ((takeI row b (t - b.1).toNat (t - b.1)).1, (takeI row b (t - b.1).toNat (t - b.1)).2 + 1) := by
  have fu : ∀ (f g : Nat) (t : Int), 0 ≤ t → t ≤ f → t ≤ g → takeI row b f t = takeI row b g t := by
    intro f
    induction f with
    | zero =>
      intro g t h0 h1 h2
      have : t = 0 := by omega
      subst this
      cases g with
      | zero => rfl
      | succ g =>
        unfold takeI
        rw [if_neg (by omega)]
    | succ f ih =>
      intro g t h0 h1 h2
      cases g with
      | zero =>
        have : t = 0 := by omega
        subst this
        unfold takeI
        rw [if_neg (by omega)]
      | succ g =>
        unfold takeI
        by_cases hc : b.1 ≤ t ∧ gt row (t - b.1) < none60 ∧ gt row (t - b.1) + b.2 = gt row t
        · rw [if_pos hc, if_pos hc, ih g (t - b.1) (by omega) (by omega) (by omega)]
        · rw [if_neg hc, if_neg hc]
  obtain ⟨f, hf⟩ : ∃ f, t.toNat = f + 1 := ⟨t.toNat - 1, by omega⟩
  rw [hf]
  have e : takeI row b (f + 1) t = ((takeI row b f (t - b.1)).1, (takeI row b f (t - b.1)).2 + 1) := by
    show (if _ then _ else _) = _
    rw [if_pos h]
  rw [e, fu f (t - b.1).toNat (t - b.1) (by omega) (by omega) (by omega)]
theorem takeI_no {row : List Int} {b : Int × Int} {t : Int} (h : ¬ (b.1 ≤ t ∧ gt row (t - b.1) < none60 ∧ gt row (t - b.1) + b.2 = gt row t)) : takeI row b t.toNat t = (t, 0) := by
  cases t.toNat with
  | zero => rfl
  | succ f =>
    show (if _ then _ else _) = _
    rw [if_neg h]
theorem manyF_len {m : Nat} : ∀ (bs : List (Int × Int)) (t : Int), (manyF m bs t).length = bs.length
  | [], _ => rfl
  | _ :: bs, _ => by rw [manyF, List.length_cons, manyF_len bs, List.length_cons]
theorem restF_succ {m : Nat} : ∀ (bs : List (Int × Int)) (t : Int) (k : Nat) (h : k < bs.length), restF m bs t (k + 1) = (takeI (rowsF m (bs.drop k)) bs[k] (restF m bs t k).toNat (restF m bs t k)).1 ∧ (manyF m bs t)[k]'(by rw [manyF_len]; exact h) = (takeI (rowsF m (bs.drop k)) bs[k] (restF m bs t k).toNat (restF m bs t k)).2
  | [], _, _, h => absurd h (by simp)
  | b :: bs, t, 0, _ => ⟨by rw [restF]; cases bs <;> rfl, rfl⟩
  | b :: bs, t, k + 1, h => restF_succ bs (takeI (rowsF m (b :: bs)) b t.toNat t).1 k (by simpa using h)
theorem restF_in {m : Nat} : ∀ (bs : List (Int × Int)) (t : Int) (k : Nat), (∀ b ∈ bs, bOK b) → 0 ≤ t → 0 ≤ restF m bs t k ∧ restF m bs t k ≤ t
  | _, t, 0, _, h => by rw [restF]; omega
  | [], t, _ + 1, _, h => by rw [restF]; omega
  | b :: bs, t, k + 1, hb, h => by
    have h1 := takeI_in (row := rowsF m (b :: bs)) (hb b (List.mem_cons_self ..)).1.1 t.toNat t h
    have h2 := restF_in (m := m) bs (takeI (rowsF m (b :: bs)) b t.toNat t).1 k (fun x hx => hb x (List.mem_cons_of_mem _ hx)) h1.1
    rw [restF]
    omega
end Go.Proofs.YtecodlefcmjihaaGreat
