/- Trimmed by wip/trim.py to what this claim rests on. -/
import Derived.Test.YtkdjkkimngeloaaZVf1
namespace Go.Proofs.Ytkdjkkimngeloaa
open Go.RowKit
def gL (g : Int) : Int → List Int → Int
  | a, [] => a
  | a, x :: l => gL g (max x (a + g)) l
theorem RG {g : Int} : ∀ {l : List Int} {a b : Int}, a ≤ b → gL g a l ≤ gL g b l
  | [], _, _, h => h
  | x :: l, a, b, h => RG (l := l) (by omega)
theorem Q1 {g x : Int} : ∀ {l : List Int} {a : Int}, gL g a (l ++ [x]) = max x (gL g a l + g)
  | [], _ => rfl
  | _ :: l, _ => Q1 (l := l)
theorem Uf {g x y a : Int} {l : List Int} (hg : 0 ≤ g) (h : y ≤ x) : gL g a (y :: x :: l) ≤ gL g a (x :: y :: l) := RG (l := l) (by omega)
theorem Pd {g x : Int} {l2 : List Int} (hg : 0 ≤ g) : ∀ {l1 : List Int} {a : Int}, (∀ y ∈ l1, x ≤ y) → gL g a (x :: (l1 ++ l2)) ≤ gL g a (l1 ++ x :: l2)
  | [], _, _ => Int.le_refl _
  | y :: l1, a, h => by
    refine Int.le_trans (Uf (l := l1 ++ l2) hg (h y (List.mem_cons_self ..))) ?_
    exact Pd (l1 := l1) (a := max y (a + g)) hg fun z hz => h z (List.mem_cons_of_mem _ hz)
theorem Q9 {g : Int} (hg : 0 ≤ g) : ∀ {s l : List Int} {a : Int}, s.Pairwise (· ≤ ·) → s.Perm l → gL g a s ≤ gL g a l
  | [], l, a, _, hp => by
    obtain rfl := hp.symm.eq_nil
    exact Int.le_refl _
  | x :: s, l, a, hs, hp => by
    obtain ⟨l1, l2, rfl⟩ := List.append_of_mem (hp.mem_iff.1 (List.mem_cons_self ..))
    have h1 := List.pairwise_cons.1 hs
    have hp2 : s.Perm (l1 ++ l2) := (hp.trans List.perm_middle).cons_inv
    refine Int.le_trans ?_ (Pd (l1 := l1) (l2 := l2) hg fun y hy => h1.1 y (hp2.mem_iff.2 (List.mem_append_left _ hy)))
    exact Q9 (s := s) (l := l1 ++ l2) hg h1.2 hp2
def fO (ar : List Int) (g : Int) (os : List Int) : Int := gL g (-g) (os.map (geI ar))
def lsA (out : List Int) : Int := geI out ((out.length - 1 : Nat) : Int)
def vO (ar : List Int) (g : Int) (os : List Int) : Int := if os = [] then 0 else fO ar g os
theorem Ez.at {ar os out : List Int} {g : Int} (h : Ez ar g os out) (h0 : ∀ x ∈ os, 0 ≤ geI ar x) : ∀ i (_ : i < out.length), out[i] = gL g (-g) ((os.take (i + 1)).map (geI ar)) := by
  intro i
  induction i with
  | zero =>
    intro hi
    have hj : 0 < os.length := by rw [← h.1]; exact hi
    have e : os.take (0 + 1) = [os[0]] := by rw [List.take_succ_eq_append_getElem hj]; rfl
    rw [h.2 0 hi hj, if_pos rfl, e]
    have := h0 _ (List.getElem_mem hj)
    show _ = max (geI ar os[0]) (-g + g)
    omega
  | succ i ih =>
    intro hi
    have hj : i + 1 < os.length := by rw [← h.1]; exact hi
    have e : os.take (i + 1 + 1) = os.take (i + 1) ++ [os[i + 1]] := List.take_succ_eq_append_getElem hj
    rw [h.2 (i + 1) hi hj, if_neg (by omega), e, List.map_append, List.map_singleton, Q1]
    simp only [Nat.add_sub_cancel]
    rw [ih (by omega)]
theorem Ez.last {ar os out : List Int} {g : Int} (h : Ez ar g os out) (h0 : ∀ x ∈ os, 0 ≤ geI ar x) : lsA out = vO ar g os := by
  unfold lsA vO
  by_cases e : os = []
  · rw [if_pos e]
    subst e
    have : out = [] := List.length_eq_zero_iff.1 h.1
    subst this
    rfl
  · rw [if_neg e]
    have hl : 0 < os.length := List.length_pos_iff.2 e
    have hl2 := h.1
    rw [Gz (by omega), h.at h0 _ (by omega), List.take_of_length_le (by omega)]
    rfl
def rem (n : Nat) (pre : List Int) : List Int := (Eg n).filter fun x => !decide (x ∈ pre)
theorem OV {n : Nat} {x : Int} : x ∈ Eg n ↔ 0 ≤ x ∧ x < n := by
  unfold Eg
  rw [List.mem_map]
  constructor
  · rintro ⟨i, hi, rfl⟩
    have := List.mem_range.1 hi
    exact ⟨Int.natCast_nonneg _, by show (i : Int) < n; omega⟩
  · rintro ⟨h1, h2⟩
    exact ⟨x.toNat, List.mem_range.2 (by omega), by show ((x.toNat : Nat) : Int) = x; omega⟩
theorem Uc {n : Nat} : (Eg n).Nodup := by
  unfold Eg
  refine List.Pairwise.map _ (fun a b h e => h (Int.ofNat.inj e)) List.nodup_range
theorem Gu {n : Nat} {pre : List Int} {x : Int} : x ∈ rem n pre ↔ (0 ≤ x ∧ x < n) ∧ x ∉ pre := by
  unfold rem
  rw [List.mem_filter, OV]
  simp
theorem Vi {n : Nat} {pre : List Int} : (rem n pre).Nodup := Uc.filter _
theorem HC {n : Nat} {pre : List Int} {x : Int} (h : x ∈ rem n pre) : (rem n pre).Perm (x :: rem n (pre ++ [x])) := by
  have h1 := List.perm_cons_erase h
  rw [Vi.erase_eq_filter x] at h1
  have h2 : (rem n pre).filter (fun y => y != x) = rem n (pre ++ [x]) := by
    unfold rem
    rw [List.filter_filter]
    congr 1
    funext y
    by_cases e1 : y = x
    · subst e1; simp
    · have e2 : (y != x) = true := by simpa using e1
      rw [e2, Bool.true_and]
      congr 1
      rw [decide_eq_decide]
      simp [e1]
  rw [h2] at h1
  exact h1
theorem Rp {n : Nat} {pre : List Int} {x : Int} (h : x ∈ rem n pre) : (rem n pre).length = (rem n (pre ++ [x])).length + 1 := by
  have := (HC h).length_eq
  simpa using this
theorem Kr {n : Nat} : rem n [] = Eg n := by
  unfold rem
  rw [List.filter_eq_self]
  intro a _
  simp
theorem Pp {n : Nat} : ∀ {q pre : List Int}, q.Nodup → (∀ x ∈ q, x ∈ rem n pre) → q.length = (rem n pre).length → q.Perm (rem n pre)
  | [], pre, _, _, hl => by
    have : rem n pre = [] := List.length_eq_zero_iff.1 hl.symm
    rw [this]
  | x :: q, pre, hn, hs, hl => by
    have hx := hs x (List.mem_cons_self ..)
    obtain ⟨h1, h2⟩ := List.nodup_cons.1 hn
    have hl2 := Rp hx
    refine (List.Perm.cons x (Pp (q := q) (pre := pre ++ [x]) h2 (fun y hy => ?_) ?_)).trans (HC hx).symm
    · obtain ⟨g1, g2⟩ := Gu.1 (hs y (List.mem_cons_of_mem _ hy))
      refine Gu.2 ⟨g1, fun hm => ?_⟩
      rcases List.mem_append.1 hm with hm | hm
      · exact g2 hm
      · obtain rfl := List.mem_singleton.1 hm
        exact h1 hy
    · simp at hl
      omega
def EY (n : Nat) : Nat → List Int → List (List Int)
  | 0, pre => [pre]
  | k + 1, pre => (List.range n).flatMap fun x : Nat => if (x : Int) ∈ pre then [] else EY n k (pre ++ [(x : Int)])
def GZ (n k : Nat) (pre : List Int) (i : Nat) : List (List Int) := (List.range i).flatMap fun x : Nat => if (x : Int) ∈ pre then [] else EY n k (pre ++ [(x : Int)])
theorem Qq {n k : Nat} {pre : List Int} : GZ n k pre 0 = [] := rfl
theorem GU {n k i : Nat} {pre : List Int} : GZ n k pre (i + 1) = GZ n k pre i ++ if (i : Int) ∈ pre then [] else EY n k (pre ++ [(i : Int)]) := by
  unfold GZ
  rw [List.range_succ, List.flatMap_append]
  simp
theorem Dl {n : Nat} : ∀ {k : Nat} {pre o : List Int}, k = (rem n pre).length → (o ∈ EY n k pre ↔ ∃ q, o = pre ++ q ∧ q.Perm (rem n pre))
  | 0, pre, o, hk => by
    have e : rem n pre = [] := List.length_eq_zero_iff.1 hk.symm
    rw [e]
    constructor
    · intro h
      exact ⟨[], by rw [List.append_nil]; exact List.mem_singleton.1 h, List.Perm.refl _⟩
    · rintro ⟨q, rfl, hq⟩
      obtain rfl := hq.eq_nil
      rw [List.append_nil]
      exact List.mem_singleton.2 rfl
  | k + 1, pre, o, hk => by
    have step : ∀ x : Nat, x < n → ¬ (x : Int) ∈ pre → (x : Int) ∈ rem n pre ∧ k = (rem n (pre ++ [(x : Int)])).length := fun x h1 h2 => by
      have hx : (x : Int) ∈ rem n pre := Gu.2 ⟨⟨by omega, by omega⟩, h2⟩
      have := Rp hx
      exact ⟨hx, by omega⟩
    show o ∈ GZ n k pre n ↔ _
    unfold GZ
    rw [List.mem_flatMap]
    constructor
    · rintro ⟨x, hx, ho⟩
      have hx := List.mem_range.1 hx
      by_cases c : (x : Int) ∈ pre
      · rw [if_pos c] at ho
        cases ho
      · rw [if_neg c] at ho
        obtain ⟨h1, h2⟩ := step x hx c
        obtain ⟨q, rfl, hq⟩ := (Dl h2).1 ho
        exact ⟨(x : Int) :: q, by simp, (List.Perm.cons _ hq).trans (HC h1).symm⟩
    · rintro ⟨q, rfl, hq⟩
      cases q with
      | nil =>
        have := hq.length_eq
        simp at this
        omega
      | cons x q =>
        obtain ⟨⟨h1, h2⟩, h3⟩ := Gu.1 (hq.mem_iff.1 (List.mem_cons_self ..))
        have ex : ((x.toNat : Nat) : Int) = x := by omega
        have h4 := step x.toNat (by omega) (by rw [ex]; exact h3)
        rw [ex] at h4
        refine ⟨x.toNat, List.mem_range.2 (by omega), ?_⟩
        rw [ex, if_neg h3]
        refine (Dl h4.2).2 ⟨q, by simp, ?_⟩
        exact (hq.trans (HC h4.1)).cons_inv
theorem N1 {f : List Int → Int} {v : Int} {l : List (List Int)} {b : List Int} (h : l.find? (fun o => decide (f o = v)) = some b) : f b = v := by
  have h2 := List.find?_some h
  exact of_decide_eq_true h2
def J0 (ar : List Int) (g : Int) (n : Nat) (P : List Int) : Prop := ∃ v, (EY n n []).find? (fun o => decide (vO ar g o = v)) = some P ∧ ∀ o ∈ EY n n [], v ≤ vO ar g o
theorem J0.uniq {ar : List Int} {g : Int} {n : Nat} {P Q : List Int} (h : J0 ar g n P) (h' : J0 ar g n Q) : P = Q := by
  obtain ⟨v, h1, h2⟩ := h
  obtain ⟨v', h1', h2'⟩ := h'
  have e1 := N1 h1
  have e2 := N1 h1'
  have a1 := h2 _ (List.mem_of_find?_eq_some h1')
  have a2 := h2' _ (List.mem_of_find?_eq_some h1)
  have : v = v' := by omega
  subst this
  rw [h1] at h1'
  exact Option.some.inj h1'
def H0 (f : List Int → Int) (dn : List (List Int)) (b : List Int) (v : Int) : Prop := (dn = [] ∧ b = [] ∧ v = -1) ∨ (dn.find? (fun o => decide (f o = v)) = some b ∧ 0 ≤ v ∧ ∀ o ∈ dn, v ≤ f o)
theorem H0.new {f : List Int → Int} {dn : List (List Int)} {b o : List Int} {v : Int} (h : H0 f dn b v) (ho : 0 ≤ f o) (hv : v < 0 ∨ f o < v) : H0 f (dn ++ [o]) o (f o) := by
  have hall : ∀ x ∈ dn, f o < f x := by
    rcases h with ⟨rfl, _, _⟩ | ⟨_, h2, h3⟩
    · intro x hx; cases hx
    · intro x hx
      have := h3 x hx
      omega
  refine .inr ⟨?_, ho, fun x hx => ?_⟩
  · have : dn.find? (fun x => decide (f x = f o)) = none := List.find?_eq_none.2 fun x hx => by
      have := hall x hx
      simp only [decide_eq_true_eq]
      omega
    rw [List.find?_append, this]
    simp
  · rcases List.mem_append.1 hx with hx | hx
    · exact Int.le_of_lt (hall x hx)
    · obtain rfl := List.mem_singleton.1 hx
      exact Int.le_refl _
theorem H0.old {f : List Int → Int} {dn : List (List Int)} {b o : List Int} {v : Int} (h : H0 f dn b v) (hv : ¬ (v < 0 ∨ f o < v)) : H0 f (dn ++ [o]) b v := by
  rcases h with ⟨_, _, rfl⟩ | ⟨h1, h2, h3⟩
  · exact absurd (.inl (by decide)) hv
  · refine .inr ⟨by rw [List.find?_append, h1]; rfl, h2, fun x hx => ?_⟩
    rcases List.mem_append.1 hx with hx | hx
    · exact h3 x hx
    · obtain rfl := List.mem_singleton.1 hx
      omega
theorem Cq {n : Nat} : n = (rem n []).length := by rw [Kr, Dj]
theorem Up {n : Nat} : Eg n ∈ EY n n [] := (Dl Cq).2 ⟨Eg n, rfl, by rw [Kr]⟩
theorem H0.ord {ar : List Int} {g v : Int} {n : Nat} {b : List Int} (h : H0 (vO ar g) (EY n n []) b v) : J0 ar g n b := by
  rcases h with ⟨h1, _⟩ | ⟨h1, _, h3⟩
  · have := Up (n := n)
    rw [h1] at this
    cases this
  · exact ⟨v, h1, h3⟩
def D1 (ar : List Int) (n : Nat) (pre r : List Int) : Prop := r.Perm (rem n pre) ∧ (r.map (geI ar)).Pairwise (· ≤ ·)
theorem QJ {g : Int} {l2 : List Int} : ∀ {l1 : List Int} {a : Int}, gL g a (l1 ++ l2) = gL g (gL g a l1) l2
  | [], _ => rfl
  | _ :: l1, _ => QJ (l1 := l1)
theorem D1.best {ar : List Int} {g : Int} {n : Nat} {pre r q : List Int} (hg : 0 ≤ g) (h : D1 ar n pre r) (hq : q.Perm (rem n pre)) : fO ar g (pre ++ r) ≤ fO ar g (pre ++ q) := by
  unfold fO
  rw [List.map_append, List.map_append, QJ, QJ]
  exact Q9 hg h.2 ((h.1.trans hq.symm).map _)
def GC (ar : List Int) (g best : Int) (n k : Nat) (pre : List Int) : Option (List Int) := (EY n k pre).find? fun o => decide (fO ar g o = best)
theorem NL {ar : List Int} {g best : Int} {n k : Nat} {pre r : List Int} (hg : 0 ≤ g) (hk : k = (rem n pre).length) (hr : D1 ar n pre r) (hb : best ≤ fO ar g (pre ++ r)) : GC ar g best n k pre = none ↔ fO ar g (pre ++ r) ≠ best := by
  unfold GC
  rw [List.find?_eq_none]
  constructor
  · intro h e
    exact h _ ((Dl hk).2 ⟨r, rfl, hr.1⟩) (decide_eq_true e)
  · intro h o ho he
    obtain ⟨q, rfl, hq⟩ := (Dl hk).1 ho
    have := hr.best hg hq
    have he := of_decide_eq_true he
    omega
theorem RY {ar : List Int} {g best : Int} {n k i : Nat} {pre : List Int} (hi : i < n) (hp : ¬ (i : Int) ∈ pre) (hno : ∀ x : Nat, x < i → (x : Int) ∈ pre ∨ GC ar g best n k (pre ++ [(x : Int)]) = none) {P : List Int} (hP : GC ar g best n k (pre ++ [(i : Int)]) = some P) : GC ar g best n (k + 1) pre = some P := by
  unfold GC
  have e : EY n (k + 1) pre = GZ n k pre n := rfl
  rw [e]
  have h0 : (GZ n k pre i).find? (fun o => decide (fO ar g o = best)) = none := by
    rw [List.find?_eq_none]
    intro o ho
    unfold GZ at ho
    obtain ⟨x, hx, ho⟩ := List.mem_flatMap.1 ho
    have hx := List.mem_range.1 hx
    by_cases c : (x : Int) ∈ pre
    · rw [if_pos c] at ho
      cases ho
    · rw [if_neg c] at ho
      rcases hno x hx with h | h
      · exact absurd h c
      · exact List.find?_eq_none.1 h o ho
  have h1 : ∀ d, (GZ n k pre (i + 1 + d)).find? (fun o => decide (fO ar g o = best)) = some P := by
    intro d
    induction d with
    | zero =>
      rw [Nat.add_zero, GU, List.find?_append, h0, if_neg hp]
      exact hP
    | succ d ih =>
      rw [← Nat.add_assoc, GU, List.find?_append, ih]
      rfl
  have := h1 (n - (i + 1))
  rw [show i + 1 + (n - (i + 1)) = n by omega] at this
  exact this
theorem Qz {ar : List Int} {g best : Int} {n k : Nat} {pre : List Int} (hno : ∀ x : Nat, x < n → (x : Int) ∈ pre ∨ GC ar g best n k (pre ++ [(x : Int)]) = none) : GC ar g best n (k + 1) pre = none := by
  unfold GC
  rw [List.find?_eq_none]
  intro o ho
  obtain ⟨x, hx, ho⟩ := List.mem_flatMap.1 ho
  have hx := List.mem_range.1 hx
  by_cases c : (x : Int) ∈ pre
  · rw [if_pos c] at ho
    cases ho
  · rw [if_neg c] at ho
    rcases hno x hx with h | h
    · exact absurd h c
    · exact List.find?_eq_none.1 h o ho
theorem JR {n : Nat} {o : List Int} (h : o ∈ EY n n []) : o.length = n ∧ ∀ x ∈ o, 0 ≤ x ∧ x < n := by
  obtain ⟨q, e, hq⟩ := (Dl Cq).1 h
  have e : o = q := e
  rw [Kr, ← e] at hq
  exact ⟨by rw [hq.length_eq, Dj], fun x hx => OV.1 (hq.mem_iff.1 hx)⟩
theorem Th {ar : List Int} {g best : Int} {n : Nat} {P : List Int} (hn : 0 < n) (h : GC ar g best n n [] = some P) (hb : ∀ o ∈ EY n n [], best ≤ fO ar g o) : J0 ar g n P := by
  have hv : ∀ o ∈ EY n n [], vO ar g o = fO ar g o := fun o ho => by
    unfold vO
    rw [if_neg fun e => by
      have := (JR ho).1
      rw [e] at this
      simp at this
      omega]
  refine ⟨best, ?_, fun o ho => by rw [hv o ho]; exact hb o ho⟩
  rw [← h]
  unfold GC
  have : ∀ l : List (List Int), (∀ o ∈ l, vO ar g o = fO ar g o) → l.find? (fun o => decide (vO ar g o = best)) = l.find? (fun o => decide (fO ar g o = best)) := by
    intro l
    induction l with
    | nil => intro _; rfl
    | cons x l ih =>
      intro hx
      rw [List.find?_cons, List.find?_cons, hx x (List.mem_cons_self ..), ih fun o ho => hx o (List.mem_cons_of_mem _ ho)]
  exact this _ hv
end Go.Proofs.Ytkdjkkimngeloaa
namespace Go.Proofs.Ytkdjkkimngeloaa
open Go.RowKit
section
variable {σ : Hp}
theorem T7 {A : Option Addr} {n c : Nat} {xs : List Int} {x : Int} (h : RdS [.int .i64] σ A n xs) (hl : xs.length ≤ 1000000) : Ag Try.prog IU #[.slice A n c, .int .i64 x] σ fun v σ' => ∃ r : Int, v = .int .i64 r ∧ σ' = σ ∧ (0 ≤ r ↔ x ∈ xs) := by
  refine Hg _ _ _ _ _ _ ?_
  unfold CU
  have hn : n = xs.length := h.1
  refine Ad fun J3 h3 => ?_
  refine ⟨fun q i τ => ∃ k : Nat, q = xs.length - k ∧ i = k ∧ k ≤ xs.length ∧ τ = σ ∧ ∀ j (_ : j < xs.length), j < k → ¬ x = xs[j], ⟨_, 0, rfl, rfl, Nat.zero_le _, rfl, fun j _ hj => absurd hj (Nat.not_lt_zero _)⟩, ?_⟩
  rintro q i τ ⟨k, rfl, rfl, hk, rfl, hx⟩ _
  refine AK (fun hlt => ?_) (fun hge => ?_)
  · have hkl : k < xs.length := by omega
    refine BP h (by omega) (by simpa using hkl) ?_
    simp only [Int.toNat_natCast]
    refine AK (fun e => Av ⟨_, rfl, rfl, fun _ => ?_, fun _ => by omega⟩) (fun e => AL (by omega) (Bf _ (by omega) ⟨k + 1, rfl, rfl, by omega, rfl, fun j hj hjk => ?_⟩))
    · rw [e]
      exact List.getElem_mem hkl
    · by_cases ej : j = k
      · subst ej
        exact e
      · exact hx j hj (by omega)
  · rw [h3]
    intro _
    refine Av ⟨_, rfl, rfl, fun h => absurd h (by decide), fun h => ?_⟩
    obtain ⟨j, hj, e⟩ := List.mem_iff_getElem.1 h
    exact absurd e.symm (hx j hj (by omega))
theorem PH {A : Option Addr} {n c : Nat} {xs : List Int} {x : Int} (h : RdS [.int .i64] σ A n xs) (hl : xs.length ≤ 1000000) : Ag Try.prog Hi #[.slice A n c, .int .i64 x] σ fun v σ' => v = .bool (decide (x ∈ xs)) ∧ σ' = σ := by
  refine Ff _ _ _ _ _ _ ?_
  unfold Cg
  refine AV Fd (T7 h hl) ?_
  rintro v σ2 ⟨r, rfl, rfl, hr⟩
  refine ⟨r, rfl, Av ⟨?_, rfl⟩⟩
  congr 1
  rw [decide_eq_decide]
  exact hr
theorem T0 {A : Option Addr} {n c : Nat} {xs : List Int} (h : RdS [.int .i64] σ A n xs) (hl : xs.length ≤ 1000000) : Ag Try.prog Jf #[.slice A n c] σ fun v σ' => ∃ A' n' c', v = .slice A' n' c' ∧ Aj 3 [.int .i64] σ A' n' c' xs σ' := by
  refine Hj _ _ _ _ _ ?_
  unfold CW
  refine I2 (fun e => Av ⟨_, _, _, rfl, ?_⟩) (fun _ => ?_)
  · obtain ⟨h1, h2⟩ := h
    have h1 : n = xs.length := h1
    rcases h2 with h2 | ⟨b, off, _, _, _, _, rfl, _⟩
    · have : xs = [] := List.length_eq_zero_iff.1 (by omega)
      subst this
      exact Aj.nil ..
    · cases e
  · refine ⟨xs, h, Bb (by show 0 + xs.length ≤ _; omega) ?_⟩
    intro A2 l2 c2 σ3 ho
    exact Av ⟨_, _, _, rfl, ho⟩
theorem Aj.capR {e : TypeId} {ss : List Sh} {σ' : Hp} {A : Option Addr} {n c : Nat} {xs : List (TyR ss)} (h : Aj e ss σ A n c xs σ') : n ≤ c := by
  rcases h with ⟨_, rfl, _⟩ | ⟨_, _, _, _, _, h, _⟩
  · exact Nat.zero_le _
  · exact h
theorem PW {o : Obj} {K : Nat → Hp → Prop} (h : ∀ b σ', Blk b o σ σ' → K b σ') : bx σ o K := fun b n => h b _ ⟨n, rfl⟩
def NxS (Y : List (List Int) → Rel) (s0 : Hp) (bo : Nat) (e : TypeId) (dn : List (List Int)) (pre : List Int) (τ : Hp) : Prop :=
  ∃ A m c s1 s2, Aj 3 [.int .i64] s0 A m c pre s1 ∧ Blk bo (.cells #[.slice A m c] e (0, 0)) s1 s2 ∧ Lse (Y dn) s2 τ
theorem Lse.put {R : Rel} (hR : Al R) {s τ : Hp} (h : Lse R s τ) {b k : Nat} {x : Obj × Bool} (hb : s b = some x) (v : Value) : Lse R (s.put ⟨b, k, none⟩ v) (τ.put ⟨b, k, none⟩ v) := by
  obtain ⟨y, h1, h2⟩ := h
  exact ⟨_, hR.put h1 hb v, LP h2 (hR.sub h1 _ _ hb) v⟩
section
variable {Y : List (List Int) → Rel} {s0 : Hp} {bo : Nat} {e : TypeId} {dn : List (List Int)} {pre : List Int} {τ : Hp}
theorem NxS.get (hY : ∀ d, Al (Y d)) (h : NxS Y s0 bo e dn pre τ) : Hp.Sub s0 τ ∧ ∃ A m c, τ bo = some (.cells #[.slice A m c] e (0, 0), true) ∧ RdS [.int .i64] τ A m pre ∧ m = pre.length ∧ m ≤ c := by
  obtain ⟨A, m, c, s1, s2, h1, h2, h3⟩ := h
  have hs := h3.sub (hY _)
  exact ⟨(Aj.sub h1).trans (h2.sub.trans hs), A, m, c, hs _ _ h2.get, (Aj.rd h1).sub (h2.sub.trans hs), Aj.len h1, Aj.capR h1⟩
theorem NxS.push (hY : ∀ d, Al (Y d)) (h : NxS Y s0 bo e dn pre τ) {x : Int} {K : Hp → Prop} (hl : pre.length ≤ 1000000) (hk : ∀ σ', NxS Y s0 bo e dn (pre ++ [x]) σ' → K σ') :
    dr (some ⟨bo, 0, none⟩) fun b39 o40 => ldS τ b39 o40 fun A41 l41 c41 => adp 3 [.int .i64] A41 l41 c41 τ fun (xs42 : List Int) σ43 => AO (List.length xs42 + List.length ([x] : List Int)) (exl 3 [.int .i64] (xs42 ++ ([x] : List Int)) σ43 fun A44 l44 c44 σ45 => dr (some ⟨bo, 0, none⟩) fun b46 o47 => st σ45 b46 o47 (.slice A44 l44 c44) K) := by
  obtain ⟨A, m, c, s1, s2, h1, h2, h3⟩ := h
  have hs := h3.sub (hY _)
  refine AN (CP (hs _ _ h2.get) rfl ?_)
  obtain ⟨s1', q1, q2⟩ := Al.swap Al.own Al.blk h1 h2
  have q2 : Aj 3 [.int .i64] s1' A m c pre s2 := q2
  obtain ⟨σ', q3, q4⟩ := Lse.own_up (hY _) q2 h3
  refine J4 q4 (Bb (by show pre.length + 1 ≤ _; omega) ?_)
  intro A44 l44 c44 σ45 ho
  have hs1 : Hp.Sub s1' σ' := q3.sub (hY _)
  obtain ⟨g1, g2, _⟩ := q1.st (hs1.trans (Aj.sub ho)) (k := 0) Nat.zero_lt_one (.slice A44 l44 c44)
  refine AN ⟨g1, hk _ ?_⟩
  have q5 := q3.put (hY _) q1.get (k := 0) (.slice A44 l44 c44)
  have q6 : Aj 3 [.int .i64] (σ'.put ⟨bo, 0, none⟩ (.slice A44 l44 c44)) A44 l44 c44 (pre ++ [x]) (σ45.put ⟨bo, 0, none⟩ (.slice A44 l44 c44)) := Al.put Al.own ho (hs1 _ _ q1.get) _
  obtain ⟨σ5, q7, q8⟩ := Lse.own_down (hY _) q5 q6
  obtain ⟨σ6, q9, q10⟩ := Al.swap Al.blk Al.own g2 q7
  exact ⟨A44, l44, c44, σ6, σ5, q9, q10, q8⟩
theorem NxS.pop (hY : ∀ d, Al (Y d)) {x : Int} (h : NxS Y s0 bo e dn (pre ++ [x]) τ) {K : Hp → Prop} (hl : pre.length ≤ 1000000) (hk : ∀ σ', NxS Y s0 bo e dn pre σ' → K σ') :
    dr (some ⟨bo, 0, none⟩) fun b55 o56 => ldS τ b55 o56 fun A57 _ c57 => dr (some ⟨bo, 0, none⟩) fun b58 o59 => ldS τ b58 o59 fun _ l60 _ => wk .i64 (((l60 : Nat) : Int) - 1) fun n61 => (0 ≤ n61 ∧ n61 ≤ ((c57 : Nat) : Int) ∧ dr (some ⟨bo, 0, none⟩) fun b62 o63 => st τ b62 o63 (.slice A57 ((n61 : Int).toNat) c57) K) := by
  obtain ⟨A, m, c, s1, s2, h1, h2, h3⟩ := h
  have hs := h3.sub (hY _)
  have hm : m = (pre ++ [x]).length := Aj.len h1
  have hmc : m ≤ c := Aj.capR h1
  simp only [List.length_append, List.length_singleton] at hm
  refine AN (CP (hs _ _ h2.get) rfl (AN (CP (hs _ _ h2.get) rfl (AL (by omega) ⟨by omega, by omega, ?_⟩))))
  have e1 : (((m : Nat) : Int) - 1).toNat = pre.length := by omega
  rw [e1]
  obtain ⟨g1, g2, _⟩ := h2.st hs (k := 0) Nat.zero_lt_one (.slice A pre.length c)
  refine AN ⟨g1, hk _ ⟨A, pre.length, c, s1, _, ?_, g2, h3.put (hY _) h2.get _⟩⟩
  have := Aj.take (k := pre.length) h1 (by omega)
  have e2 : (pre ++ [x]).take pre.length = pre := by simp
  exact Eq.mp (congrArg (fun z : List Int => Aj 3 [.int .i64] s0 A pre.length c z s1) e2) this
end
set_option maxRecDepth 20000 in
theorem Vk {Y : List (List Int) → Rel} (hY : ∀ d, Al (Y d)) {s0 : Hp} {bo bn by_ bx_ n : Nat} {e en ey ex : TypeId} {yv : Value} (gn : s0 bn = some (.cells #[.int .i64 (n : Int)] en (0, 0), true)) (gy : s0 by_ = some (.cells #[yv] ey (0, 0), true))
    (gx : s0 bx_ = some (.cells #[.func (.func CJ) #[] #[.pointer (some ⟨bo, 0, none⟩), .pointer (some ⟨bn, 0, none⟩), .pointer (some ⟨by_, 0, none⟩), .pointer (some ⟨bx_, 0, none⟩)]] ex (0, 0), true)) (hn : n ≤ 1000000)
    (hy : ∀ (dn : List (List Int)) (o : List Int) (s τ : Hp) (A : Option Addr) (m c : Nat) (K : Value → Hp → Prop), Hp.Sub s0 s → RdS [.int .i64] s A m o → (o.length = n ∧ ∀ x ∈ o, 0 ≤ x ∧ x < n) → Lse (Y dn) s τ → (∀ σ', Lse (Y (dn ++ [o])) s σ' → K (.bool true) σ') → cl Try.prog yv #[.slice A m c] τ K) :
    ∀ (k : Nat) (pre : List Int) (dn : List (List Int)) (σ : Hp), pre.length + k = n → (∀ x ∈ pre, 0 ≤ x ∧ x < n) → NxS Y s0 bo e dn pre σ →
      Ag Try.prog CJ #[.pointer (some ⟨bo, 0, none⟩), .pointer (some ⟨bn, 0, none⟩), .pointer (some ⟨by_, 0, none⟩), .pointer (some ⟨bx_, 0, none⟩)] σ fun v σ' => v = .bool true ∧ NxS Y s0 bo e (dn ++ EY n k pre) pre σ' := by
  intro k
  induction k with
  | zero =>
    intro pre dn σ hk hp hN
    refine Di _ _ _ _ _ _ ?_
    unfold BY
    obtain ⟨hs, A, m, c, gb, hr, hm, hmc⟩ := hN.get hY
    refine AN (CP gb rfl (AN (Ba (hs _ _ gn) rfl (AK (fun _ => ?_) (fun h => absurd (by omega) h)))))
    refine AN ⟨_, AX (hs _ _ gy) rfl, AN ?_⟩
    obtain ⟨A, m, c, s1, s2, h1, h2, h3⟩ := hN
    have hs2 := h3.sub (hY _)
    refine CP (hs2 _ _ h2.get) rfl ?_
    refine hy dn pre s2 σ A m c _ ((Aj.sub h1).trans h2.sub) ((Aj.rd h1).sub h2.sub) ⟨by omega, hp⟩ h3 fun σ' h => ⟨_, rfl, Av ⟨rfl, A, m, c, s1, s2, h1, h2, h⟩⟩
  | succ k ih =>
    intro pre dn σ hk hp hN
    refine Di _ _ _ _ _ _ ?_
    unfold BY
    obtain ⟨hs, A, m, c, gb, hr, hm, hmc⟩ := hN.get hY
    refine AN (CP gb rfl (AN (Ba (hs _ _ gn) rfl (AK (fun h => by omega) (fun _ => ?_)))))
    refine Ad fun J18 h18 => AN (Ba (hs _ _ gn) rfl ?_)
    refine ⟨fun q i τ => ∃ j : Nat, q = n - j ∧ i = j ∧ j ≤ n ∧ NxS Y s0 bo e (dn ++ GZ n k pre j) pre τ, ⟨_, 0, rfl, rfl, Nat.zero_le _, by rw [Qq, List.append_nil]; exact hN⟩, ?_⟩
    clear gb hr hm hmc hs
    rintro q i τ ⟨j, rfl, rfl, hj, hS⟩ _
    obtain ⟨hs, A, m, c, gb, hr, hm, hmc⟩ := hS.get hY
    refine AK (fun hlt => ?_) (fun hge => ?_)
    · refine Ad fun J29 h29 => ?_
      have k29 : ∀ τ', NxS Y s0 bo e (dn ++ GZ n k pre (j + 1)) pre τ' → J29 τ' := by
        intro τ' h
        rw [h29]
        intro _
        exact AL (by omega) (Bf _ (by omega) ⟨j + 1, rfl, rfl, by omega, h⟩)
      clear h29
      refine AN (CP gb rfl ?_)
      refine clB Ed (PH hr (by omega)) (AK (fun hin => k29 _ ?_) (fun hin => ?_))
      · rw [GU, if_pos hin, List.append_nil]
        exact hS
      · refine NxS.push hY hS (by omega) fun σ48 hS48 => ?_
        obtain ⟨hs48, _⟩ := hS48.get hY
        refine AN ⟨_, AX (hs48 _ _ gx) rfl, ?_⟩
        refine HY.func CD ((ih (pre ++ [(j : Int)]) _ σ48 (by simp; omega) (fun x hx => ?_) hS48).mono ?_)
        · rcases List.mem_append.1 hx with hx | hx
          · exact hp x hx
          · obtain rfl := List.mem_singleton.1 hx
            omega
        rintro v σ53 ⟨rfl, hS53⟩
        refine ⟨true, rfl, Dw ?_⟩
        refine NxS.pop hY hS53 (by omega) fun σ64 hS64 => k29 _ ?_
        rw [GU, if_neg hin, ← List.append_assoc]
        exact hS64
    · obtain rfl : j = n := by omega
      rw [h18]
      intro _
      exact Av ⟨rfl, hS⟩
set_option maxRecDepth 20000 in
theorem Qo {Y : List (List Int) → Rel} (hY : ∀ d, Al (Y d)) {sB : Hp} {bn n : Nat} {en : TypeId} {yv : Value} {dn : List (List Int)} (gn : sB bn = some (.cells #[.int .i64 (n : Int)] en (0, 0), true)) (hn : n ≤ 1000000) (h1 : FO yv = true)
    (hy : ∀ (dn : List (List Int)) (o : List Int) (s τ : Hp) (A : Option Addr) (m c : Nat) (K : Value → Hp → Prop), Hp.Sub sB s → RdS [.int .i64] s A m o → (o.length = n ∧ ∀ x ∈ o, 0 ≤ x ∧ x < n) → Lse (Y dn) s τ → (∀ σ', Lse (Y (dn ++ [o])) s σ' → K (.bool true) σ') → cl Try.prog yv #[.slice A m c] τ K)
    (hl : Lse (Y dn) sB σ) : Ag Try.prog Fa #[yv, .pointer (some ⟨bn, 0, none⟩)] σ fun _ σ' => Lse (Y (dn ++ EY n n [])) sB σ' := by
  refine HG _ _ _ _ ?_
  unfold Du
  obtain ⟨s0, hq, hs0⟩ := hl.exact (hY _)
  refine CC.2 ⟨h1, ?_⟩
  refine PW fun b1 σ2 B1 => PW fun b3 σ4 B3 => PW fun b5 σ6 B5 => ?_
  obtain ⟨g1, g2, _⟩ := B5.st (Hp.Sub.refl _) (k := 0) Nat.zero_lt_one (.func (.func CJ) #[] #[.pointer (some ⟨b1, 0, none⟩), .pointer (some ⟨bn, 0, none⟩), .pointer (some ⟨b3, 0, none⟩), .pointer (some ⟨b5, 0, none⟩)])
  refine ⟨g1, ?_⟩
  generalize σ6.put _ _ = σ7 at *
  refine ⟨_, AX g2.get rfl, ?_⟩
  obtain ⟨t1, p1, p2⟩ := Al.swap Al.blk Al.blk B1 B3
  obtain ⟨t2, p3, p4⟩ := Al.swap Al.blk Al.blk p2 g2
  obtain ⟨t3, p5, p6⟩ := Al.swap (hY _) Al.blk hq p1
  obtain ⟨t4, p7, p8⟩ := Al.swap (hY _) Al.blk p6 p3
  obtain ⟨t5, p9, p10⟩ := Al.swap (hY _) Al.blk p8 p4
  have hb : Hp.Sub sB t4 := hs0.trans (p5.sub.trans p7.sub)
  have hx := Vk (s0 := t4) (bo := b1) (bn := bn) (by_ := b3) (bx_ := b5) (n := n) (yv := yv) hY (hb _ _ gn) (p7.sub _ _ p5.get) p7.get hn (fun dn o s τ A m c K hs => hy dn o s τ A m c K (hb.trans hs)) n [] dn σ7 (by simp) (fun x hx => by cases hx) ⟨_, _, _, t4, t5, Aj.nil .., p9, Lse.of p10⟩
  refine HY.func CD (hx.mono ?_)
  rintro v σ10 ⟨rfl, A, m, c, s1, s2, q1, q2, q3⟩
  exact ⟨true, rfl, Av (q3.low (hY _) (hb.trans ((Aj.sub q1).trans q2.sub)))⟩
end
end Go.Proofs.Ytkdjkkimngeloaa
namespace Go.Proofs.Ytkdjkkimngeloaa
open Go.RowKit
def YS (b3 b7 lb : Nat) (e3 e7 : TypeId) (o : Obj) (b : List Int) (v : Int) : Rel := fun s τ => ∃ A m c,
  Rel.seq (fun s τ => Aj 3 [.int .i64] s A m c b τ) (Rel.seq (Blk b3 (.cells #[.slice A m c] e3 (0, 0))) (Rel.seq (Blk b7 (.cells #[.int .i64 v] e7 (0, 0))) (Blk lb o))) s τ
def YO (b3 b7 lb : Nat) (e3 e7 : TypeId) (o : Obj) (f : List Int → Int) (dn : List (List Int)) : Rel := fun s τ => ∃ b v, H0 f dn b v ∧ YS b3 b7 lb e3 e7 o b v s τ
section
variable {b3 b7 lb : Nat} {e3 e7 : TypeId} {o o' : Obj} {b : List Int} {v : Int} {s τ : Hp} {f : List Int → Int} {dn : List (List Int)}
theorem Al.ys : Al (YS b3 b7 lb e3 e7 o b v) := Al.ex fun _ => Al.ex fun _ => Al.ex fun _ => Al.own.seq (Al.blk.seq (Al.blk.seq Al.blk))
theorem Al.yo : Al (YO b3 b7 lb e3 e7 o f dn) := Al.ex fun _ => Al.ex fun _ => Al.and Al.ys
theorem YS.get (h : Lse (YS b3 b7 lb e3 e7 o b v) s τ) : Hp.Sub s τ ∧ τ lb = some (o, true) ∧ τ b7 = some (.cells #[.int .i64 v] e7 (0, 0), true) ∧ ∃ A m c, τ b3 = some (.cells #[.slice A m c] e3 (0, 0), true) ∧ RdS [.int .i64] τ A m b := by
  have hs := h.sub Al.ys
  obtain ⟨s4, ⟨A, m, c, s1, h1, s2, h2, s3, h3, h4⟩, h5⟩ := h
  exact ⟨hs, h5 _ _ h4.get, h5 _ _ (h4.sub _ _ h3.get), A, m, c, h5 _ _ (h4.sub _ _ (h3.sub _ _ h2.get)), (Aj.rd h1).sub (h2.sub.trans (h3.sub.trans (h4.sub.trans h5)))⟩
theorem YS.turn (h : Lse (YS b3 b7 lb e3 e7 o b v) s τ) : Lse (YS b3 b7 lb e3 e7 o' b v) s (τ.ins lb o') := by
  obtain ⟨s4, ⟨A, m, c, s1, h1, s2, h2, s3, h3, h4⟩, h5⟩ := h
  exact ⟨s3.ins lb o', ⟨A, m, c, s1, h1, s2, h2, s3, h3, h4.1, rfl⟩, (h4.sub.trans h5).ins_both _ _⟩
theorem YS.new (h : Lse (YS b3 b7 lb e3 e7 o b v) s τ) {τ' : Hp} {A : Option Addr} {m c : Nat} {x : List Int} {y : Int} (ho : Aj 3 [.int .i64] τ A m c x τ') {K : Hp → Prop} (hk : ∀ σ', Lse (YS b3 b7 lb e3 e7 o x y) s σ' → K σ') :
    st τ' b3 0 (.slice A m c) fun σ50 => st σ50 b7 0 (.int .i64 y) K := by
  obtain ⟨s4, ⟨A0, m0, c0, s1, h1, h2⟩, h5⟩ := h
  have hP : Al (Rel.seq (Blk b3 (.cells #[.slice A0 m0 c0] e3 (0, 0))) (Rel.seq (Blk b7 (.cells #[.int .i64 v] e7 (0, 0))) (Blk lb o))) := Al.blk.seq (Al.blk.seq Al.blk)
  obtain ⟨s2, q1, q2⟩ := Lse.own_down hP ⟨s4, h2, h5⟩ ho
  obtain ⟨s2', q3, q4⟩ := Al.less (R := fun s τ => Aj 3 [.int .i64] s A m c x τ) Al.own q1 (Aj.sub h1)
  obtain ⟨x3, ⟨x1, p1, x2, p2, p3⟩, p4⟩ := q2.low hP q4
  obtain ⟨g1, g2, _⟩ := p1.st (p2.sub.trans (p3.sub.trans p4)) (k := 0) Nat.zero_lt_one (.slice A m c)
  refine ⟨g1, ?_⟩
  have g3 := Al.blk.put p2 p1.get (k := 0) (.slice A m c)
  have g4 := Al.blk.put p3 (p2.sub _ _ p1.get) (k := 0) (.slice A m c)
  have g5 := LP p4 (p3.sub _ _ (p2.sub _ _ p1.get)) (i := 0) (.slice A m c)
  generalize x1.put ⟨b3, 0, none⟩ (.slice A m c) = y1 at *
  generalize x2.put ⟨b3, 0, none⟩ (.slice A m c) = y2 at *
  generalize x3.put ⟨b3, 0, none⟩ (.slice A m c) = y3 at *
  generalize τ'.put ⟨b3, 0, none⟩ (.slice A m c) = y4 at *
  obtain ⟨r1, r2, _⟩ := g3.st (g4.sub.trans g5) (k := 0) Nat.zero_lt_one (.int .i64 y)
  have r3 := Al.blk.put g4 g3.get (k := 0) (.int .i64 y)
  have r4 := LP g5 (g4.sub _ _ g3.get) (i := 0) (.int .i64 y)
  exact ⟨r1, hk _ ⟨_, ⟨A, m, c, s2', q3, y1, g2, _, r2, r3⟩, r4⟩⟩
end
section
variable {σ : Hp}
theorem Td {n : Int} : Ag Try.prog Lw #[.int .i64 n] σ fun v σ' => ∃ b, v = .func (.func Fa) #[] #[.pointer (some ⟨b, 0, none⟩)] ∧ Blk b (.cells #[.int .i64 n] 3 (0, 0)) σ σ' := by
  refine Je _ _ _ ?_
  unfold D3
  exact PW fun b σ' h => Av ⟨b, rfl, h⟩
set_option maxRecDepth 100000 in
theorem Tz {w : MW} {m : Mp} {t g : Int} {A : Option Addr} {n c : Nat} {ls : List LrT} (h : MIn σ w m) (hp : m.pk.length ≤ 4294967296) (hr : m.rs.length ≤ 4294967296) (hl : RdS sL σ A n ls) (hll : ls.length ≤ 4294967296) :
    Ag Try.prog EI #[w.v, .slice A n c, .int .i64 t, .int .i64 g] σ fun v σ' => Hp.Sub σ σ' ∧
      ((¬ cE m (ls.map AJ) t g = 0 ∧ v = .tuple #[.slice none 0 0, .int .i64 (cE m (ls.map AJ) t g)]) ∨ (cE m (ls.map AJ) t g = 0 ∧ ((OU m (ls.map AJ) t ∧ v = .tuple #[.slice none 0 0, .int .i64 3]) ∨
        ∃ A' n' c' js ar, ∃ P : List Int, v = .tuple #[.slice A' n' c', .int .i64 0] ∧ RdS [.int .i64] σ' A' n' P ∧ D0 m (ls.map AJ) t js ar ∧ J0 ar g ls.length P))) := by
  refine Kl _ _ _ _ _ _ _ _ _ _ _ _ _ ?_
  unfold Es
  have hn := hl.lenL
  refine AV C3 (Mc (t := t) (g := g) h hp hr hl hll) ?_
  rintro v σ2 (⟨e, rfl, hs⟩ | ⟨e0, (⟨hno, rfl, hs⟩ | ⟨bf, A12, n12, c12, A14, n14, c14, xs, js, ar, s1, rfl, hst, hW, hxj, hfl⟩)⟩)
  · exact ⟨_, _, rfl, Bj (fun _ => Av ⟨hs, .inl ⟨e, rfl⟩⟩) (fun g => absurd g e)⟩
  · exact ⟨_, _, rfl, Bj (fun _ => Av ⟨hs, .inr ⟨e0, .inl ⟨hno, rfl⟩⟩⟩) (fun g => by cases g)⟩
  refine ⟨_, _, rfl, Bj (fun g => absurd rfl g) (fun _ => ?_)⟩
  obtain ⟨e1, hg⟩ := O4 e0
  obtain ⟨hm, h8, hlo, ht⟩ := ML e1
  rw [List.length_map] at h8
  have hjl : js.length = ls.length := by rw [hfl.1, List.length_map]
  have hal : List.length (α := Int) ar = ls.length := by rw [hfl.2.1, List.length_map]
  obtain ⟨gb, gx, ga, gs⟩ := hW.get
  have hs2 : Hp.Sub σ σ2 := (MD JN hst).trans gs
  have har : ∀ x ∈ ar, 0 ≤ x ∧ x ≤ 1000000000 := fun x hx => by
    obtain ⟨i, hi, rfl⟩ := List.mem_iff_getElem.1 hx
    have := ((hfl.2.2 i (by rw [List.length_map]; omega) (by omega) hi).sml hm.ok (hlo _ (List.getElem_mem _))).1
    omega
  refine Ad fun J7 h7 => ?_
  have k7 : ∀ b e A' n' c' P τ, Hp.Sub σ τ → τ b = some (.cells #[.slice A' n' c'] e (0, 0), true) → RdS [.int .i64] τ A' n' P → J0 ar g ls.length P → J7 (some ⟨b, 0, none⟩) τ := by
    intro b e A' n' c' P τ hs hb hrd ho
    rw [h7]
    intro _
    refine AN (CP hb rfl (AN ⟨QD hb Nat.zero_lt_one, ?_⟩))
    have e1 : τ.put ⟨b, 0, none⟩ (.slice A' n' c') = τ := by
      funext i
      by_cases hi : i = b
      · subst hi
        unfold Hp.put
        simp only [if_true]
        rw [hb]
        rfl
      · exact Hp.put_ne (show i ≠ (⟨b, 0, none⟩ : Addr).block from hi)
    rw [e1]
    exact AN (CP hb rfl (Av ⟨hs, .inr ⟨e0, .inr ⟨_, _, _, js, ar, P, rfl, hrd, hfl, ho⟩⟩⟩))
  clear h7
  rw [hn]
  refine AV Hb Td ?_
  rintro v σ19 ⟨bn, rfl, Bn⟩
  refine ⟨_, rfl, ?_⟩
  refine PW fun b1 σ22 B1 => PW fun b3 σ24 B3 => PW fun b5 σ26 B5 => PW fun b7 σ28 B7 => ?_
  obtain ⟨sB, p1, p2⟩ := Al.swap Al.blk Al.blk B3 B5
  intro lb Rec hlb hcall
  have BL : Blk lb (Rec .ready none) σ28 (σ28.ins lb (Rec .ready none)) := ⟨hlb, rfl⟩
  generalize σ28.ins lb (Rec .ready none) = σl at *
  have hsB2 : Hp.Sub σ2 sB := Bn.sub.trans (B1.sub.trans p1.sub)
  have gn := p1.sub _ _ (B1.sub _ _ Bn.get)
  have gg := p1.sub _ _ B1.get
  have gp := p1.get
  have hb0 : H0 (vO ar g) [] [] (-1) := .inl ⟨rfl, rfl, rfl⟩
  refine O3.of FS (Ag.mono (Qo (Y := fun d => YO b3 b7 lb _ _ (Rec .ready none) (vO ar g) d) (fun _ => Al.yo) (sB := sB) (n := ls.length) (dn := []) gn (by omega) rfl (fun dn o s τ A1 m1 c1 K hsb hro hgo hY hK => ?_) (Lse.of ⟨[], -1, hb0, none, 0, 0, sB, Aj.nil .., _, p2, _, B7, BL⟩)) ?_)
  · obtain ⟨y, ⟨b, v, hbf, hys⟩, hyt⟩ := hY
    have hY : Lse (YS b3 b7 lb _ _ (Rec .ready none) b v) s τ := ⟨y, hys, hyt⟩
    clear hys hyt
    obtain ⟨hsτ, glb, _⟩ := YS.get hY
    refine hcall _ _ _ glb ⟨_, _, _, rfl, fun _ => ⟨glb, ?_⟩⟩
    have hY := YS.turn (o' := Rec .busy none) hY
    generalize τ.ins lb (Rec .busy none) = τ at hY ⊢
    obtain ⟨hsτ, glb, g7, A3, m3, c3, g3, _⟩ := YS.get hY
    have hτ2 := hsB2.trans (hsb.trans hsτ)
    have hao : ∀ x ∈ o, 0 ≤ x ∧ x < ar.length := fun x hx => by
      have := hgo.2 x hx
      omega
    have hge : ∀ x ∈ o, 0 ≤ geI ar x := fun x hx => by
      obtain ⟨h1, h2⟩ := hao x hx
      rw [D6 (by omega)]
      exact (har _ (List.getElem_mem _)).1
    refine Ad fun J41 h41 => ?_
    refine Wz (hsτ _ _ (hsb _ _ gp)) rfl (Ba (hsτ _ _ (hsb _ _ gg)) rfl ?_)
    refine AV B9 (MS (g := g) (hτ2 _ _ gb) (ga.sub hτ2) (hro.sub hsτ) hao (by omega) har ⟨hg.1, by omega⟩) ?_
    rintro v57 σ57 ⟨A58, n58, c58, (out : List Int), rfl, ho58, harr⟩
    refine ⟨_, _, _, rfl, ?_⟩
    have hrd58 : RdS [.int .i64] σ57 A58 n58 out := Aj.rd ho58
    have hn58 : n58 = out.length := Aj.len ho58
    have hY := hY.up (Aj.sub ho58)
    have hlast := harr.last hge
    have hol : out.length ≤ 8 := by rw [harr.1, hgo.1]; exact h8
    obtain ⟨hsτ, glb, g7, A3, m3, c3, g3, _⟩ := YS.get hY
    have hbd := harr.bnd hg.1 (M := 1000000000) fun x hx => ⟨hge x hx, by
      obtain ⟨h1, h2⟩ := hao x hx
      rw [D6 (by omega)]
      exact (har _ (List.getElem_mem _)).2⟩
    have k41 : ∀ at_, at_ = lsA out → J41 at_ σ57 := by
      rintro at_ rfl
      rw [hlast, h41]
      intro _
      have hv0 : 0 ≤ vO ar g o := by
        rw [← hlast]
        unfold lsA
        by_cases e : out.length = 0
        · have : out = [] := List.length_eq_zero_iff.1 e
          subst this
          exact Int.le_refl _
        · rw [Gz (by omega)]
          exact (hbd _ (by omega)).1
      refine Ad fun J45 h45 => ?_
      have kt : (v < 0 ∨ vO ar g o < v) → J45 true σ57 := fun hb => by
        rw [h45]
        intro _
        refine Ef ?_
        refine AV FD (T0 (hro.sub hsτ) (by omega)) ?_
        rintro v47 σ48 ⟨A49, n49, c49, rfl, ho⟩
        refine ⟨_, _, _, rfl, YS.new hY ho fun σ51 hY51 => ?_⟩
        obtain ⟨_, glb, _⟩ := YS.get hY51
        refine ⟨glb, hK _ ?_⟩
        obtain ⟨y, h1, h2⟩ := YS.turn (o' := Rec .ready none) hY51
        exact ⟨y, ⟨_, _, hbf.new hv0 hb, h1⟩, h2⟩
      have kf : ¬ (v < 0 ∨ vO ar g o < v) → J45 false σ57 := fun hb => by
        rw [h45]
        intro _
        refine Dw ⟨glb, hK _ ?_⟩
        obtain ⟨y, h1, h2⟩ := YS.turn (o' := Rec .ready none) hY
        exact ⟨y, ⟨_, _, hbf.old hb, h1⟩, h2⟩
      refine Ba g7 rfl (AK (fun e => kt (.inl e)) (fun e => Ba g7 rfl ?_))
      by_cases e2 : vO ar g o < v
      · rw [decide_eq_true e2]
        exact kt (.inr e2)
      · rw [decide_eq_false e2]
        exact kf fun hh => hh.elim e e2
    clear h41
    refine ⟨fun q a i τ' => ∃ k : Nat, q = out.length - k ∧ i = k ∧ k ≤ out.length ∧ τ' = σ57 ∧ a = if k = 0 then 0 else geI out ((k - 1 : Nat) : Int), ⟨_, 0, rfl, rfl, Nat.zero_le _, rfl, rfl⟩, ?_⟩
    rintro q a i τ' ⟨k, rfl, rfl, hk, rfl, rfl⟩ _
    refine AK (fun hlt => ?_) (fun hge2 => ?_)
    · have hkl : k < out.length := by omega
      refine BP hrd58 (by omega) (by simpa using hkl) ?_
      simp only [Int.toNat_natCast]
      refine AL (by omega) (Bf _ (by omega) ⟨k + 1, rfl, rfl, by omega, rfl, ?_⟩)
      rw [if_neg (by omega), Nat.add_sub_cancel, Gz hkl]
    · obtain rfl : k = out.length := by omega
      refine k41 _ ?_
      unfold lsA
      by_cases e : out.length = 0
      · have : out = [] := List.length_eq_zero_iff.1 e
        subst this
        rfl
      · rw [if_neg e]
  · rintro v σ' ⟨y, ⟨b, v', hbf, hys⟩, hyt⟩
    have hY : Lse (YS b3 b7 lb _ _ (Rec .ready none) b v') sB σ' := ⟨y, hys, hyt⟩
    obtain ⟨_, glb, _⟩ := YS.get hY
    refine ⟨.ready, none, glb, rfl, ?_⟩
    obtain ⟨hs3, _, _, A3, m3, c3, g3, hr3⟩ := YS.get (YS.turn (o' := Rec .exhausted none) hY)
    exact k7 b3 _ A3 m3 c3 b _ (hs2.trans (hsB2.trans hs3)) g3 hr3 (H0.ord hbf)
end
end Go.Proofs.Ytkdjkkimngeloaa
