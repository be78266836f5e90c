/- Contracts of layer 7, program: slices.DeleteFunc of a queue, leave. -/
import Derived.Test.YtgcefaikdplbkaaQa3
import Derived.Test.YtgcefaikdplbkaaHs4
import Derived.Test.YtgcefaikdplbkaaQ6
import Derived.Test.YtgcefaikdplbkaaQ1
namespace Go.Proofs.Ytgcefaikdplbkaa
open Go.RowKit

def qt (xs : List (Int × Int)) (i : Int) : Int × Int := xs.getD i.toNat (0, 0)
theorem qt_eq {xs : List (Int × Int)} {i : Int} (h : i.toNat < xs.length) : qt xs i = xs[i.toNat] := by simp [qt, List.getD, h]
theorem qt_nat {xs : List (Int × Int)} {k : Nat} (h : k < xs.length) : qt xs k = xs[k] := by rw [qt_eq (by simpa using h)]; simp
theorem qix {σ : Hp} {A : Option Addr} {n : Nat} {xs : List (Int × Int)} {i : Int} {K : Int → Int → Prop} (h : RdS sQ σ A n xs) (hi : 0 ≤ i) (hn : i < xs.length) (hk : K (qt xs i).1 (qt xs i).2) :
    ix A n i 2 fun b a => ldI σ .i64 b a fun x => ldI σ .i64 b (a + 1) fun y => K x y := by
  have hn' : i.toNat < xs.length := by omega
  refine ix_of h rfl hi hn' fun b o hc => ?_
  rw [qt_eq hn'] at hk
  exact ⟨_, hc 0 (by show 0 < 2; omega), _, hc 1 (by show 1 < 2; omega), hk⟩
theorem qix0 {σ : Hp} {A : Option Addr} {n : Nat} {xs : List (Int × Int)} {i : Int} {K : Int → Prop} (h : RdS sQ σ A n xs) (hi : 0 ≤ i) (hn : i < xs.length) (hk : K (qt xs i).1) :
    ix A n i 2 fun b a => ldI σ .i64 b a K := by
  have hn' : i.toNat < xs.length := by omega
  refine ix_of h rfl hi hn' fun b o hc => ?_
  rw [qt_eq hn'] at hk
  exact ⟨_, hc 0 (by show 0 < 2; omega), hk⟩
theorem RdS.lenQ {σ : Hp} {A : Option Addr} {n : Nat} {xs : List (Int × Int)} (h : RdS sQ σ A n xs) : n = xs.length := h.1
theorem OwnSl.RdQ {e : TypeId} {σ σ' : Hp} {A : Option Addr} {n c : Nat} {xs : List (Int × Int)} (h : OwnSl e sQ σ A n c xs σ') : RdS sQ σ' A n xs := h.rd
/-- both numbers of a pair are stored -/
theorem OwnSl.ix_stQ {e : TypeId} {σ σ' : Hp} {A : Option Addr} {n c : Nat} {xs : List (Int × Int)} {i v t : Int} {K : Hp → Prop} (h : OwnSl e sQ σ A n c xs σ') (hi : 0 ≤ i) (hn : i < xs.length)
    (hk : ∀ σ2 τ2, OwnSl e sQ σ A n c (xs.set i.toNat (v, t)) σ2 → Hp.Sub σ2 τ2 → K τ2) : ix A n i 2 fun b a => st σ' b a (.int .i64 v) fun τ1 => st τ1 b (a + 1) (.int .i64 t) K := by
  have hn : i.toNat < xs.length := by omega
  obtain ⟨b, off, rfl, hp⟩ := h.put (Hp.Sub.refl _) hn
  have hl : n = xs.length := h.len
  obtain ⟨hw, σ2, ho2, hs2⟩ := hp 0 (.int .i64 v) (v, xs[i.toNat].2) rfl
  have hn2 : i.toNat < (xs.set i.toNat (v, xs[i.toNat].2)).length := by simpa using hn
  obtain ⟨b', off', hA, hp2⟩ := ho2.put hs2 hn2
  cases hA
  obtain ⟨hw2, σ3, ho3, hs3⟩ := hp2 1 (.int .i64 t) (v, t) ((congrArg (fun z : Int × Int => setR sQ z 1 (.int .i64 t)) (List.getElem_set_self hn2)).trans rfl)
  refine ⟨hi, by omega, ?_, ?_, ?_⟩
  · simpa [mulSz_eq] using hw
  · simpa [mulSz_eq, Nat.add_assoc] using hw2
  · have e2 : (xs.set i.toNat (v, xs[i.toNat].2)).set i.toNat (v, t) = xs.set i.toNat (v, t) := List.set_set ..
    refine hk σ3 _ ((congrArg (fun z : List (Int × Int) => OwnSl e sQ σ (some ⟨b, off, none⟩) n c z σ3) e2).mp ho3) ?_
    simpa [mulSz_eq, Nat.add_assoc] using hs3

/-- a function's value that decides p of the elements one by one; what it keeps, beside -/
def Goes (f : Value) (p : Int × Int → Bool) (xs : List (Int × Int)) (T : Nat → Hp → Prop) : Prop :=
  ∀ k, (hk : k < xs.length) → ∀ σ, T k σ → cl Try.prog f #[.agg #[.int .i64 xs[k].1, .int .i64 xs[k].2]] σ fun v σ' => v = .bool (p xs[k]) ∧ T (k + 1) σ'

section
variable {σa σ : Hp} {A : Option Addr} {n c : Nat} {xs : List (Int × Int)} {f : Value} {p : Int × Int → Bool} {T : Nat → Hp → Prop}
theorem c_IndexFunc_stand (ho : OwnSl 90 sQ σa A n c xs σ) (hl : xs.length ≤ 4294967296) (h0 : T 0 σa) (hf : Goes f p xs T) :
    FCalls Try.prog N_slices_IndexFunc_queue_stand #[.slice A n c, f] σ fun v σ' => ∃ σa', OwnSl 90 sQ σa' A n c xs σ' ∧
      ((∃ m : Nat, v = .int .i64 m ∧ (∃ h : m < xs.length, p xs[m] = true) ∧ (∀ j, (h : j < xs.length) → j < m → p xs[j] = false) ∧ T (m + 1) σa') ∨
       (v = .int .i64 (-1) ∧ (∀ j, (h : j < xs.length) → p xs[j] = false) ∧ T xs.length σa')) := by
  refine M_slices_IndexFunc_queue_stand_ok _ _ _ _ _ _ ?_
  unfold M_slices_IndexFunc_queue_stand
  refine cut_intro fun J3 h3 => ?_
  have hn : n = xs.length := ho.RdQ.lenQ
  refine ⟨fun w i τ => ∃ (k : Nat) (τa : Hp), w = xs.length - k ∧ i = k ∧ k ≤ xs.length ∧ OwnSl 90 sQ τa A n c xs τ ∧ T k τa ∧ ∀ j, (h : j < xs.length) → j < k → p xs[j] = false, ⟨_, 0, σa, rfl, rfl, by omega, ho, h0, fun j _ h => by omega⟩, ?_⟩
  rintro w i τ ⟨k, τa, rfl, rfl, hk, hot, hT, hj⟩ _
  refine bc_d (fun hlt => ?_) (fun hlt => ?_)
  · have hkl : k < xs.length := by omega
    refine qix hot.RdQ (by omega) (by omega) ?_
    rw [qt_nat hkl]
    refine cl.own (hf k hkl τa hT) hot ?_
    rintro _ σb σ' ⟨rfl, hT'⟩ ho'
    refine ⟨_, rfl, bc_b (fun hp => rt_of ⟨σb, ho', .inl ⟨k, rfl, ⟨hkl, hp⟩, hj, hT'⟩⟩) (fun hp => wk_i (by omega) (bk_of _ (by omega) ⟨k + 1, σb, rfl, by omega, by omega, ho', hT', fun j h hjk => ?_⟩))⟩
    rcases Nat.lt_or_ge j k with h1 | h1
    · exact hj j h h1
    · have : j = k := by omega
      subst this
      exact hp
  · have : k = xs.length := by omega
    subst this
    rw [h3]
    intro _
    exact rt_of ⟨τa, hot, .inr ⟨rfl, fun j h => hj j h h, hT⟩⟩

theorem filter_take_succ {p : Int × Int → Bool} {xs : List (Int × Int)} {k : Nat} (h : k < xs.length) : (xs.take (k + 1)).filter p = (xs.take k).filter p ++ (if p xs[k] = true then [xs[k]] else []) := by
  rw [List.take_succ_eq_append_getElem h, List.filter_append]
  congr 1
  by_cases hp : p xs[k] = true <;> simp [hp]

set_option maxRecDepth 20000 in
theorem c_DeleteFunc (ho : OwnSl 90 sQ σa A n c xs σ) (hl : xs.length ≤ 4294967296) (h0 : T 0 σa) (hf : Goes f p xs T) :
    FCalls Try.prog N_slices_DeleteFunc_queue_stand #[.slice A n c, f] σ fun v σ' => ∃ (σa' : Hp) (m : Nat), v = .slice A m c ∧ T xs.length σa' ∧ OwnSl 90 sQ σa' A m c (xs.filter fun x => !p x) σ' := by
  refine M_slices_DeleteFunc_queue_stand_ok _ _ _ _ _ _ ?_
  unfold M_slices_DeleteFunc_queue_stand
  have hn : n = xs.length := ho.RdQ.lenQ
  have hnc : n ≤ c := by
    rcases ho with ⟨_, rfl, rfl, _⟩ | ⟨_, _, _, _, _, h, _⟩
    · exact Nat.le_refl _
    · exact h
  refine cl_of M_slices_IndexFunc_queue_stand_enter (c_IndexFunc_stand ho hl h0 hf) ?_
  rintro v σ2 ⟨σb, ho2, (⟨m, rfl, ⟨hm, hpm⟩, hj, hT⟩ | ⟨rfl, hj, hT⟩)⟩
  · refine ⟨_, rfl, bc_d (fun h => by omega) (fun _ => cut_intro fun J6 h6 => wk_i (by omega) ?_)⟩
    have k6 : ∀ (i : Nat) (τa τ : Hp) (ys : List (Int × Int)), i ≤ xs.length → ys.length = xs.length → ys.take i = xs.filter (fun x => !p x) → T xs.length τa → OwnSl 90 sQ τa A n c ys τ → J6 i τ := by
      intro i τa τ ys hi hys hyf hT' ho'
      rw [h6]
      intro _
      refine ⟨by omega, by omega, ?_⟩
      have eb : ∀ b off, A = some ⟨b, off, none⟩ → (if c = i then (A : Option Addr) else (A : Option Addr).map (fun x => x.add (i * 2))) = some ⟨b, off + i * sQ.length, none⟩ ∨ n - i = 0 := by
        intro b off hA
        subst hA
        by_cases e : c = i
        · exact .inr (by omega)
        · refine .inl ?_
          rw [if_neg e]
          show some (Addr.add ⟨b, off, none⟩ (i * 2)) = _
          rw [addr_add]
          rfl
      have hfin : ∀ σ3, OwnSl 90 sQ τa A i c (ys.take i) σ3 → 0 ≤ ((i : Nat) : Int) ∧ ((i : Nat) : Int) ≤ ((c : Nat) : Int) ∧ rt σ3 (fun v σ' => ∃ (σa' : Hp) (m : Nat), v = .slice A m c ∧ T xs.length σa' ∧ OwnSl 90 sQ σa' A m c (xs.filter fun x => !p x) σ') (.slice A i c) := by
        intro σ3 h3
        exact ⟨by omega, by omega, rt_of ⟨τa, i, rfl, hT', (congrArg (fun z : List (Int × Int) => OwnSl 90 sQ τa A i c z σ3) hyf).mp h3⟩⟩
      simp only [Int.toNat_natCast]
      have hck : clrOK Try.prog 71 90 sQ.length = true := by kernel_rfl
      have hlt2 : 0 < sQ.length := by show 0 < 2; omega
      have hin : i ≤ n := by omega
      have hbb : ∀ b off, A = some ⟨b, off, none⟩ → i < n → (if c = i then (A : Option Addr) else (A : Option Addr).map (fun x => x.add (i * 2))) = some ⟨b, off + i * sQ.length, none⟩ := by
        intro b off hA hlt
        rcases eb b off hA with h1 | h1
        · exact h1
        · omega
      exact clr_own hck hlt2 ho' hin hbb hfin
    refine ⟨fun w i j τ => ∃ (i' k : Nat) (τa : Hp) (ys : List (Int × Int)), w = xs.length - k ∧ i = i' ∧ j = k ∧ i' ≤ k ∧ k ≤ xs.length ∧ ys.length = xs.length ∧ ys.take i' = (xs.take k).filter (fun x => !p x) ∧ (∀ t, (h : t < xs.length) → k ≤ t → qt ys t = xs[t]) ∧ T k τa ∧ OwnSl 90 sQ τa A n c ys τ,
      ⟨_, m, m + 1, σb, xs, rfl, rfl, by omega, by omega, by omega, rfl, ?_, fun t h _ => qt_nat h, hT, ho2⟩, ?_⟩
    · rw [filter_take_succ hm, if_neg (by simp [hpm]), List.append_nil, eq_comm, List.filter_eq_self]
      intro x hx
      obtain ⟨j, hj', rfl⟩ := List.getElem_of_mem hx
      rw [List.length_take] at hj'
      rw [List.getElem_take, hj j (by omega) (by omega)]
      rfl
    rintro w i j τ ⟨i', k, τa, ys, rfl, rfl, rfl, hik, hk, hyl, hyf, hyt, hT', hot⟩ _
    refine bc_d (fun hlt => ?_) (fun hlt => ?_)
    · have hkl : k < xs.length := by omega
      refine cut_intro fun J18 h18 => ?_
      refine qix hot.RdQ (by omega) (by omega) ?_
      rw [hyt k hkl (Nat.le_refl _)]
      refine cl.own (hf k hkl τa hT') hot ?_
      rintro _ σb' σ' ⟨rfl, hT2⟩ ho'
      have hft := filter_take_succ (p := fun x => !p x) hkl
      refine ⟨_, rfl, bc_nb (fun hp => ?_) (fun hp => ?_)⟩
      · rw [if_pos (by simp [hp])] at hft
        refine ho'.ix_stQ (by omega) (by omega) fun σ3 τ3 ho3 hs3 => wk_i (by omega) ?_
        rw [h18]
        intro _
        refine wk_i (by omega) (bk_sub _ (by omega) hs3 ⟨i' + 1, k + 1, σb', ys.set i' xs[k], rfl, by omega, by omega, by omega, by omega, by simpa using hyl, ?_, fun t ht hkt => ?_, hT2, ho3⟩)
        · rw [hft, ← hyf, List.take_succ_eq_append_getElem (by simp; omega), List.take_set_of_le (Nat.le_refl _)]
          simp
        · have := hyt t ht (by omega)
          rw [← this]
          unfold qt
          simp only [List.getD, List.getElem?_set, Int.toNat_natCast]
          rw [if_neg (by omega)]
      · rw [if_neg (by simp [hp]), List.append_nil] at hft
        rw [h18]
        intro _
        exact wk_i (by omega) (bk_of _ (by omega) ⟨i', k + 1, σb', ys, rfl, rfl, by omega, by omega, by omega, hyl, by rw [hft]; exact hyf, fun t h hkt => hyt t h (by omega), hT2, ho'⟩)
    · have : k = xs.length := by omega
      subst this
      rw [List.take_length] at hyf
      exact k6 i' τa τ ys hik hyl hyf hT' hot
  · refine ⟨_, rfl, bc_d (fun _ => rt_of ⟨σb, n, rfl, hT, ?_⟩) (fun h => absurd rfl h)⟩
    have : (xs.filter fun x => !p x) = xs := by
      rw [List.filter_eq_self]
      intro x hx
      obtain ⟨j, hj', rfl⟩ := List.getElem_of_mem hx
      rw [hj j hj']
      rfl
    exact (congrArg (fun z : List (Int × Int) => OwnSl 90 sQ σb A n c z σ2) this).mpr ho2
end
end Go.Proofs.Ytgcefaikdplbkaa
