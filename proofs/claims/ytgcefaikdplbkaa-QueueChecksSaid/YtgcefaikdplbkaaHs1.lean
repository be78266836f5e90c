/- Heaps in pieces: what owns blocks of its own, beside other things that do; lists of such things. No program in sight. -/
import Derived.Test.YtgcefaikdplbkaaB11
namespace Go.Proofs.Ytgcefaikdplbkaa
open Go.RowKit

abbrev Rel := Hp → Hp → Prop
def Hp.dj (σ h : Hp) : Prop := ∀ b, σ b = none ∨ h b = none
def Hp.un (σ h : Hp) : Hp := fun b => match h b with
  | some x => some x
  | none => σ b
theorem un_r {σ h : Hp} {b : Nat} {x : Obj × Bool} (e : h b = some x) : Hp.un σ h b = some x := by unfold Hp.un; rw [e]
theorem un_l {σ h : Hp} {b : Nat} (e : h b = none) : Hp.un σ h b = σ b := by unfold Hp.un; rw [e]
theorem un_none {σ h : Hp} {b : Nat} (e : Hp.un σ h b = none) : σ b = none ∧ h b = none := by
  cases eh : h b with
  | some x => rw [un_r eh] at e; cases e
  | none => rw [un_l eh] at e; exact ⟨e, rfl⟩
theorem sub_un {σ h : Hp} (hd : Hp.dj σ h) : Hp.Sub σ (Hp.un σ h) := fun k x e => by
  rcases hd k with h1 | h1
  · rw [e] at h1; cases h1
  · rw [un_l h1]; exact e
theorem un_comm {σ h k : Hp} (hd : Hp.dj h k) : Hp.un (Hp.un σ h) k = Hp.un (Hp.un σ k) h := by
  funext b
  rcases hd b with e | e
  · cases ek : k b with
    | some x => rw [un_r ek, un_l e, un_r ek]
    | none => rw [un_l ek, un_l e, un_l e, un_l ek]
  · cases eh : h b with
    | some x => rw [un_l e, un_r eh, un_r eh]
    | none => rw [un_l e, un_l eh, un_l eh, un_l e]
/-- R adds a piece of heap, whatever lies beside it -/
def Port (R : Rel) : Prop := ∀ σ σ', R σ σ' → ∃ h, Hp.dj σ h ∧ σ' = Hp.un σ h ∧ ∀ τ, Hp.dj τ h → R τ (Hp.un τ h)
theorem Port.sub {R : Rel} (hR : Port R) {σ σ' : Hp} (h : R σ σ') : Hp.Sub σ σ' := by
  obtain ⟨k, hd, rfl, _⟩ := hR _ _ h
  exact sub_un hd
theorem Port.swap {R S : Rel} (hR : Port R) (hS : Port S) {σ σ1 σ2 : Hp} (h : R σ σ1) (h' : S σ1 σ2) : ∃ σ1', S σ σ1' ∧ R σ1' σ2 := by
  obtain ⟨k, hd, rfl, hk⟩ := hR _ _ h
  obtain ⟨m, hd2, rfl, hm⟩ := hS _ _ h'
  have d1 : Hp.dj σ m := fun b => by
    rcases hd2 b with e | e
    · exact .inl (un_none e).1
    · exact .inr e
  have d2 : Hp.dj k m := fun b => by
    rcases hd2 b with e | e
    · exact .inl (un_none e).2
    · exact .inr e
  have d3 : Hp.dj (Hp.un σ m) k := fun b => by
    rcases hd b with e | e
    · cases em : m b with
      | none => rw [un_l em]; exact .inl e
      | some x =>
        rcases d2 b with e2 | e2
        · exact .inr e2
        · rw [em] at e2; cases e2
    · exact .inr e
  refine ⟨_, hm _ d1, ?_⟩
  rw [un_comm d2]
  exact hk _ d3
/-- R, and S on top of it -/
def Rel.seq (R S : Rel) : Rel := fun σ σ' => ∃ σ1, R σ σ1 ∧ S σ1 σ'
theorem Port.seq {R S : Rel} (hR : Port R) (hS : Port S) : Port (R.seq S) := by
  rintro σ σ' ⟨σ1, h, h'⟩
  obtain ⟨k, hd, rfl, hk⟩ := hR _ _ h
  obtain ⟨m, hd2, rfl, hm⟩ := hS _ _ h'
  have e : ∀ τ : Hp, Hp.un (Hp.un τ k) m = Hp.un τ (Hp.un k m) := fun τ => by
    funext b
    cases em : m b with
    | some x => rw [un_r em, un_r (un_r em)]
    | none =>
      rw [un_l em]
      cases ek : k b with
      | some x => rw [un_r ek, un_r (show Hp.un k m b = some x by rw [un_l em, ek])]
      | none => rw [un_l ek, un_l (show Hp.un k m b = none by rw [un_l em, ek])]
  refine ⟨Hp.un k m, fun b => ?_, e σ, fun τ ht => ?_⟩
  · rcases hd b with e1 | e1
    · exact .inl e1
    · rcases hd2 b with e2 | e2
      · exact .inl (un_none e2).1
      · exact .inr (by rw [un_l e2, e1])
  · refine ⟨Hp.un τ k, hk τ fun b => (ht b).imp id fun e1 => (un_none e1).1, ?_⟩
    rw [← e]
    refine hm _ fun b => ?_
    cases em : m b with
    | none => exact .inr rfl
    | some x =>
      rcases ht b with e1 | e1
      · rcases hd2 b with e2 | e2
        · exact .inl (by rw [un_l (un_none e2).2]; exact e1)
        · rw [em] at e2; cases e2
      · rw [un_r em] at e1; cases e1
theorem Port.ex {α : Type} {R : α → Rel} (h : ∀ a, Port (R a)) : Port fun σ σ' => ∃ a, R a σ σ' := by
  rintro σ σ' ⟨a, ha⟩
  obtain ⟨k, h1, h2, h3⟩ := h a _ _ ha
  exact ⟨k, h1, h2, fun τ ht => ⟨a, h3 τ ht⟩⟩
theorem Port.and {R : Rel} {p : Prop} (h : Port R) : Port fun σ σ' => p ∧ R σ σ' := by
  rintro σ σ' ⟨hp, ha⟩
  obtain ⟨k, h1, h2, h3⟩ := h _ _ ha
  exact ⟨k, h1, h2, fun τ ht => ⟨hp, h3 τ ht⟩⟩
def Nil : Rel := fun σ σ' => σ' = σ
theorem Port.nil : Port Nil := by
  rintro σ σ' rfl
  refine ⟨fun _ => none, fun b => .inr rfl, ?_, fun τ _ => ?_⟩
  · funext b; rfl
  · show Hp.un τ _ = τ
    funext b; rfl
/-- one block -/
def Blk (b : Nat) (o : Obj) : Rel := fun σ σ' => σ b = none ∧ σ' = σ.ins b o
theorem Port.blk {b : Nat} {o : Obj} : Port (Blk b o) := by
  rintro σ σ' ⟨hb, rfl⟩
  have e : ∀ τ : Hp, τ.ins b o = Hp.un τ (Hp.ins (fun _ => none) b o) := fun τ => by
    funext k
    by_cases hk : k = b
    · subst hk; rw [un_r (Hp.ins_same ..), Hp.ins_same]
    · rw [un_l (by rw [Hp.ins_ne _ hk]), Hp.ins_ne _ hk]
  refine ⟨Hp.ins (fun _ => none) b o, fun k => ?_, e σ, fun τ ht => ⟨?_, (e τ).symm⟩⟩
  · by_cases hk : k = b
    · subst hk; exact .inl hb
    · exact .inr (by rw [Hp.ins_ne _ hk])
  · rcases ht b with h | h
    · exact h
    · rw [Hp.ins_same] at h; cases h
theorem Blk.get {b : Nat} {o : Obj} {σ σ' : Hp} (h : Blk b o σ σ') : σ' b = some (o, true) := by
  obtain ⟨_, rfl⟩ := h
  exact Hp.ins_same ..
theorem Blk.put {b i : Nat} {c : Array Value} {e : TypeId} {f : Nat × Nat} {σ σ' : Hp} (h : Blk b (.cells c e f) σ σ') (v : Value) : Blk b (.cells (c.setIfInBounds i v) e f) σ (σ'.put ⟨b, i, none⟩ v) := by
  obtain ⟨hb, rfl⟩ := h
  refine ⟨hb, ?_⟩
  funext k
  by_cases hk : k = b
  · subst hk
    rw [Hp.put_same (Hp.ins_same ..), Hp.ins_same]
  · rw [Hp.put_ne (show k ≠ (⟨b, i, none⟩ : Addr).block from hk), Hp.ins_ne _ hk, Hp.ins_ne _ hk]
theorem Port.own {e : TypeId} {ss : List Sh} {A : Option Addr} {n c : Nat} {xs : List (TyR ss)} : Port fun σ σ' => OwnSl e ss σ A n c xs σ' := by
  rintro σ σ' (⟨h1, h2, h3, h4, rfl⟩ | ⟨b, off, cells, hA, hn, hnc, hb, rfl, hs, hr⟩)
  · obtain ⟨k, q1, q2, q3⟩ := Port.nil _ _ (rfl : Nil σ' σ')
    exact ⟨k, q1, q2, fun τ ht => .inl ⟨h1, h2, h3, h4, q3 τ ht⟩⟩
  · obtain ⟨k, q1, q2, q3⟩ := Port.blk (b := b) (o := .cells cells e (0, 0)) _ _ ⟨hb, rfl⟩
    exact ⟨k, q1, q2, fun τ ht => .inr ⟨b, off, cells, hA, hn, hnc, (q3 τ ht).1, (q3 τ ht).2, hs, hr⟩⟩
theorem sub_put {σ τ : Hp} (hs : Hp.Sub σ τ) {b i : Nat} {x : Obj × Bool} (hb : σ b = some x) (v : Value) : Hp.Sub (σ.put ⟨b, i, none⟩ v) (τ.put ⟨b, i, none⟩ v) := by
  intro k y hk
  by_cases e : k = b
  · subst e
    have e1 := hs _ _ hb
    unfold Hp.put at hk ⊢
    rw [if_pos rfl] at hk ⊢
    rw [hb] at hk
    rw [e1]
    exact hk
  · rw [Hp.put_ne (show k ≠ (⟨b, i, none⟩ : Addr).block from e)] at hk ⊢
    exact hs _ _ hk
/-- something that is not known lies beside -/
theorem OwnSl.junk {e : TypeId} {ss : List Sh} {σ1 σ2 σ : Hp} {A : Option Addr} {n c : Nat} {xs : List (TyR ss)} (h : OwnSl e ss σ1 A n c xs σ2) (hs : Hp.Sub σ2 σ) : ∃ σ', OwnSl e ss σ' A n c xs σ ∧ Hp.Sub σ1 σ' := by
  rcases h with ⟨h1, h2, h3, h4, rfl⟩ | ⟨b, off, cells, hA, hn, hnc, hb, rfl, hsz, hr⟩
  · exact ⟨σ, .inl ⟨h1, h2, h3, h4, rfl⟩, hs⟩
  · have e := hs _ _ (Hp.ins_same ..)
    refine ⟨fun k => if k = b then none else σ k, .inr ⟨b, off, cells, hA, hn, hnc, if_pos rfl, ?_, hsz, hr⟩, fun k x hk => ?_⟩
    · funext k
      by_cases hk : k = b
      · subst hk; rw [Hp.ins_same, e]
      · rw [Hp.ins_ne _ hk, if_neg hk]
    · have hk2 : k ≠ b := fun e2 => by rw [e2, hb] at hk; cases hk
      show (if k = b then none else σ k) = some x
      rw [if_neg hk2]
      exact hs _ _ (by rw [Hp.ins_ne _ hk2]; exact hk)

/-! ### Lists of pieces -/
def starL : List Rel → Rel
  | [] => Nil
  | R :: rs => (starL rs).seq R
theorem Port.star : ∀ {rs : List Rel}, (∀ R ∈ rs, Port R) → Port (starL rs)
  | [], _ => Port.nil
  | _ :: _, h => (Port.star fun R hR => h R (List.mem_cons_of_mem _ hR)).seq (h _ (List.mem_cons_self ..))
theorem star_get : ∀ {rs : List Rel} {σ σ' : Hp} {k : Nat}, (∀ R ∈ rs, Port R) → (hk : k < rs.length) → starL rs σ σ' → ∃ σ1, starL (rs.eraseIdx k) σ σ1 ∧ rs[k] σ1 σ'
  | R :: rs, σ, σ', 0, _, _, ⟨σ1, h1, h2⟩ => ⟨σ1, h1, h2⟩
  | R :: rs, σ, σ', k + 1, hp, hk, ⟨σ1, h1, h2⟩ => by
    obtain ⟨σ2, q1, q2⟩ := star_get (fun R hR => hp R (List.mem_cons_of_mem _ hR)) (by simpa using hk) h1
    obtain ⟨σ3, r1, r2⟩ := Port.swap (hp _ (List.mem_cons_of_mem _ (List.getElem_mem _))) (hp R (List.mem_cons_self ..)) q2 h2
    exact ⟨σ3, ⟨σ2, q1, r1⟩, r2⟩
theorem star_put : ∀ {rs : List Rel} {σ σ1 σ' : Hp} {k : Nat} {R' : Rel}, (∀ R ∈ rs, Port R) → Port R' → k < rs.length → starL (rs.eraseIdx k) σ σ1 → R' σ1 σ' → starL (rs.set k R') σ σ'
  | R :: rs, σ, σ1, σ', 0, R', _, _, _, h, h' => ⟨σ1, h, h'⟩
  | R :: rs, σ, σ1, σ', k + 1, R', hp, hp', hk, ⟨σ2, h1, h2⟩, h' => by
    obtain ⟨σ3, r1, r2⟩ := Port.swap (hp R (List.mem_cons_self ..)) hp' h2 h'
    exact ⟨σ3, star_put (fun R hR => hp R (List.mem_cons_of_mem _ hR)) hp' (by simpa using hk) h1 r1, r2⟩
theorem star_app : ∀ {rs ss : List Rel} {σ σ' : Hp}, starL (rs ++ ss) σ σ' ↔ ∃ σ1, starL ss σ σ1 ∧ starL rs σ1 σ'
  | [], ss, σ, σ' => ⟨fun h => ⟨σ', h, rfl⟩, fun ⟨σ1, h, e⟩ => by (have e : σ' = σ1 := e); subst e; exact h⟩
  | R :: rs, ss, σ, σ' => by
    constructor
    · rintro ⟨σ2, h1, h2⟩
      obtain ⟨σ1, q1, q2⟩ := star_app.1 h1
      exact ⟨σ1, q1, σ2, q2, h2⟩
    · rintro ⟨σ1, q1, σ2, q2, h2⟩
      exact ⟨σ2, star_app.2 ⟨σ1, q1, q2⟩, h2⟩
/-- a new piece at the end of a list of pieces -/
theorem star_snoc {rs : List Rel} {R : Rel} {σ σ1 σ' : Hp} (hp : ∀ R ∈ rs, Port R) (hR : Port R) (h : starL rs σ σ1) (h' : R σ1 σ') : starL (rs ++ [R]) σ σ' := by
  obtain ⟨σ2, q1, q2⟩ := Port.swap (Port.star hp) hR h h'
  exact star_app.2 ⟨σ2, ⟨σ, rfl, q1⟩, q2⟩
end Go.Proofs.Ytgcefaikdplbkaa
