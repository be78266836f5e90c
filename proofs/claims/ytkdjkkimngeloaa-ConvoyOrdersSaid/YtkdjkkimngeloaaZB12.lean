/- Trimmed by wip/trim.py to what this claim rests on. -/
import Derived.Test.YtkdjkkimngeloaaZB11
namespace Go.Proofs.Ytkdjkkimngeloaa
open Go.RowKit
abbrev Rel := Hp → Hp → Prop
def Hp.dj (σ h : Hp) : Prop := ∀ b, σ b = none ∨ h b = none
def Hp.un (σ h : Hp) : Hp := fun b => match h b with
  | some x => some x
  | none => σ b
theorem E0 {σ h : Hp} {b : Nat} {x : Obj × Bool} (e : h b = some x) : Hp.un σ h b = some x := by unfold Hp.un; rw [e]
theorem CF {σ h : Hp} {b : Nat} (e : h b = none) : Hp.un σ h b = σ b := by unfold Hp.un; rw [e]
theorem Ic {σ h : Hp} {b : Nat} (e : Hp.un σ h b = none) : σ b = none ∧ h b = none := by
  cases eh : h b with
  | some x => rw [E0 eh] at e; cases e
  | none => rw [CF eh] at e; exact ⟨e, rfl⟩
theorem Vz {σ h : Hp} (hd : Hp.dj σ h) : Hp.Sub σ (Hp.un σ h) := fun k x e => by
  rcases hd k with h1 | h1
  · rw [e] at h1; cases h1
  · rw [CF h1]; exact e
theorem UV {σ h k : Hp} (hd : Hp.dj h k) : Hp.un (Hp.un σ h) k = Hp.un (Hp.un σ k) h := by
  funext b
  rcases hd b with e | e
  · cases ek : k b with
    | some x => rw [E0 ek, CF e, E0 ek]
    | none => rw [CF ek, CF e, CF e, CF ek]
  · cases eh : h b with
    | some x => rw [CF e, E0 eh, E0 eh]
    | none => rw [CF e, CF eh, CF eh, CF e]
def Al (R : Rel) : Prop := ∀ σ σ', R σ σ' → ∃ h, Hp.dj σ h ∧ σ' = Hp.un σ h ∧ ∀ τ, Hp.dj τ h → R τ (Hp.un τ h)
theorem Al.sub {R : Rel} (hR : Al R) {σ σ' : Hp} (h : R σ σ') : Hp.Sub σ σ' := by
  obtain ⟨k, hd, rfl, _⟩ := hR _ _ h
  exact Vz hd
theorem Al.swap {R S : Rel} (hR : Al R) (hS : Al S) {σ σ1 σ2 : Hp} (h : R σ σ1) (h' : S σ1 σ2) : ∃ σ1', S σ σ1' ∧ R σ1' σ2 := by
  obtain ⟨k, hd, rfl, hk⟩ := hR _ _ h
  obtain ⟨m, hd2, rfl, hm⟩ := hS _ _ h'
  have d1 : Hp.dj σ m := fun b => by
    rcases hd2 b with e | e
    · exact .inl (Ic e).1
    · exact .inr e
  have d2 : Hp.dj k m := fun b => by
    rcases hd2 b with e | e
    · exact .inl (Ic e).2
    · exact .inr e
  have d3 : Hp.dj (Hp.un σ m) k := fun b => by
    rcases hd b with e | e
    · cases em : m b with
      | none => rw [CF em]; exact .inl e
      | some x =>
        rcases d2 b with e2 | e2
        · exact .inr e2
        · rw [em] at e2; cases e2
    · exact .inr e
  refine ⟨_, hm _ d1, ?_⟩
  rw [UV d2]
  exact hk _ d3
def Rel.seq (R S : Rel) : Rel := fun σ σ' => ∃ σ1, R σ σ1 ∧ S σ1 σ'
theorem Al.seq {R S : Rel} (hR : Al R) (hS : Al S) : Al (R.seq S) := by
  rintro σ σ' ⟨σ1, h, h'⟩
  obtain ⟨k, hd, rfl, hk⟩ := hR _ _ h
  obtain ⟨m, hd2, rfl, hm⟩ := hS _ _ h'
  have e : ∀ τ : Hp, Hp.un (Hp.un τ k) m = Hp.un τ (Hp.un k m) := fun τ => by
    funext b
    cases em : m b with
    | some x => rw [E0 em, E0 (E0 em)]
    | none =>
      rw [CF em]
      cases ek : k b with
      | some x => rw [E0 ek, E0 (show Hp.un k m b = some x by rw [CF em, ek])]
      | none => rw [CF ek, CF (show Hp.un k m b = none by rw [CF em, ek])]
  refine ⟨Hp.un k m, fun b => ?_, e σ, fun τ ht => ?_⟩
  · rcases hd b with e1 | e1
    · exact .inl e1
    · rcases hd2 b with e2 | e2
      · exact .inl (Ic e2).1
      · exact .inr (by rw [CF e2, e1])
  · refine ⟨Hp.un τ k, hk τ fun b => (ht b).imp id fun e1 => (Ic e1).1, ?_⟩
    rw [← e]
    refine hm _ fun b => ?_
    cases em : m b with
    | none => exact .inr rfl
    | some x =>
      rcases ht b with e1 | e1
      · rcases hd2 b with e2 | e2
        · exact .inl (by rw [CF (Ic e2).2]; exact e1)
        · rw [em] at e2; cases e2
      · rw [E0 em] at e1; cases e1
theorem Al.ex {α : Type} {R : α → Rel} (h : ∀ a, Al (R a)) : Al fun σ σ' => ∃ a, R a σ σ' := by
  rintro σ σ' ⟨a, ha⟩
  obtain ⟨k, h1, h2, h3⟩ := h a _ _ ha
  exact ⟨k, h1, h2, fun τ ht => ⟨a, h3 τ ht⟩⟩
theorem Al.and {R : Rel} {p : Prop} (h : Al R) : Al fun σ σ' => p ∧ R σ σ' := by
  rintro σ σ' ⟨hp, ha⟩
  obtain ⟨k, h1, h2, h3⟩ := h _ _ ha
  exact ⟨k, h1, h2, fun τ ht => ⟨hp, h3 τ ht⟩⟩
def Nil : Rel := fun σ σ' => σ' = σ
theorem Al.nil : Al Nil := by
  rintro σ σ' rfl
  refine ⟨fun _ => none, fun b => .inr rfl, ?_, fun τ _ => ?_⟩
  · funext b; rfl
  · show Hp.un τ _ = τ
    funext b; rfl
def Blk (b : Nat) (o : Obj) : Rel := fun σ σ' => σ b = none ∧ σ' = σ.ins b o
theorem Al.blk {b : Nat} {o : Obj} : Al (Blk b o) := by
  rintro σ σ' ⟨hb, rfl⟩
  have e : ∀ τ : Hp, τ.ins b o = Hp.un τ (Hp.ins (fun _ => none) b o) := fun τ => by
    funext k
    by_cases hk : k = b
    · subst hk; rw [E0 (Hp.ins_same ..), Hp.ins_same]
    · rw [CF (by rw [Hp.ins_ne _ hk]), Hp.ins_ne _ hk]
  refine ⟨Hp.ins (fun _ => none) b o, fun k => ?_, e σ, fun τ ht => ⟨?_, (e τ).symm⟩⟩
  · by_cases hk : k = b
    · subst hk; exact .inl hb
    · exact .inr (by rw [Hp.ins_ne _ hk])
  · rcases ht b with h | h
    · exact h
    · rw [Hp.ins_same] at h; cases h
theorem Blk.get {b : Nat} {o : Obj} {σ σ' : Hp} (h : Blk b o σ σ') : σ' b = some (o, true) := by
  obtain ⟨_, rfl⟩ := h
  exact Hp.ins_same ..
theorem Blk.put {b i : Nat} {c : Array Value} {e : TypeId} {f : Nat × Nat} {σ σ' : Hp} (h : Blk b (.cells c e f) σ σ') (v : Value) : Blk b (.cells (c.setIfInBounds i v) e f) σ (σ'.put ⟨b, i, none⟩ v) := by
  obtain ⟨hb, rfl⟩ := h
  refine ⟨hb, ?_⟩
  funext k
  by_cases hk : k = b
  · subst hk
    rw [Hp.put_same (Hp.ins_same ..), Hp.ins_same]
  · rw [Hp.put_ne (show k ≠ (⟨b, i, none⟩ : Addr).block from hk), Hp.ins_ne _ hk, Hp.ins_ne _ hk]
theorem Al.own {e : TypeId} {ss : List Sh} {A : Option Addr} {n c : Nat} {xs : List (TyR ss)} : Al fun σ σ' => Aj e ss σ A n c xs σ' := by
  rintro σ σ' (⟨h1, h2, h3, h4, rfl⟩ | ⟨b, off, cells, hA, hn, hnc, hb, rfl, hs, hr⟩)
  · obtain ⟨k, q1, q2, q3⟩ := Al.nil _ _ (rfl : Nil σ' σ')
    exact ⟨k, q1, q2, fun τ ht => .inl ⟨h1, h2, h3, h4, q3 τ ht⟩⟩
  · obtain ⟨k, q1, q2, q3⟩ := Al.blk (b := b) (o := .cells cells e (0, 0)) _ _ ⟨hb, rfl⟩
    exact ⟨k, q1, q2, fun τ ht => .inr ⟨b, off, cells, hA, hn, hnc, (q3 τ ht).1, (q3 τ ht).2, hs, hr⟩⟩
theorem LP {σ τ : Hp} (hs : Hp.Sub σ τ) {b i : Nat} {x : Obj × Bool} (hb : σ b = some x) (v : Value) : Hp.Sub (σ.put ⟨b, i, none⟩ v) (τ.put ⟨b, i, none⟩ v) := by
  intro k y hk
  by_cases e : k = b
  · subst e
    have e1 := hs _ _ hb
    unfold Hp.put at hk ⊢
    rw [if_pos rfl] at hk ⊢
    rw [hb] at hk
    rw [e1]
    exact hk
  · rw [Hp.put_ne (show k ≠ (⟨b, i, none⟩ : Addr).block from e)] at hk ⊢
    exact hs _ _ hk
theorem Aj.junk {e : TypeId} {ss : List Sh} {σ1 σ2 σ : Hp} {A : Option Addr} {n c : Nat} {xs : List (TyR ss)} (h : Aj e ss σ1 A n c xs σ2) (hs : Hp.Sub σ2 σ) : ∃ σ', Aj e ss σ' A n c xs σ ∧ Hp.Sub σ1 σ' := by
  rcases h with ⟨h1, h2, h3, h4, rfl⟩ | ⟨b, off, cells, hA, hn, hnc, hb, rfl, hsz, hr⟩
  · exact ⟨σ, .inl ⟨h1, h2, h3, h4, rfl⟩, hs⟩
  · have e := hs _ _ (Hp.ins_same ..)
    refine ⟨fun k => if k = b then none else σ k, .inr ⟨b, off, cells, hA, hn, hnc, if_pos rfl, ?_, hsz, hr⟩, fun k x hk => ?_⟩
    · funext k
      by_cases hk : k = b
      · subst hk; rw [Hp.ins_same, e]
      · rw [Hp.ins_ne _ hk, if_neg hk]
    · have hk2 : k ≠ b := fun e2 => by rw [e2, hb] at hk; cases hk
      show (if k = b then none else σ k) = some x
      rw [if_neg hk2]
      exact hs _ _ (by rw [Hp.ins_ne _ hk2]; exact hk)
def HN : List Rel → Rel
  | [] => Nil
  | R :: rs => (HN rs).seq R
theorem Al.star : ∀ {rs : List Rel}, (∀ R ∈ rs, Al R) → Al (HN rs)
  | [], _ => Al.nil
  | _ :: _, h => (Al.star fun R hR => h R (List.mem_cons_of_mem _ hR)).seq (h _ (List.mem_cons_self ..))
theorem MI : ∀ {rs ss : List Rel} {σ σ' : Hp}, HN (rs ++ ss) σ σ' ↔ ∃ σ1, HN ss σ σ1 ∧ HN rs σ1 σ'
  | [], ss, σ, σ' => ⟨fun h => ⟨σ', h, rfl⟩, fun ⟨σ1, h, e⟩ => by (have e : σ' = σ1 := e); subst e; exact h⟩
  | R :: rs, ss, σ, σ' => by
    constructor
    · rintro ⟨σ2, h1, h2⟩
      obtain ⟨σ1, q1, q2⟩ := MI.1 h1
      exact ⟨σ1, q1, σ2, q2, h2⟩
    · rintro ⟨σ1, q1, σ2, q2, h2⟩
      exact ⟨σ2, MI.2 ⟨σ1, q1, q2⟩, h2⟩
theorem Sy {rs : List Rel} {R : Rel} {σ σ1 σ' : Hp} (hp : ∀ R ∈ rs, Al R) (hR : Al R) (h : HN rs σ σ1) (h' : R σ1 σ') : HN (rs ++ [R]) σ σ' := by
  obtain ⟨σ2, q1, q2⟩ := Al.swap (Al.star hp) hR h h'
  exact MI.2 ⟨σ2, ⟨σ, rfl, q1⟩, q2⟩
end Go.Proofs.Ytkdjkkimngeloaa
namespace Go.Proofs.Ytkdjkkimngeloaa
open Go.RowKit
theorem Al.junk {R : Rel} (hR : Al R) {σ1 σ2 σ : Hp} (h : R σ1 σ2) (hs : Hp.Sub σ2 σ) : ∃ σ1', R σ1' σ ∧ Hp.Sub σ1 σ1' := by
  obtain ⟨k, hd, rfl, hk⟩ := hR _ _ h
  have e : Hp.un (fun b => match k b with | some _ => none | none => σ b) k = σ := by
    funext b
    cases ek : k b with
    | some x => rw [E0 ek]; exact (hs _ _ (E0 ek)).symm
    | none => rw [CF ek]; simp only [ek]
  refine ⟨fun b => match k b with | some _ => none | none => σ b, ?_, fun b x hb => ?_⟩
  · have := hk (fun b => match k b with | some _ => none | none => σ b) (fun b => by
      cases ek : k b with
      | some x => exact .inl (by simp only [ek])
      | none => exact .inr rfl)
    rwa [e] at this
  · rcases hd b with h1 | h1
    · rw [h1] at hb; cases hb
    · simp only [h1]
      exact hs _ _ (by rw [CF h1]; exact hb)
theorem Al.less {R : Rel} (hR : Al R) {σ2 σ3 σ : Hp} (h : R σ2 σ) (hs : Hp.Sub σ3 σ2) : ∃ σ4, R σ3 σ4 ∧ Hp.Sub σ4 σ := by
  obtain ⟨k, hd, rfl, hk⟩ := hR _ _ h
  refine ⟨_, hk σ3 (fun b => ?_), fun b x hb => ?_⟩
  · rcases hd b with h1 | h1
    · exact .inl (by
        cases e : σ3 b with
        | none => rfl
        | some y => have := hs _ _ e; rw [h1] at this; cases this)
    · exact .inr h1
  · cases ek : k b with
    | some y => rw [E0 ek] at hb ⊢; exact hb
    | none => rw [CF ek] at hb ⊢; exact hs _ _ hb
def Lse (R : Rel) : Rel := fun σ0 σ => ∃ σ1, R σ0 σ1 ∧ Hp.Sub σ1 σ
theorem Lse.of {R : Rel} {σ0 σ : Hp} (h : R σ0 σ) : Lse R σ0 σ := ⟨σ, h, Hp.Sub.refl _⟩
theorem Lse.up {R : Rel} {σ0 σ σ' : Hp} (h : Lse R σ0 σ) (hs : Hp.Sub σ σ') : Lse R σ0 σ' := let ⟨σ1, h1, h2⟩ := h; ⟨σ1, h1, h2.trans hs⟩
theorem Lse.sub {R : Rel} (hR : Al R) {σ0 σ : Hp} (h : Lse R σ0 σ) : Hp.Sub σ0 σ := let ⟨_, h1, h2⟩ := h; (hR.sub h1).trans h2
theorem Lse.exact {R : Rel} (hR : Al R) {σ0 σ : Hp} (h : Lse R σ0 σ) : ∃ σ0', R σ0' σ ∧ Hp.Sub σ0 σ0' := let ⟨_, h1, h2⟩ := h; hR.junk h1 h2
theorem Lse.low {R : Rel} (hR : Al R) {σ0 σ1 σ : Hp} (h : Lse R σ1 σ) (hs : Hp.Sub σ0 σ1) : Lse R σ0 σ := by
  obtain ⟨σ2, h1, h2⟩ := h
  obtain ⟨σ4, h3, h4⟩ := hR.less h1 hs
  exact ⟨σ4, h3, h4.trans h2⟩
theorem Lse.swap {R S : Rel} (hR : Al R) (hS : Al S) {σ σ1 σ2 : Hp} (h : Lse R σ σ1) (h' : Lse S σ1 σ2) : ∃ σ1', Lse S σ σ1' ∧ Lse R σ1' σ2 := by
  obtain ⟨σa, h1, h2⟩ := h
  obtain ⟨σb, h3, h4⟩ := h'
  obtain ⟨σc, h5, h6⟩ := hS.less h3 h2
  obtain ⟨σd, h7, h8⟩ := Al.swap hR hS h1 h5
  exact ⟨σd, Lse.of h7, σc, h8, h6.trans h4⟩
theorem Lse.own_up {R : Rel} (hR : Al R) {e : TypeId} {ss : List Sh} {σ1 σ2 σ : Hp} {A : Option Addr} {n c : Nat} {xs : List (TyR ss)} (h : Aj e ss σ1 A n c xs σ2) (h' : Lse R σ2 σ) : ∃ σ', Lse R σ1 σ' ∧ Aj e ss σ' A n c xs σ := by
  have hO : Al (fun σ σ' => Aj e ss σ A n c xs σ') := Al.own
  obtain ⟨σ3, h1, h2⟩ := Lse.swap hO hR (Lse.of h) h'
  obtain ⟨σ4, h3, h4⟩ := h2.exact hO
  exact ⟨σ4, h1.up h4, h3⟩
theorem Lse.own_down {R : Rel} (hR : Al R) {e : TypeId} {ss : List Sh} {σ1 σ2 σ : Hp} {A : Option Addr} {n c : Nat} {xs : List (TyR ss)} (h : Lse R σ1 σ2) (h' : Aj e ss σ2 A n c xs σ) : ∃ σ', Aj e ss σ1 A n c xs σ' ∧ Lse R σ' σ := by
  have hO : Al (fun σ σ' => Aj e ss σ A n c xs σ') := Al.own
  obtain ⟨σ3, ⟨σ5, h5, h6⟩, h2⟩ := Lse.swap hR hO h (Lse.of h')
  exact ⟨σ5, h5, h2.low hR h6⟩
theorem AX {σ : Hp} {b k : Nat} {c : Array Value} {e : TypeId} {f : Nat × Nat} {rw : Bool} {v : Value} (h : σ b = some (.cells c e f, rw)) (hv : c[k]? = some v) : σ.cell? ⟨b, k, none⟩ = some v := by
  unfold Hp.cell?
  simp only [h]
  exact hv
theorem QD {σ : Hp} {b k : Nat} {c : Array Value} {e : TypeId} (h : σ b = some (.cells c e (0, 0), true)) (hk : k < c.size) : σ.wr ⟨b, k, none⟩ := ⟨c, e, h, hk, rfl⟩
section
variable {σ : Hp} {b k : Nat} {c : Array Value} {e : TypeId} {f : Nat × Nat} {rw : Bool}
theorem Ba {n : Int} {K : Int → Prop} (h : σ b = some (.cells c e f, rw)) (hv : c[k]? = some (.int .i64 n)) (hk : K n) : ldI σ .i64 b k K := ⟨n, AX h hv, hk⟩
theorem Wz {p : Option Addr} {K : Option Addr → Prop} (h : σ b = some (.cells c e f, rw)) (hv : c[k]? = some (.pointer p)) (hk : K p) : ldP σ b k K := ⟨p, AX h hv, hk⟩
theorem CP {A : Option Addr} {n m : Nat} {K : Option Addr → Nat → Nat → Prop} (h : σ b = some (.cells c e f, rw)) (hv : c[k]? = some (.slice A n m)) (hk : K A n m) : ldS σ b k K := ⟨A, n, m, AX h hv, hk⟩
end
theorem Blk.st {b k : Nat} {c : Array Value} {e : TypeId} {σ0 σ1 σ : Hp} (h : Blk b (.cells c e (0, 0)) σ0 σ1) (hs : Hp.Sub σ1 σ) (hk : k < c.size) (v : Value) :
    σ.wr ⟨b, k, none⟩ ∧ Blk b (.cells (c.setIfInBounds k v) e (0, 0)) σ0 (σ1.put ⟨b, k, none⟩ v) ∧ Hp.Sub (σ1.put ⟨b, k, none⟩ v) (σ.put ⟨b, k, none⟩ v) :=
  ⟨QD (hs _ _ h.get) hk, h.put v, LP hs h.get v⟩
theorem Al.put {R : Rel} (hR : Al R) {σ1 σ2 : Hp} (h : R σ1 σ2) {b k : Nat} {x : Obj × Bool} (hb : σ1 b = some x) (v : Value) : R (σ1.put ⟨b, k, none⟩ v) (σ2.put ⟨b, k, none⟩ v) := by
  obtain ⟨m, hd, rfl, hk⟩ := hR _ _ h
  have hm : m b = none := by
    rcases hd b with h1 | h1
    · rw [h1] at hb; cases hb
    · exact h1
  have e : Hp.put (Hp.un σ1 m) ⟨b, k, none⟩ v = Hp.un (σ1.put ⟨b, k, none⟩ v) m := by
    funext i
    by_cases hi : i = b
    · subst hi
      unfold Hp.put
      rw [if_pos rfl, CF hm, CF hm]
      simp
    · rw [Hp.put_ne (show i ≠ (⟨b, k, none⟩ : Addr).block from hi)]
      cases em : m i with
      | some y => rw [E0 em, E0 em]
      | none => rw [CF em, CF em, Hp.put_ne (show i ≠ (⟨b, k, none⟩ : Addr).block from hi)]
  rw [e]
  refine hk _ fun i => ?_
  rcases hd i with h1 | h1
  · have : i ≠ b := fun e => by rw [← e, h1] at hb; cases hb
    exact .inl (by rw [Hp.put_ne (show i ≠ (⟨b, k, none⟩ : Addr).block from this)]; exact h1)
  · exact .inr h1
end Go.Proofs.Ytkdjkkimngeloaa
namespace Go.Proofs.Ytkdjkkimngeloaa
open Go.RowKit
def gt (xs : List Int) (i : Int) : Int := xs.getD i.toNat 0
end Go.Proofs.Ytkdjkkimngeloaa
namespace Go.Proofs.Ytkdjkkimngeloaa
open Go.RowKit
theorem R2 {R : Rel} (hR : Al R) {σa σ σc σa' σc' : Hp} (h : R σa σ) (hs : Hp.Sub σ σc) (hf : Frm σa σc σa' σc') : ∃ σ'', R σa' σ'' ∧ Frm σ σc σ'' σc' := by
  obtain ⟨m, hd, rfl, hk⟩ := hR _ _ h
  have hdj : Hp.dj σa' m := fun b => by
    cases em : m b with
    | none => exact .inr rfl
    | some x =>
      rcases hd b with h1 | h1
      · exact .inl (hf.2 b x h1 (hs _ _ (E0 em))).2
      · rw [em] at h1; cases h1
  refine ⟨_, hk σa' hdj, fun b x hb => ?_, fun b x h1 h2 => ?_⟩
  · cases em : m b with
    | some y =>
      rw [E0 em] at hb
      cases hb
      rcases hd b with h1 | h1
      · exact (hf.2 b _ h1 (hs _ _ (E0 em))).1
      · rw [em] at h1; cases h1
    | none =>
      rw [CF em] at hb
      exact hf.1 _ _ hb
  · obtain ⟨h3, h4⟩ := Ic h1
    obtain ⟨h5, h6⟩ := hf.2 b x h3 h2
    exact ⟨h5, by rw [CF h4]; exact h6⟩
theorem Ag.over {P : Program} {f : FuncId} {args : Array Value} {R : Rel} (hR : Al R) {σa σ : Hp} {Q : Value → Hp → Prop} (hc : Ag P f args σa Q) (h : R σa σ) : Ag P f args σ fun v σ' => ∃ σa', Q v σa' ∧ R σa' σ' :=
  fun σc hs => (hc σc ((hR.sub h).trans hs)).mono fun _ _ ⟨σa', hQ, hf⟩ =>
    let ⟨σ'', h1, h2⟩ := R2 hR h hs hf
    ⟨σ'', ⟨σa', hQ, h1⟩, h2⟩
end Go.Proofs.Ytkdjkkimngeloaa
namespace Go.Proofs.Ytkdjkkimngeloaa
open Go.RowKit
section
variable {α : Type}
end
end Go.Proofs.Ytkdjkkimngeloaa
