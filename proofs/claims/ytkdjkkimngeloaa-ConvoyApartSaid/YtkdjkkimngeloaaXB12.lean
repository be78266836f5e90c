/- Trimmed by wip/trim.py to what this claim rests on. -/
import Derived.Test.YtkdjkkimngeloaaXB11
namespace Go.Proofs.Ytkdjkkimngeloaa
open Go.RowKit
abbrev Rel := Hp → Hp → Prop
def Hp.dj (σ h : Hp) : Prop := ∀ b, σ b = none ∨ h b = none
def Hp.un (σ h : Hp) : Hp := fun b => match h b with
  | some x => some x
  | none => σ b
theorem EQ {σ h : Hp} {b : Nat} {x : Obj × Bool} (e : h b = some x) : Hp.un σ h b = some x := by unfold Hp.un; rw [e]
theorem Cw {σ h : Hp} {b : Nat} (e : h b = none) : Hp.un σ h b = σ b := by unfold Hp.un; rw [e]
theorem GU {σ h : Hp} {b : Nat} (e : Hp.un σ h b = none) : σ b = none ∧ h b = none := by
  cases eh : h b with
  | some x => rw [EQ eh] at e; cases e
  | none => rw [Cw eh] at e; exact ⟨e, rfl⟩
theorem SY {σ h : Hp} (hd : Hp.dj σ h) : Hp.Sub σ (Hp.un σ h) := fun k x e => by
  rcases hd k with h1 | h1
  · rw [e] at h1; cases h1
  · rw [Cw h1]; exact e
theorem R6 {σ h k : Hp} (hd : Hp.dj h k) : Hp.un (Hp.un σ h) k = Hp.un (Hp.un σ k) h := by
  funext b
  rcases hd b with e | e
  · cases ek : k b with
    | some x => rw [EQ ek, Cw e, EQ ek]
    | none => rw [Cw ek, Cw e, Cw e, Cw ek]
  · cases eh : h b with
    | some x => rw [Cw e, EQ eh, EQ eh]
    | none => rw [Cw e, Cw eh, Cw eh, Cw e]
def Ao (R : Rel) : Prop := ∀ σ σ', R σ σ' → ∃ h, Hp.dj σ h ∧ σ' = Hp.un σ h ∧ ∀ τ, Hp.dj τ h → R τ (Hp.un τ h)
theorem Ao.sub {R : Rel} (hR : Ao R) {σ σ' : Hp} (h : R σ σ') : Hp.Sub σ σ' := by
  obtain ⟨k, hd, rfl, _⟩ := hR _ _ h
  exact SY hd
theorem Ao.swap {R S : Rel} (hR : Ao R) (hS : Ao S) {σ σ1 σ2 : Hp} (h : R σ σ1) (h' : S σ1 σ2) : ∃ σ1', S σ σ1' ∧ R σ1' σ2 := by
  obtain ⟨k, hd, rfl, hk⟩ := hR _ _ h
  obtain ⟨m, hd2, rfl, hm⟩ := hS _ _ h'
  have d1 : Hp.dj σ m := fun b => by
    rcases hd2 b with e | e
    · exact .inl (GU e).1
    · exact .inr e
  have d2 : Hp.dj k m := fun b => by
    rcases hd2 b with e | e
    · exact .inl (GU e).2
    · exact .inr e
  have d3 : Hp.dj (Hp.un σ m) k := fun b => by
    rcases hd b with e | e
    · cases em : m b with
      | none => rw [Cw em]; exact .inl e
      | some x =>
        rcases d2 b with e2 | e2
        · exact .inr e2
        · rw [em] at e2; cases e2
    · exact .inr e
  refine ⟨_, hm _ d1, ?_⟩
  rw [R6 d2]
  exact hk _ d3
def Rel.seq (R S : Rel) : Rel := fun σ σ' => ∃ σ1, R σ σ1 ∧ S σ1 σ'
theorem Ao.seq {R S : Rel} (hR : Ao R) (hS : Ao S) : Ao (R.seq S) := by
  rintro σ σ' ⟨σ1, h, h'⟩
  obtain ⟨k, hd, rfl, hk⟩ := hR _ _ h
  obtain ⟨m, hd2, rfl, hm⟩ := hS _ _ h'
  have e : ∀ τ : Hp, Hp.un (Hp.un τ k) m = Hp.un τ (Hp.un k m) := fun τ => by
    funext b
    cases em : m b with
    | some x => rw [EQ em, EQ (EQ em)]
    | none =>
      rw [Cw em]
      cases ek : k b with
      | some x => rw [EQ ek, EQ (show Hp.un k m b = some x by rw [Cw em, ek])]
      | none => rw [Cw ek, Cw (show Hp.un k m b = none by rw [Cw em, ek])]
  refine ⟨Hp.un k m, fun b => ?_, e σ, fun τ ht => ?_⟩
  · rcases hd b with e1 | e1
    · exact .inl e1
    · rcases hd2 b with e2 | e2
      · exact .inl (GU e2).1
      · exact .inr (by rw [Cw e2, e1])
  · refine ⟨Hp.un τ k, hk τ fun b => (ht b).imp id fun e1 => (GU e1).1, ?_⟩
    rw [← e]
    refine hm _ fun b => ?_
    cases em : m b with
    | none => exact .inr rfl
    | some x =>
      rcases ht b with e1 | e1
      · rcases hd2 b with e2 | e2
        · exact .inl (by rw [Cw (GU e2).2]; exact e1)
        · rw [em] at e2; cases e2
      · rw [EQ em] at e1; cases e1
theorem Ao.ex {α : Type} {R : α → Rel} (h : ∀ a, Ao (R a)) : Ao fun σ σ' => ∃ a, R a σ σ' := by
  rintro σ σ' ⟨a, ha⟩
  obtain ⟨k, h1, h2, h3⟩ := h a _ _ ha
  exact ⟨k, h1, h2, fun τ ht => ⟨a, h3 τ ht⟩⟩
def Nil : Rel := fun σ σ' => σ' = σ
theorem Ao.nil : Ao Nil := by
  rintro σ σ' rfl
  refine ⟨fun _ => none, fun b => .inr rfl, ?_, fun τ _ => ?_⟩
  · funext b; rfl
  · show Hp.un τ _ = τ
    funext b; rfl
def Blk (b : Nat) (o : Obj) : Rel := fun σ σ' => σ b = none ∧ σ' = σ.ins b o
theorem Ao.blk {b : Nat} {o : Obj} : Ao (Blk b o) := by
  rintro σ σ' ⟨hb, rfl⟩
  have e : ∀ τ : Hp, τ.ins b o = Hp.un τ (Hp.ins (fun _ => none) b o) := fun τ => by
    funext k
    by_cases hk : k = b
    · subst hk; rw [EQ (Hp.ins_same ..), Hp.ins_same]
    · rw [Cw (by rw [Hp.ins_ne _ hk]), Hp.ins_ne _ hk]
  refine ⟨Hp.ins (fun _ => none) b o, fun k => ?_, e σ, fun τ ht => ⟨?_, (e τ).symm⟩⟩
  · by_cases hk : k = b
    · subst hk; exact .inl hb
    · exact .inr (by rw [Hp.ins_ne _ hk])
  · rcases ht b with h | h
    · exact h
    · rw [Hp.ins_same] at h; cases h
theorem Blk.get {b : Nat} {o : Obj} {σ σ' : Hp} (h : Blk b o σ σ') : σ' b = some (o, true) := by
  obtain ⟨_, rfl⟩ := h
  exact Hp.ins_same ..
theorem Blk.put {b i : Nat} {c : Array Value} {e : TypeId} {f : Nat × Nat} {σ σ' : Hp} (h : Blk b (.cells c e f) σ σ') (v : Value) : Blk b (.cells (c.setIfInBounds i v) e f) σ (σ'.put ⟨b, i, none⟩ v) := by
  obtain ⟨hb, rfl⟩ := h
  refine ⟨hb, ?_⟩
  funext k
  by_cases hk : k = b
  · subst hk
    rw [Hp.put_same (Hp.ins_same ..), Hp.ins_same]
  · rw [Hp.put_ne (show k ≠ (⟨b, i, none⟩ : Addr).block from hk), Hp.ins_ne _ hk, Hp.ins_ne _ hk]
theorem Ao.own {e : TypeId} {ss : List Sh} {A : Option Addr} {n c : Nat} {xs : List (TyR ss)} : Ao fun σ σ' => Ap e ss σ A n c xs σ' := by
  rintro σ σ' (⟨h1, h2, h3, h4, rfl⟩ | ⟨b, off, cells, hA, hn, hnc, hb, rfl, hs, hr⟩)
  · obtain ⟨k, q1, q2, q3⟩ := Ao.nil _ _ (rfl : Nil σ' σ')
    exact ⟨k, q1, q2, fun τ ht => .inl ⟨h1, h2, h3, h4, q3 τ ht⟩⟩
  · obtain ⟨k, q1, q2, q3⟩ := Ao.blk (b := b) (o := .cells cells e (0, 0)) _ _ ⟨hb, rfl⟩
    exact ⟨k, q1, q2, fun τ ht => .inr ⟨b, off, cells, hA, hn, hnc, (q3 τ ht).1, (q3 τ ht).2, hs, hr⟩⟩
theorem RF {σ τ : Hp} (hs : Hp.Sub σ τ) {b i : Nat} {x : Obj × Bool} (hb : σ b = some x) (v : Value) : Hp.Sub (σ.put ⟨b, i, none⟩ v) (τ.put ⟨b, i, none⟩ v) := by
  intro k y hk
  by_cases e : k = b
  · subst e
    have e1 := hs _ _ hb
    unfold Hp.put at hk ⊢
    rw [if_pos rfl] at hk ⊢
    rw [hb] at hk
    rw [e1]
    exact hk
  · rw [Hp.put_ne (show k ≠ (⟨b, i, none⟩ : Addr).block from e)] at hk ⊢
    exact hs _ _ hk
def Du : List Rel → Rel
  | [] => Nil
  | R :: rs => (Du rs).seq R
theorem Ao.star : ∀ {rs : List Rel}, (∀ R ∈ rs, Ao R) → Ao (Du rs)
  | [], _ => Ao.nil
  | _ :: _, h => (Ao.star fun R hR => h R (List.mem_cons_of_mem _ hR)).seq (h _ (List.mem_cons_self ..))
theorem Ku : ∀ {rs : List Rel} {σ σ' : Hp} {k : Nat}, (∀ R ∈ rs, Ao R) → (hk : k < rs.length) → Du rs σ σ' → ∃ σ1, Du (rs.eraseIdx k) σ σ1 ∧ rs[k] σ1 σ'
  | R :: rs, σ, σ', 0, _, _, ⟨σ1, h1, h2⟩ => ⟨σ1, h1, h2⟩
  | R :: rs, σ, σ', k + 1, hp, hk, ⟨σ1, h1, h2⟩ => by
    obtain ⟨σ2, q1, q2⟩ := Ku (fun R hR => hp R (List.mem_cons_of_mem _ hR)) (by simpa using hk) h1
    obtain ⟨σ3, r1, r2⟩ := Ao.swap (hp _ (List.mem_cons_of_mem _ (List.getElem_mem _))) (hp R (List.mem_cons_self ..)) q2 h2
    exact ⟨σ3, ⟨σ2, q1, r1⟩, r2⟩
theorem Mu : ∀ {rs : List Rel} {σ σ1 σ' : Hp} {k : Nat} {R' : Rel}, (∀ R ∈ rs, Ao R) → Ao R' → k < rs.length → Du (rs.eraseIdx k) σ σ1 → R' σ1 σ' → Du (rs.set k R') σ σ'
  | R :: rs, σ, σ1, σ', 0, R', _, _, _, h, h' => ⟨σ1, h, h'⟩
  | R :: rs, σ, σ1, σ', k + 1, R', hp, hp', hk, ⟨σ2, h1, h2⟩, h' => by
    obtain ⟨σ3, r1, r2⟩ := Ao.swap (hp R (List.mem_cons_self ..)) hp' h2 h'
    exact ⟨σ3, Mu (fun R hR => hp R (List.mem_cons_of_mem _ hR)) hp' (by simpa using hk) h1 r1, r2⟩
theorem JJ : ∀ {rs ss : List Rel} {σ σ' : Hp}, Du (rs ++ ss) σ σ' ↔ ∃ σ1, Du ss σ σ1 ∧ Du rs σ1 σ'
  | [], ss, σ, σ' => ⟨fun h => ⟨σ', h, rfl⟩, fun ⟨σ1, h, e⟩ => by (have e : σ' = σ1 := e); subst e; exact h⟩
  | R :: rs, ss, σ, σ' => by
    constructor
    · rintro ⟨σ2, h1, h2⟩
      obtain ⟨σ1, q1, q2⟩ := JJ.1 h1
      exact ⟨σ1, q1, σ2, q2, h2⟩
    · rintro ⟨σ1, q1, σ2, q2, h2⟩
      exact ⟨σ2, JJ.2 ⟨σ1, q1, q2⟩, h2⟩
theorem PG {rs : List Rel} {R : Rel} {σ σ1 σ' : Hp} (hp : ∀ R ∈ rs, Ao R) (hR : Ao R) (h : Du rs σ σ1) (h' : R σ1 σ') : Du (rs ++ [R]) σ σ' := by
  obtain ⟨σ2, q1, q2⟩ := Ao.swap (Ao.star hp) hR h h'
  exact JJ.2 ⟨σ2, ⟨σ, rfl, q1⟩, q2⟩
end Go.Proofs.Ytkdjkkimngeloaa
namespace Go.Proofs.Ytkdjkkimngeloaa
open Go.RowKit
theorem Ao.less {R : Rel} (hR : Ao R) {σ2 σ3 σ : Hp} (h : R σ2 σ) (hs : Hp.Sub σ3 σ2) : ∃ σ4, R σ3 σ4 ∧ Hp.Sub σ4 σ := by
  obtain ⟨k, hd, rfl, hk⟩ := hR _ _ h
  refine ⟨_, hk σ3 (fun b => ?_), fun b x hb => ?_⟩
  · rcases hd b with h1 | h1
    · exact .inl (by
        cases e : σ3 b with
        | none => rfl
        | some y => have := hs _ _ e; rw [h1] at this; cases this)
    · exact .inr h1
  · cases ek : k b with
    | some y => rw [EQ ek] at hb ⊢; exact hb
    | none => rw [Cw ek] at hb ⊢; exact hs _ _ hb
theorem AV {σ : Hp} {b k : Nat} {c : Array Value} {e : TypeId} {f : Nat × Nat} {rw : Bool} {v : Value} (h : σ b = some (.cells c e f, rw)) (hv : c[k]? = some v) : σ.cell? ⟨b, k, none⟩ = some v := by
  unfold Hp.cell?
  simp only [h]
  exact hv
theorem QL {σ : Hp} {b k : Nat} {c : Array Value} {e : TypeId} (h : σ b = some (.cells c e (0, 0), true)) (hk : k < c.size) : σ.wr ⟨b, k, none⟩ := ⟨c, e, h, hk, rfl⟩
section
variable {σ : Hp} {b k : Nat} {c : Array Value} {e : TypeId} {f : Nat × Nat} {rw : Bool}
theorem Bq {n : Int} {K : Int → Prop} (h : σ b = some (.cells c e f, rw)) (hv : c[k]? = some (.int .i64 n)) (hk : K n) : ldI σ .i64 b k K := ⟨n, AV h hv, hk⟩
theorem DK {A : Option Addr} {n m : Nat} {K : Option Addr → Nat → Nat → Prop} (h : σ b = some (.cells c e f, rw)) (hv : c[k]? = some (.slice A n m)) (hk : K A n m) : ldS σ b k K := ⟨A, n, m, AV h hv, hk⟩
end
theorem Blk.st {b k : Nat} {c : Array Value} {e : TypeId} {σ0 σ1 σ : Hp} (h : Blk b (.cells c e (0, 0)) σ0 σ1) (hs : Hp.Sub σ1 σ) (hk : k < c.size) (v : Value) :
    σ.wr ⟨b, k, none⟩ ∧ Blk b (.cells (c.setIfInBounds k v) e (0, 0)) σ0 (σ1.put ⟨b, k, none⟩ v) ∧ Hp.Sub (σ1.put ⟨b, k, none⟩ v) (σ.put ⟨b, k, none⟩ v) :=
  ⟨QL (hs _ _ h.get) hk, h.put v, RF hs h.get v⟩
theorem Ao.put {R : Rel} (hR : Ao R) {σ1 σ2 : Hp} (h : R σ1 σ2) {b k : Nat} {x : Obj × Bool} (hb : σ1 b = some x) (v : Value) : R (σ1.put ⟨b, k, none⟩ v) (σ2.put ⟨b, k, none⟩ v) := by
  obtain ⟨m, hd, rfl, hk⟩ := hR _ _ h
  have hm : m b = none := by
    rcases hd b with h1 | h1
    · rw [h1] at hb; cases hb
    · exact h1
  have e : Hp.put (Hp.un σ1 m) ⟨b, k, none⟩ v = Hp.un (σ1.put ⟨b, k, none⟩ v) m := by
    funext i
    by_cases hi : i = b
    · subst hi
      unfold Hp.put
      rw [if_pos rfl, Cw hm, Cw hm]
      simp
    · rw [Hp.put_ne (show i ≠ (⟨b, k, none⟩ : Addr).block from hi)]
      cases em : m i with
      | some y => rw [EQ em, EQ em]
      | none => rw [Cw em, Cw em, Hp.put_ne (show i ≠ (⟨b, k, none⟩ : Addr).block from hi)]
  rw [e]
  refine hk _ fun i => ?_
  rcases hd i with h1 | h1
  · have : i ≠ b := fun e => by rw [← e, h1] at hb; cases hb
    exact .inl (by rw [Hp.put_ne (show i ≠ (⟨b, k, none⟩ : Addr).block from this)]; exact h1)
  · exact .inr h1
end Go.Proofs.Ytkdjkkimngeloaa
namespace Go.Proofs.Ytkdjkkimngeloaa
open Go.RowKit
def gt (xs : List Int) (i : Int) : Int := xs.getD i.toNat 0
end Go.Proofs.Ytkdjkkimngeloaa
namespace Go.Proofs.Ytkdjkkimngeloaa
open Go.RowKit
theorem PL {R : Rel} (hR : Ao R) {σa σ σc σa' σc' : Hp} (h : R σa σ) (hs : Hp.Sub σ σc) (hf : Frm σa σc σa' σc') : ∃ σ'', R σa' σ'' ∧ Frm σ σc σ'' σc' := by
  obtain ⟨m, hd, rfl, hk⟩ := hR _ _ h
  have hdj : Hp.dj σa' m := fun b => by
    cases em : m b with
    | none => exact .inr rfl
    | some x =>
      rcases hd b with h1 | h1
      · exact .inl (hf.2 b x h1 (hs _ _ (EQ em))).2
      · rw [em] at h1; cases h1
  refine ⟨_, hk σa' hdj, fun b x hb => ?_, fun b x h1 h2 => ?_⟩
  · cases em : m b with
    | some y =>
      rw [EQ em] at hb
      cases hb
      rcases hd b with h1 | h1
      · exact (hf.2 b _ h1 (hs _ _ (EQ em))).1
      · rw [em] at h1; cases h1
    | none =>
      rw [Cw em] at hb
      exact hf.1 _ _ hb
  · obtain ⟨h3, h4⟩ := GU h1
    obtain ⟨h5, h6⟩ := hf.2 b x h3 h2
    exact ⟨h5, by rw [Cw h4]; exact h6⟩
theorem Af.over {P : Program} {f : FuncId} {args : Array Value} {R : Rel} (hR : Ao R) {σa σ : Hp} {Q : Value → Hp → Prop} (hc : Af P f args σa Q) (h : R σa σ) : Af P f args σ fun v σ' => ∃ σa', Q v σa' ∧ R σa' σ' :=
  fun σc hs => (hc σc ((hR.sub h).trans hs)).mono fun _ _ ⟨σa', hQ, hf⟩ =>
    let ⟨σ'', h1, h2⟩ := PL hR h hs hf
    ⟨σ'', ⟨σa', hQ, h1⟩, h2⟩
end Go.Proofs.Ytkdjkkimngeloaa
namespace Go.Proofs.Ytkdjkkimngeloaa
open Go.RowKit
section
variable {α : Type}
end
end Go.Proofs.Ytkdjkkimngeloaa
