/- Pieces of heaps with more beside them; blocks that are read and written. No program in sight. -/
import Derived.Test.YtgcefaikdplbkaaHs1
namespace Go.Proofs.Ytgcefaikdplbkaa
open Go.RowKit

/-- something that is not known lies beside -/
theorem Port.junk {R : Rel} (hR : Port R) {σ1 σ2 σ : Hp} (h : R σ1 σ2) (hs : Hp.Sub σ2 σ) : ∃ σ1', R σ1' σ ∧ Hp.Sub σ1 σ1' := by
  obtain ⟨k, hd, rfl, hk⟩ := hR _ _ h
  have e : Hp.un (fun b => match k b with | some _ => none | none => σ b) k = σ := by
    funext b
    cases ek : k b with
    | some x => rw [un_r ek]; exact (hs _ _ (un_r ek)).symm
    | none => rw [un_l ek]; simp only [ek]
  refine ⟨fun b => match k b with | some _ => none | none => σ b, ?_, fun b x hb => ?_⟩
  · have := hk (fun b => match k b with | some _ => none | none => σ b) (fun b => by
      cases ek : k b with
      | some x => exact .inl (by simp only [ek])
      | none => exact .inr rfl)
    rwa [e] at this
  · rcases hd b with h1 | h1
    · rw [h1] at hb; cases hb
    · simp only [h1]
      exact hs _ _ (by rw [un_l h1]; exact hb)
theorem Port.less {R : Rel} (hR : Port R) {σ2 σ3 σ : Hp} (h : R σ2 σ) (hs : Hp.Sub σ3 σ2) : ∃ σ4, R σ3 σ4 ∧ Hp.Sub σ4 σ := by
  obtain ⟨k, hd, rfl, hk⟩ := hR _ _ h
  refine ⟨_, hk σ3 (fun b => ?_), fun b x hb => ?_⟩
  · rcases hd b with h1 | h1
    · exact .inl (by
        cases e : σ3 b with
        | none => rfl
        | some y => have := hs _ _ e; rw [h1] at this; cases this)
    · exact .inr h1
  · cases ek : k b with
    | some y => rw [un_r ek] at hb ⊢; exact hb
    | none => rw [un_l ek] at hb ⊢; exact hs _ _ hb
/-- R, and perhaps more -/
def Lse (R : Rel) : Rel := fun σ0 σ => ∃ σ1, R σ0 σ1 ∧ Hp.Sub σ1 σ
theorem Lse.of {R : Rel} {σ0 σ : Hp} (h : R σ0 σ) : Lse R σ0 σ := ⟨σ, h, Hp.Sub.refl _⟩
theorem Lse.up {R : Rel} {σ0 σ σ' : Hp} (h : Lse R σ0 σ) (hs : Hp.Sub σ σ') : Lse R σ0 σ' := let ⟨σ1, h1, h2⟩ := h; ⟨σ1, h1, h2.trans hs⟩
theorem Lse.sub {R : Rel} (hR : Port R) {σ0 σ : Hp} (h : Lse R σ0 σ) : Hp.Sub σ0 σ := let ⟨_, h1, h2⟩ := h; (hR.sub h1).trans h2
theorem Lse.exact {R : Rel} (hR : Port R) {σ0 σ : Hp} (h : Lse R σ0 σ) : ∃ σ0', R σ0' σ ∧ Hp.Sub σ0 σ0' := let ⟨_, h1, h2⟩ := h; hR.junk h1 h2
theorem Lse.low {R : Rel} (hR : Port R) {σ0 σ1 σ : Hp} (h : Lse R σ1 σ) (hs : Hp.Sub σ0 σ1) : Lse R σ0 σ := by
  obtain ⟨σ2, h1, h2⟩ := h
  obtain ⟨σ4, h3, h4⟩ := hR.less h1 hs
  exact ⟨σ4, h3, h4.trans h2⟩
theorem Lse.swap {R S : Rel} (hR : Port R) (hS : Port S) {σ σ1 σ2 : Hp} (h : Lse R σ σ1) (h' : Lse S σ1 σ2) : ∃ σ1', Lse S σ σ1' ∧ Lse R σ1' σ2 := by
  obtain ⟨σa, h1, h2⟩ := h
  obtain ⟨σb, h3, h4⟩ := h'
  obtain ⟨σc, h5, h6⟩ := hS.less h3 h2
  obtain ⟨σd, h7, h8⟩ := Port.swap hR hS h1 h5
  exact ⟨σd, Lse.of h7, σc, h8, h6.trans h4⟩
/-- an owned list below R comes on top -/
theorem Lse.own_up {R : Rel} (hR : Port R) {e : TypeId} {ss : List Sh} {σ1 σ2 σ : Hp} {A : Option Addr} {n c : Nat} {xs : List (TyR ss)} (h : OwnSl e ss σ1 A n c xs σ2) (h' : Lse R σ2 σ) : ∃ σ', Lse R σ1 σ' ∧ OwnSl e ss σ' A n c xs σ := by
  have hO : Port (fun σ σ' => OwnSl e ss σ A n c xs σ') := Port.own
  obtain ⟨σ3, h1, h2⟩ := Lse.swap hO hR (Lse.of h) h'
  obtain ⟨σ4, h3, h4⟩ := h2.exact hO
  exact ⟨σ4, h1.up h4, h3⟩
/-- .. goes below -/
theorem Lse.own_down {R : Rel} (hR : Port R) {e : TypeId} {ss : List Sh} {σ1 σ2 σ : Hp} {A : Option Addr} {n c : Nat} {xs : List (TyR ss)} (h : Lse R σ1 σ2) (h' : OwnSl e ss σ2 A n c xs σ) : ∃ σ', OwnSl e ss σ1 A n c xs σ' ∧ Lse R σ' σ := by
  have hO : Port (fun σ σ' => OwnSl e ss σ A n c xs σ') := Port.own
  obtain ⟨σ3, ⟨σ5, h5, h6⟩, h2⟩ := Lse.swap hR hO h (Lse.of h')
  exact ⟨σ5, h5, h2.low hR h6⟩

/-! ### Blocks -/
theorem blk_cell {σ : Hp} {b k : Nat} {c : Array Value} {e : TypeId} {f : Nat × Nat} {rw : Bool} {v : Value} (h : σ b = some (.cells c e f, rw)) (hv : c[k]? = some v) : σ.cell? ⟨b, k, none⟩ = some v := by
  unfold Hp.cell?
  simp only [h]
  exact hv
theorem blk_wr {σ : Hp} {b k : Nat} {c : Array Value} {e : TypeId} (h : σ b = some (.cells c e (0, 0), true)) (hk : k < c.size) : σ.wr ⟨b, k, none⟩ := ⟨c, e, h, hk, rfl⟩
section
variable {σ : Hp} {b k : Nat} {c : Array Value} {e : TypeId} {f : Nat × Nat} {rw : Bool}
theorem bldI {n : Int} {K : Int → Prop} (h : σ b = some (.cells c e f, rw)) (hv : c[k]? = some (.int .i64 n)) (hk : K n) : ldI σ .i64 b k K := ⟨n, blk_cell h hv, hk⟩
theorem bldB {n : Bool} {K : Bool → Prop} (h : σ b = some (.cells c e f, rw)) (hv : c[k]? = some (.bool n)) (hk : K n) : ldB σ b k K := ⟨n, blk_cell h hv, hk⟩
theorem bldP {p : Option Addr} {K : Option Addr → Prop} (h : σ b = some (.cells c e f, rw)) (hv : c[k]? = some (.pointer p)) (hk : K p) : ldP σ b k K := ⟨p, blk_cell h hv, hk⟩
theorem bldS {A : Option Addr} {n m : Nat} {K : Option Addr → Nat → Nat → Prop} (h : σ b = some (.cells c e f, rw)) (hv : c[k]? = some (.slice A n m)) (hk : K A n m) : ldS σ b k K := ⟨A, n, m, blk_cell h hv, hk⟩
end
/-- one block, and a store into it, beside other things -/
theorem Blk.st {b k : Nat} {c : Array Value} {e : TypeId} {σ0 σ1 σ : Hp} (h : Blk b (.cells c e (0, 0)) σ0 σ1) (hs : Hp.Sub σ1 σ) (hk : k < c.size) (v : Value) :
    σ.wr ⟨b, k, none⟩ ∧ Blk b (.cells (c.setIfInBounds k v) e (0, 0)) σ0 (σ1.put ⟨b, k, none⟩ v) ∧ Hp.Sub (σ1.put ⟨b, k, none⟩ v) (σ.put ⟨b, k, none⟩ v) :=
  ⟨blk_wr (hs _ _ h.get) hk, h.put v, sub_put hs h.get v⟩
/-- a store into a block leaves what lies on top of that as it is -/
theorem Port.put {R : Rel} (hR : Port R) {σ1 σ2 : Hp} (h : R σ1 σ2) {b k : Nat} {x : Obj × Bool} (hb : σ1 b = some x) (v : Value) : R (σ1.put ⟨b, k, none⟩ v) (σ2.put ⟨b, k, none⟩ v) := by
  obtain ⟨m, hd, rfl, hk⟩ := hR _ _ h
  have hm : m b = none := by
    rcases hd b with h1 | h1
    · rw [h1] at hb; cases hb
    · exact h1
  have e : Hp.put (Hp.un σ1 m) ⟨b, k, none⟩ v = Hp.un (σ1.put ⟨b, k, none⟩ v) m := by
    funext i
    by_cases hi : i = b
    · subst hi
      unfold Hp.put
      rw [if_pos rfl, un_l hm, un_l hm]
      simp
    · rw [Hp.put_ne (show i ≠ (⟨b, k, none⟩ : Addr).block from hi)]
      cases em : m i with
      | some y => rw [un_r em, un_r em]
      | none => rw [un_l em, un_l em, Hp.put_ne (show i ≠ (⟨b, k, none⟩ : Addr).block from hi)]
  rw [e]
  refine hk _ fun i => ?_
  rcases hd i with h1 | h1
  · have : i ≠ b := fun e => by rw [← e, h1] at hb; cases hb
    exact .inl (by rw [Hp.put_ne (show i ≠ (⟨b, k, none⟩ : Addr).block from this)]; exact h1)
  · exact .inr h1
end Go.Proofs.Ytgcefaikdplbkaa
