/- Calls beside pieces of heaps; clear. No program in sight. -/
import Derived.Test.YtgcefaikdplbkaaHs0
namespace Go.Proofs.Ytgcefaikdplbkaa
open Go.RowKit

/-- what lies beside stays beside -/
theorem over_core {R : Rel} (hR : Port R) {σa σ σc σa' σc' : Hp} (h : R σa σ) (hs : Hp.Sub σ σc) (hf : Frm σa σc σa' σc') : ∃ σ'', R σa' σ'' ∧ Frm σ σc σ'' σc' := by
  obtain ⟨m, hd, rfl, hk⟩ := hR _ _ h
  have hdj : Hp.dj σa' m := fun b => by
    cases em : m b with
    | none => exact .inr rfl
    | some x =>
      rcases hd b with h1 | h1
      · exact .inl (hf.2 b x h1 (hs _ _ (un_r em))).2
      · rw [em] at h1; cases h1
  refine ⟨_, hk σa' hdj, fun b x hb => ?_, fun b x h1 h2 => ?_⟩
  · cases em : m b with
    | some y =>
      rw [un_r em] at hb
      cases hb
      rcases hd b with h1 | h1
      · exact (hf.2 b _ h1 (hs _ _ (un_r em))).1
      · rw [em] at h1; cases h1
    | none =>
      rw [un_l em] at hb
      exact hf.1 _ _ hb
  · obtain ⟨h3, h4⟩ := un_none h1
    obtain ⟨h5, h6⟩ := hf.2 b x h3 h2
    exact ⟨h5, by rw [un_l h4]; exact h6⟩
theorem FCalls.over {P : Program} {f : FuncId} {args : Array Value} {R : Rel} (hR : Port R) {σa σ : Hp} {Q : Value → Hp → Prop} (hc : FCalls P f args σa Q) (h : R σa σ) : FCalls P f args σ fun v σ' => ∃ σa', Q v σa' ∧ R σa' σ' :=
  fun σc hs => (hc σc ((hR.sub h).trans hs)).mono fun _ _ ⟨σa', hQ, hf⟩ =>
    let ⟨σ'', h1, h2⟩ := over_core hR h hs hf
    ⟨σ'', ⟨σa', hQ, h1⟩, h2⟩
theorem cl.over {P : Program} {f : Value} {args : Array Value} {R : Rel} (hR : Port R) {σa σ : Hp} {Q : Value → Hp → Prop} (hc : cl P f args σa Q) (h : R σa σ) : cl P f args σ fun v σ' => ∃ σa', Q v σa' ∧ R σa' σ' :=
  fun σc hs => (hc σc ((hR.sub h).trans hs)).mono fun _ _ ⟨σa', hQ, hf⟩ =>
    let ⟨σ'', h1, h2⟩ := over_core hR h hs hf
    ⟨σ'', ⟨σa', hQ, h1⟩, h2⟩
/-- .. an owned list -/
theorem cl.own {P : Program} {f : Value} {args : Array Value} {e : TypeId} {ss : List Sh} {σa σ : Hp} {A : Option Addr} {n c : Nat} {xs : List (TyR ss)} {Q K : Value → Hp → Prop} (hc : cl P f args σa Q) (h : OwnSl e ss σa A n c xs σ) (hk : ∀ v σa' σ', Q v σa' → OwnSl e ss σa' A n c xs σ' → K v σ') : cl P f args σ K :=
  FFun.mono (cl.over (R := fun σ σ' => OwnSl e ss σ A n c xs σ') Port.own hc h) fun v σ' ⟨σa', h1, h2⟩ => hk v σa' σ' h1 h2
theorem FCalls.own {P : Program} {f : FuncId} {args : Array Value} {e : TypeId} {ss : List Sh} {σa σ : Hp} {A : Option Addr} {n c : Nat} {xs : List (TyR ss)} {Q : Value → Hp → Prop} (hc : FCalls P f args σa Q) (h : OwnSl e ss σa A n c xs σ) : FCalls P f args σ fun v σ' => ∃ σa', Q v σa' ∧ OwnSl e ss σa' A n c xs σ' :=
  FCalls.over (R := fun σ σ' => OwnSl e ss σ A n c xs σ') Port.own hc h

/-! ### clear -/
def clrOK (P : Program) (t e : TypeId) (w : Nat) : Bool := match P.underlying t with
  | some (.slice e') => Nat.beq e' e && match P.info? e with
    | some ie => match ie.zero with
      | some z => Nat.beq z.cells.size w && z.cells.toList.all oneC
      | none => false
    | none => false
  | _ => false
theorem clrOK_of {P : Program} {t e : TypeId} {w : Nat} (h : clrOK P t e w = true) : P.underlying t = some (.slice e) ∧ ∃ ie z, P.info? e = some ie ∧ ie.zero = some z ∧ z.cells.size = w ∧ ∀ v ∈ z.cells.toList, oneC v = true := by
  unfold clrOK at h
  split at h
  · rename_i e' he
    simp only [Bool.and_eq_true] at h
    have := Nat.eq_of_beq_eq_true h.1
    subst this
    split at h
    · rename_i ie hie
      split at h
      · rename_i z hz
        simp only [Bool.and_eq_true] at h
        exact ⟨he, ie, z, hie, hz, Nat.eq_of_beq_eq_true h.2.1, fun v hv => List.all_eq_true.1 h.2.2 v hv⟩
      · simp at h
    · simp at h
  · cases h
/-- an owned slice is cleared from element k on: its first k elements are left -/
theorem clr_own {P : Program} {t ty e : TypeId} {ss : List Sh} {σ σ' : Hp} {A base : Option Addr} {n c k dc : Nat} {xs : List (TyR ss)} {K : Hp → Prop} (hok : clrOK P t e ss.length = true) (hw : 0 < ss.length)
    (h : OwnSl e ss σ A n c xs σ') (hk : k ≤ n) (hb : ∀ b off, A = some ⟨b, off, none⟩ → k < n → base = some ⟨b, off + k * ss.length, none⟩)
    (hK : ∀ σ2, OwnSl e ss σ A k c (xs.take k) σ2 → K σ2) : clr P #[t] ty #[.slice base (n - k) dc] σ' K := by
  obtain ⟨hund, ie, z, hie, hz, hzs, hone⟩ := clrOK_of hok
  unfold clr Builtin.clear_
  simp only [List.getElem?_toArray, List.getElem?_cons_zero]
  refine swp_und hund ?_
  rcases h with ⟨rfl, rfl, rfl, rfl, rfl⟩ | ⟨b, off, cells, hA, hn, hnc, hb', rfl, hsz, hr⟩
  · have e1 : (0 : Nat) - k = 0 := by omega
    rw [e1]
    have : k = 0 := by omega
    subst this
    have h3 := hK _ (.inl ⟨rfl, rfl, rfl, by simp, rfl⟩)
    cases base with
    | none => exact ⟨rfl, h3⟩
    | some a => exact ⟨rfl, h3⟩
  · rcases Nat.eq_zero_or_pos (n - k) with e1 | e1
    · rw [e1]
      have : k = n := by omega
      subst this
      have h3 := hK _ (.inr ⟨b, off, cells, hA, by rw [List.length_take]; omega, hnc, hb', rfl, hsz, hr.take _⟩)
      cases base with
      | none => exact ⟨rfl, h3⟩
      | some a => exact ⟨rfl, h3⟩
    · have e0 := hb b off hA (by omega)
      subst e0
      obtain ⟨q, eq⟩ : ∃ q, n - k = q + 1 := ⟨n - k - 1, by omega⟩
      rw [eq]
      refine swp_zero hie hz ?_
      refine swp_bind _ _ _ _ ?_
      refine swp_storeCells _ 0 _ ?_
      have hzl : (Builtin.zeroCells z.cells (q + 1)).toList.length = (q + 1) * ss.length := by simp [Builtin.zeroCells, hzs]
      have hm : k * ss.length + (q + 1) * ss.length = n * ss.length := by rw [← Nat.add_mul]; congr 1; omega
      have hm2 : n * ss.length ≤ c * ss.length := Nat.mul_le_mul_right _ hnc
      refine stc_blk _ 0 cells _ (Hp.ins_same ..) (fun v hv => ?_) (by rw [hzl]; omega) ?_
      · obtain ⟨i, hi, rfl⟩ := List.getElem_of_mem hv
        have : i % ss.length < z.cells.size := by rw [hzs]; exact Nat.mod_lt _ hw
        simp only [Builtin.zeroCells, Array.toList_map, List.getElem_map, Array.getElem_toList, Array.getElem_range, hzs]
        rw [getElem!_pos z.cells _ this]
        exact hone _ (by simp)
      · intro c' σ3 h1 h2 h3 h4 h5 h6
        refine ⟨rfl, hK _ ?_⟩
        have e3 : σ3 = σ.ins b (.cells c' e (0, 0)) := by
          funext x
          by_cases hx : x = b
          · subst hx; rw [h5, Hp.ins_same]
          · rw [h6 x hx, Hp.ins_ne _ hx, Hp.ins_ne _ hx]
        refine .inr ⟨b, off, c', hA, by rw [List.length_take]; omega, by omega, hb', e3, by omega, ?_⟩
        intro i j hi hj
        have hi' : i < k := by rw [List.length_take] at hi; omega
        have := idx_lt (n := k) hi' hj
        rw [h2 _ (by omega)]
        exact hr.take k i j hi hj
end Go.Proofs.Ytgcefaikdplbkaa
