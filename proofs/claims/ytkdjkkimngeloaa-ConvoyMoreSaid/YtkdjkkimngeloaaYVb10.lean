/- Trimmed by wip/trim.py to what this claim rests on. -/
import Derived.Test.YtkdjkkimngeloaaYVb9
namespace Go.Proofs.Ytkdjkkimngeloaa
open Go.RowKit
theorem Blk.upd {b : Nat} {o o' : Obj} {σ σ' : Hp} (h : Blk b o σ σ') : Blk b o' σ (σ'.ins b o') := by
  obtain ⟨h1, rfl⟩ := h
  refine ⟨h1, ?_⟩
  funext k
  by_cases hk : k = b
  · subst hk; rw [Hp.ins_same, Hp.ins_same]
  · rw [Hp.ins_ne _ hk, Hp.ins_ne _ hk, Hp.ins_ne _ hk]
theorem Am.upd {R : Rel} (hR : Am R) {σ1 σ2 : Hp} (h : R σ1 σ2) {b : Nat} {x : Obj × Bool} (hb : σ1 b = some x) (o : Obj) : R (σ1.ins b o) (σ2.ins b o) := by
  obtain ⟨m, hd, rfl, hk⟩ := hR _ _ h
  have hm : m b = none := by
    rcases hd b with h1 | h1
    · rw [h1] at hb; cases hb
    · exact h1
  have e : Hp.ins (Hp.un σ1 m) b o = Hp.un (σ1.ins b o) m := by
    funext i
    by_cases hi : i = b
    · subst hi
      rw [Hp.ins_same, B5 hm, Hp.ins_same]
    · rw [Hp.ins_ne _ hi]
      cases em : m i with
      | some y => rw [Eh em, Eh em]
      | none => rw [B5 em, B5 em, Hp.ins_ne _ hi]
  rw [e]
  refine hk _ fun i => ?_
  by_cases hi : i = b
  · subst hi; exact .inr hm
  · rcases hd i with h1 | h1
    · exact .inl (by rw [Hp.ins_ne _ hi]; exact h1)
    · exact .inr h1
abbrev GU (n : Int) : Value := .int .i64 n
structure RSt (b1 b4 b8 : Nat) (out : List (Plc × Cst)) (D : List (Plc × Int)) (xs : List Stp) (σ τ : Hp) : Prop where
  ex : ∃ s1 s2, Blk b1 (mpo AG out) σ s1 ∧ Blk b4 (mpo GU D) s1 s2 ∧ Stk b8 xs s2 τ
section
variable {b1 b4 b8 : Nat} {out : List (Plc × Cst)} {D : List (Plc × Int)} {xs : List Stp} {σ τ τ' : Hp} {U : Rel}
def RU (b1 b4 b8 : Nat) (out : List (Plc × Cst)) (D : List (Plc × Int)) (xs : List Stp) (U : Rel) : Rel := fun σ τ => ∃ s, RSt b1 b4 b8 out D xs σ s ∧ U s τ
theorem RU.sub (hU : Am U) (h : RU b1 b4 b8 out D xs U σ τ) : Hp.Sub σ τ := by
  obtain ⟨s, ⟨s1, s2, h1, h2, h3⟩, h4⟩ := h
  exact h1.sub.trans (h2.sub.trans ((Am.stk.sub h3).trans (hU.sub h4)))
theorem RU.g1 (hU : Am U) (h : RU b1 b4 b8 out D xs U σ τ) : τ b1 = some (mpo AG out, true) := by
  obtain ⟨s, ⟨s1, s2, h1, h2, h3⟩, h4⟩ := h
  exact hU.sub h4 _ _ (Am.stk.sub h3 _ _ (h2.sub _ _ h1.get))
theorem RU.g4 (hU : Am U) (h : RU b1 b4 b8 out D xs U σ τ) : τ b4 = some (mpo GU D, true) := by
  obtain ⟨s, ⟨s1, s2, h1, h2, h3⟩, h4⟩ := h
  exact hU.sub h4 _ _ (Am.stk.sub h3 _ _ h2.get)
theorem RU.set1 (hU : Am U) (h : RU b1 b4 b8 out D xs U σ τ) (out' : List (Plc × Cst)) : RU b1 b4 b8 out' D xs U σ (τ.ins b1 (mpo AG out')) := by
  obtain ⟨s, ⟨s1, s2, h1, h2, h3⟩, h4⟩ := h
  have g2 := Am.blk.upd h2 h1.get (mpo AG out')
  have g3 := Am.stk.upd h3 (h2.sub _ _ h1.get) (mpo AG out')
  have g4 := hU.upd h4 (Am.stk.sub h3 _ _ (h2.sub _ _ h1.get)) (mpo AG out')
  exact ⟨_, ⟨_, _, h1.upd, g2, g3⟩, g4⟩
theorem RU.set4 (hU : Am U) (h : RU b1 b4 b8 out D xs U σ τ) (D' : List (Plc × Int)) : RU b1 b4 b8 out D' xs U σ (τ.ins b4 (mpo GU D')) := by
  obtain ⟨s, ⟨s1, s2, h1, h2, h3⟩, h4⟩ := h
  have g3 := Am.stk.upd h3 h2.get (mpo GU D')
  have g4 := hU.upd h4 (Am.stk.sub h3 _ _ h2.get) (mpo GU D')
  exact ⟨_, ⟨_, _, h1, h2.upd, g3⟩, g4⟩
theorem RU.call {P : Program} {f : FuncId} {args : Array Value} {Q : Value → List Stp → Prop} (hU : Am U) (h : RU b1 b4 b8 out D xs U σ τ) (hc : ∀ s2 s, Stk b8 xs s2 s → Ad P f args s fun v s' => ∃ ys, Q v ys ∧ Stk b8 ys s2 s') : Ad P f args τ fun v τ' => ∃ ys, Q v ys ∧ RU b1 b4 b8 out D ys U σ τ' := by
  obtain ⟨s, ⟨s1, s2, h1, h2, h3⟩, h4⟩ := h
  refine Ad.mono (Ad.over hU (hc _ _ h3) h4) fun v τ' h5 => ?_
  obtain ⟨s', ⟨ys, q, h6⟩, h7⟩ := h5
  exact ⟨ys, q, s', ⟨s1, s2, h1, h2, h6⟩, h7⟩
theorem RU.top {V : Rel} (h : RU b1 b4 b8 out D xs U σ τ) (hv : V τ τ') : RU b1 b4 b8 out D xs (U.seq V) σ τ' := by
  obtain ⟨s, h1, h2⟩ := h
  exact ⟨s, h1, τ, h2, hv⟩
theorem RU.untop {V : Rel} (h : RU b1 b4 b8 out D xs (U.seq V) σ τ) : ∃ τ0, RU b1 b4 b8 out D xs U σ τ0 ∧ V τ0 τ := by
  obtain ⟨s, h1, t, h2, h3⟩ := h
  exact ⟨t, ⟨s, h1, h2⟩, h3⟩
set_option maxRecDepth 100000 in
theorem RU.len {K : Value → Hp → Prop} (hU : Am U) (h : RU b1 b4 b8 out D xs U σ τ) (hk : K (.int .i64 xs.length) τ) : ivk Try.prog (hv b8) "Len" #[] τ K := by
  obtain ⟨s, ⟨s1, s2, h1, h2, h3⟩, h4⟩ := h
  obtain ⟨A, n, c, s3, ho, hb⟩ := h3
  have hn : n = xs.length := ho.len
  refine NL (MU (AI (hU.sub h4 _ _ hb.get) rfl)) B1 ?_
  refine Ad.mono (HJ (A := A) (n := n) (c := c)) fun v σ2 h => ?_
  obtain ⟨rfl, rfl⟩ := h
  rw [hn]
  exact hk
end
def Mw : Option TypeDesc → Bool
  | some (.int .i64) => true
  | _ => false
theorem KR {d : Option TypeDesc} (h : Mw d = true) : d = some (.int .i64) := by
  unfold Mw at h
  split at h
  · rfl
  · cases h
def P7 (P : Program) (t kt et : TypeId) : Bool := match P.underlying t, P.underlying kt with
  | some (.map a b), some (.struct ⟨[f1, f2]⟩) => Nat.beq a kt && Nat.beq b et && !P.stoodInHeld kt && !(f1.name == "_") && !(f2.name == "_") && Nat.beq f1.offset 0 && Nat.beq f2.offset 1 && Mw (P.underlying f1.type) && Mw (P.underlying f2.type)
  | _, _ => false
theorem M2 {P : Program} {t kt et : TypeId} (h : P7 P t kt et = true) : ∃ f1 f2, I1 P t kt et f1 f2 := by
  unfold P7 at h
  split at h
  · rename_i a b f1 f2 h1 h2
    simp only [Bool.and_eq_true, Bool.not_eq_true'] at h
    obtain ⟨⟨⟨⟨⟨⟨⟨⟨g1, g2⟩, g3⟩, g4⟩, g5⟩, g6⟩, g7⟩, g8⟩, g9⟩ := h
    have g1 := Nat.eq_of_beq_eq_true g1
    have g2 := Nat.eq_of_beq_eq_true g2
    subst g1 g2
    exact ⟨f1, f2, h1, h2, g3, by simpa using g4, by simpa using g5, Nat.eq_of_beq_eq_true g6, Nat.eq_of_beq_eq_true g7, KR g8, KR g9⟩
  · cases h
theorem N5 : ∃ f1 f2, I1 Try.prog 128 132 98 f1 f2 := M2 (by kernel_rfl)
theorem Q5 : ∃ f1 f2, I1 Try.prog 153 132 3 f1 f2 := M2 (by kernel_rfl)
theorem Q9 : ∃ i, Try.prog.info? 98 = some i ∧ i.zero = some (AG (0, 0)) := by
  have h : (Try.prog.info? 98).map (·.zero) = some (some (AG (0, 0))) := by kernel_rfl
  obtain ⟨i, h1, h2⟩ := Option.map_eq_some_iff.1 h
  exact ⟨i, h1, h2⟩
theorem Ri : ∃ i, Try.prog.info? 3 = some i ∧ i.zero = some (GU 0) := by
  have h : (Try.prog.info? 3).map (·.zero) = some (some (GU 0)) := by kernel_rfl
  obtain ⟨i, h1, h2⟩ := Option.map_eq_some_iff.1 h
  exact ⟨i, h1, h2⟩
section
variable {σ : Hp}
set_option maxRecDepth 100000 in
theorem upC {b : Nat} {p : Plc} {c : Cst} {E : List (Plc × Cst)} {K : Hp → Prop} (hb : σ b = some (mpo AG E, true)) (h : K (σ.ins b (mpo AG (upA E p c)))) : upm Try.prog 128 (.map (some b)) (Bm p) (AG c) σ K := by
  obtain ⟨f1, f2, hk⟩ := N5
  exact OU hk hb h
set_option maxRecDepth 100000 in
theorem upN {b : Nat} {p : Plc} {c : Int} {E : List (Plc × Int)} {K : Hp → Prop} (hb : σ b = some (mpo GU E, true)) (h : K (σ.ins b (mpo GU (upA E p c)))) : upm Try.prog 153 (.map (some b)) (Bm p) (GU c) σ K := by
  obtain ⟨f1, f2, hk⟩ := Q5
  exact OU hk hb h
set_option maxRecDepth 100000 in
theorem lkC {b : Nat} {p : Plc} {E : List (Plc × Cst)} {w : Bool} {K : Value → Bool → Prop} (hb : σ b = some (mpo AG E, w)) (h : K (AG ((lkA E p).getD (0, 0))) (lkA E p).isSome) : lko Try.prog 128 (.map (some b)) (Bm p) σ K := by
  obtain ⟨f1, f2, hk⟩ := N5
  obtain ⟨i, h1, h2⟩ := Q9
  exact Qh hk h1 h2 hb h
set_option maxRecDepth 100000 in
theorem N3 {b : Nat} {p : Plc} {E : List (Plc × Cst)} {w : Bool} {K : Value → Prop} (hb : σ b = some (mpo AG E, w)) (h : K (AG ((lkA E p).getD (0, 0)))) : lkp Try.prog 128 (.map (some b)) (Bm p) σ K := by
  obtain ⟨f1, f2, hk⟩ := N5
  obtain ⟨i, h1, h2⟩ := Q9
  exact OH hk h1 h2 hb h
set_option maxRecDepth 100000 in
theorem lkN {b : Nat} {p : Plc} {E : List (Plc × Int)} {w : Bool} {K : Value → Prop} (hb : σ b = some (mpo GU E, w)) (h : K (GU ((lkA E p).getD 0))) : lkp Try.prog 153 (.map (some b)) (Bm p) σ K := by
  obtain ⟨f1, f2, hk⟩ := Q5
  obtain ⟨i, h1, h2⟩ := Ri
  exact OH hk h1 h2 hb h
end
end Go.Proofs.Ytkdjkkimngeloaa
