/- Trimmed by wip/trim.py to what this claim rests on. -/
import Derived.Test.YtkdjkkimngeloaaZVb9
namespace Go.Proofs.Ytkdjkkimngeloaa
open Go.RowKit
theorem Blk.upd {b : Nat} {o o' : Obj} {σ σ' : Hp} (h : Blk b o σ σ') : Blk b o' σ (σ'.ins b o') := by
  obtain ⟨h1, rfl⟩ := h
  refine ⟨h1, ?_⟩
  funext k
  by_cases hk : k = b
  · subst hk; rw [Hp.ins_same, Hp.ins_same]
  · rw [Hp.ins_ne _ hk, Hp.ins_ne _ hk, Hp.ins_ne _ hk]
theorem Ar.upd {R : Rel} (hR : Ar R) {σ1 σ2 : Hp} (h : R σ1 σ2) {b : Nat} {x : Obj × Bool} (hb : σ1 b = some x) (o : Obj) : R (σ1.ins b o) (σ2.ins b o) := by
  obtain ⟨m, hd, rfl, hk⟩ := hR _ _ h
  have hm : m b = none := by
    rcases hd b with h1 | h1
    · rw [h1] at hb; cases hb
    · exact h1
  have e : Hp.ins (Hp.un σ1 m) b o = Hp.un (σ1.ins b o) m := by
    funext i
    by_cases hi : i = b
    · subst hi
      rw [Hp.ins_same, Cl hm, Hp.ins_same]
    · rw [Hp.ins_ne _ hi]
      cases em : m i with
      | some y => rw [EC em, EC em]
      | none => rw [Cl em, Cl em, Hp.ins_ne _ hi]
  rw [e]
  refine hk _ fun i => ?_
  by_cases hi : i = b
  · subst hi; exact .inr hm
  · rcases hd i with h1 | h1
    · exact .inl (by rw [Hp.ins_ne _ hi]; exact h1)
    · exact .inr h1
abbrev H4 (n : Int) : Value := .int .i64 n
structure RSt (b1 b4 b8 : Nat) (out : List (Plc × Cst)) (D : List (Plc × Int)) (xs : List Stp) (σ τ : Hp) : Prop where
  ex : ∃ s1 s2, Blk b1 (mpo AN out) σ s1 ∧ Blk b4 (mpo H4 D) s1 s2 ∧ Stk b8 xs s2 τ
section
variable {b1 b4 b8 : Nat} {out : List (Plc × Cst)} {D : List (Plc × Int)} {xs : List Stp} {σ τ τ' : Hp} {U : Rel}
def RU (b1 b4 b8 : Nat) (out : List (Plc × Cst)) (D : List (Plc × Int)) (xs : List Stp) (U : Rel) : Rel := fun σ τ => ∃ s, RSt b1 b4 b8 out D xs σ s ∧ U s τ
theorem RU.sub (hU : Ar U) (h : RU b1 b4 b8 out D xs U σ τ) : Hp.Sub σ τ := by
  obtain ⟨s, ⟨s1, s2, h1, h2, h3⟩, h4⟩ := h
  exact h1.sub.trans (h2.sub.trans ((Ar.stk.sub h3).trans (hU.sub h4)))
theorem RU.g1 (hU : Ar U) (h : RU b1 b4 b8 out D xs U σ τ) : τ b1 = some (mpo AN out, true) := by
  obtain ⟨s, ⟨s1, s2, h1, h2, h3⟩, h4⟩ := h
  exact hU.sub h4 _ _ (Ar.stk.sub h3 _ _ (h2.sub _ _ h1.get))
theorem RU.g4 (hU : Ar U) (h : RU b1 b4 b8 out D xs U σ τ) : τ b4 = some (mpo H4 D, true) := by
  obtain ⟨s, ⟨s1, s2, h1, h2, h3⟩, h4⟩ := h
  exact hU.sub h4 _ _ (Ar.stk.sub h3 _ _ h2.get)
theorem RU.set1 (hU : Ar U) (h : RU b1 b4 b8 out D xs U σ τ) (out' : List (Plc × Cst)) : RU b1 b4 b8 out' D xs U σ (τ.ins b1 (mpo AN out')) := by
  obtain ⟨s, ⟨s1, s2, h1, h2, h3⟩, h4⟩ := h
  have g2 := Ar.blk.upd h2 h1.get (mpo AN out')
  have g3 := Ar.stk.upd h3 (h2.sub _ _ h1.get) (mpo AN out')
  have g4 := hU.upd h4 (Ar.stk.sub h3 _ _ (h2.sub _ _ h1.get)) (mpo AN out')
  exact ⟨_, ⟨_, _, h1.upd, g2, g3⟩, g4⟩
theorem RU.set4 (hU : Ar U) (h : RU b1 b4 b8 out D xs U σ τ) (D' : List (Plc × Int)) : RU b1 b4 b8 out D' xs U σ (τ.ins b4 (mpo H4 D')) := by
  obtain ⟨s, ⟨s1, s2, h1, h2, h3⟩, h4⟩ := h
  have g3 := Ar.stk.upd h3 h2.get (mpo H4 D')
  have g4 := hU.upd h4 (Ar.stk.sub h3 _ _ h2.get) (mpo H4 D')
  exact ⟨_, ⟨_, _, h1, h2.upd, g3⟩, g4⟩
theorem RU.call {P : Program} {f : FuncId} {args : Array Value} {Q : Value → List Stp → Prop} (hU : Ar U) (h : RU b1 b4 b8 out D xs U σ τ) (hc : ∀ s2 s, Stk b8 xs s2 s → Ae P f args s fun v s' => ∃ ys, Q v ys ∧ Stk b8 ys s2 s') : Ae P f args τ fun v τ' => ∃ ys, Q v ys ∧ RU b1 b4 b8 out D ys U σ τ' := by
  obtain ⟨s, ⟨s1, s2, h1, h2, h3⟩, h4⟩ := h
  refine Ae.mono (Ae.over hU (hc _ _ h3) h4) fun v τ' h5 => ?_
  obtain ⟨s', ⟨ys, q, h6⟩, h7⟩ := h5
  exact ⟨ys, q, s', ⟨s1, s2, h1, h2, h6⟩, h7⟩
theorem RU.top {V : Rel} (h : RU b1 b4 b8 out D xs U σ τ) (hv : V τ τ') : RU b1 b4 b8 out D xs (U.seq V) σ τ' := by
  obtain ⟨s, h1, h2⟩ := h
  exact ⟨s, h1, τ, h2, hv⟩
theorem RU.untop {V : Rel} (h : RU b1 b4 b8 out D xs (U.seq V) σ τ) : ∃ τ0, RU b1 b4 b8 out D xs U σ τ0 ∧ V τ0 τ := by
  obtain ⟨s, h1, t, h2, h3⟩ := h
  exact ⟨t, ⟨s, h1, h2⟩, h3⟩
set_option maxRecDepth 100000 in
theorem RU.len {K : Value → Hp → Prop} (hU : Ar U) (h : RU b1 b4 b8 out D xs U σ τ) (hk : K (.int .i64 xs.length) τ) : ivk Try.prog (hv b8) "Len" #[] τ K := by
  obtain ⟨s, ⟨s1, s2, h1, h2, h3⟩, h4⟩ := h
  obtain ⟨A, n, c, s3, ho, hb⟩ := h3
  have hn : n = xs.length := ho.len
  refine OX (N9 (AP (hU.sub h4 _ _ hb.get) rfl)) Cc ?_
  refine Ae.mono (IZ (A := A) (n := n) (c := c)) fun v σ2 h => ?_
  obtain ⟨rfl, rfl⟩ := h
  rw [hn]
  exact hk
end
def OH : Option TypeDesc → Bool
  | some (.int .i64) => true
  | _ => false
theorem M6 {d : Option TypeDesc} (h : OH d = true) : d = some (.int .i64) := by
  unfold OH at h
  split at h
  · rfl
  · cases h
def RN (P : Program) (t kt et : TypeId) : Bool := match P.underlying t, P.underlying kt with
  | some (.map a b), some (.struct ⟨[f1, f2]⟩) => Nat.beq a kt && Nat.beq b et && !P.stoodInHeld kt && !(f1.name == "_") && !(f2.name == "_") && Nat.beq f1.offset 0 && Nat.beq f2.offset 1 && OH (P.underlying f1.type) && OH (P.underlying f2.type)
  | _, _ => false
theorem OK {P : Program} {t kt et : TypeId} (h : RN P t kt et = true) : ∃ f1 f2, Kv P t kt et f1 f2 := by
  unfold RN at h
  split at h
  · rename_i a b f1 f2 h1 h2
    simp only [Bool.and_eq_true, Bool.not_eq_true'] at h
    obtain ⟨⟨⟨⟨⟨⟨⟨⟨g1, g2⟩, g3⟩, g4⟩, g5⟩, g6⟩, g7⟩, g8⟩, g9⟩ := h
    have g1 := Nat.eq_of_beq_eq_true g1
    have g2 := Nat.eq_of_beq_eq_true g2
    subst g1 g2
    exact ⟨f1, f2, h1, h2, g3, by simpa using g4, by simpa using g5, Nat.eq_of_beq_eq_true g6, Nat.eq_of_beq_eq_true g7, M6 g8, M6 g9⟩
  · cases h
theorem P6 : ∃ f1 f2, Kv Try.prog 128 132 98 f1 f2 := OK (by kernel_rfl)
theorem SV : ∃ f1 f2, Kv Try.prog 153 132 3 f1 f2 := OK (by kernel_rfl)
theorem S8 : ∃ i, Try.prog.info? 98 = some i ∧ i.zero = some (AN (0, 0)) := by
  have h : (Try.prog.info? 98).map (·.zero) = some (some (AN (0, 0))) := by kernel_rfl
  obtain ⟨i, h1, h2⟩ := Option.map_eq_some_iff.1 h
  exact ⟨i, h1, h2⟩
theorem Tf : ∃ i, Try.prog.info? 3 = some i ∧ i.zero = some (H4 0) := by
  have h : (Try.prog.info? 3).map (·.zero) = some (some (H4 0)) := by kernel_rfl
  obtain ⟨i, h1, h2⟩ := Option.map_eq_some_iff.1 h
  exact ⟨i, h1, h2⟩
section
variable {σ : Hp}
set_option maxRecDepth 100000 in
theorem upC {b : Nat} {p : Plc} {c : Cst} {E : List (Plc × Cst)} {K : Hp → Prop} (hb : σ b = some (mpo AN E, true)) (h : K (σ.ins b (mpo AN (upA E p c)))) : upm Try.prog 128 (.map (some b)) (BA p) (AN c) σ K := by
  obtain ⟨f1, f2, hk⟩ := P6
  exact QM hk hb h
set_option maxRecDepth 100000 in
theorem upN {b : Nat} {p : Plc} {c : Int} {E : List (Plc × Int)} {K : Hp → Prop} (hb : σ b = some (mpo H4 E, true)) (h : K (σ.ins b (mpo H4 (upA E p c)))) : upm Try.prog 153 (.map (some b)) (BA p) (H4 c) σ K := by
  obtain ⟨f1, f2, hk⟩ := SV
  exact QM hk hb h
set_option maxRecDepth 100000 in
theorem lkC {b : Nat} {p : Plc} {E : List (Plc × Cst)} {w : Bool} {K : Value → Bool → Prop} (hb : σ b = some (mpo AN E, w)) (h : K (AN ((lkA E p).getD (0, 0))) (lkA E p).isSome) : lko Try.prog 128 (.map (some b)) (BA p) σ K := by
  obtain ⟨f1, f2, hk⟩ := P6
  obtain ⟨i, h1, h2⟩ := S8
  exact R5 hk h1 h2 hb h
set_option maxRecDepth 100000 in
theorem Qg {b : Nat} {p : Plc} {E : List (Plc × Cst)} {w : Bool} {K : Value → Prop} (hb : σ b = some (mpo AN E, w)) (h : K (AN ((lkA E p).getD (0, 0)))) : lkp Try.prog 128 (.map (some b)) (BA p) σ K := by
  obtain ⟨f1, f2, hk⟩ := P6
  obtain ⟨i, h1, h2⟩ := S8
  exact Qi hk h1 h2 hb h
set_option maxRecDepth 100000 in
theorem lkN {b : Nat} {p : Plc} {E : List (Plc × Int)} {w : Bool} {K : Value → Prop} (hb : σ b = some (mpo H4 E, w)) (h : K (H4 ((lkA E p).getD 0))) : lkp Try.prog 153 (.map (some b)) (BA p) σ K := by
  obtain ⟨f1, f2, hk⟩ := SV
  obtain ⟨i, h1, h2⟩ := Tf
  exact Qi hk h1 h2 hb h
end
end Go.Proofs.Ytkdjkkimngeloaa
