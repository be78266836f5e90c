/- Trimmed by wip/trim.py to what this claim rests on. -/
import Derived.Test.YtkdjkkimngeloaaZVe3
import Derived.Test.YtkdjkkimngeloaaZVb20
import Derived.Test.YtkdjkkimngeloaaZVd3
namespace Go.Proofs.Ytkdjkkimngeloaa
open Go.RowKit
section
variable {σ : Hp}
set_option maxRecDepth 100000 in
theorem LI {w : MW} {m : Mp} {k : Nat} (h : MIn σ w m) (hf : Mc m = false) (hk : k < m.rs.length) : Ah Try.prog Kb #[w.v, .int .i64 (k : Int)] σ fun v σ' => ∃ w' : MW, v = w'.v ∧ Hp.Sub σ σ' ∧ MIn σ' w' (Fx m k) := by
  refine Ic _ _ _ _ _ _ _ _ _ ?_
  unfold Dt
  refine AY D7 (Q3 h hf) ?_
  rintro v σ2 ⟨w', s, rfl, h1, h2⟩
  refine ⟨_, _, _, _, _, _, rfl, ?_⟩
  obtain ⟨b, off, hA, hp⟩ := Au.put h2 (Hp.Sub.refl _) (i := k) hk
  have hl : w'.rn = m.rs.length := Au.len h2
  obtain ⟨hw, σ3, ho3, hs3⟩ := hp 3 (.int .i64 (-1)) (QR m.rs[k]) rfl
  rw [hA]
  have hlow : QR m.rs[k] = QR (AF m k) := by
    rw [Ky (by simpa using hk)]
    simp
  refine ⟨by omega, by omega, ?_, ?_⟩
  · simpa [BY, Nat.add_assoc] using hw
  · refine Bs (σ' := σ3) (by simpa [BY, Nat.add_assoc] using hs3) ⟨⟨w'.pA, w'.pn, w'.pc, w'.rA, w'.rn, w'.rc⟩, ?_, (Au.sub h1).trans (Au.sub ho3), ?_, ?_⟩
    · rw [hA]
    · exact (Au.rd h1).sub (Au.sub ho3)
    · have := Au.rd ho3
      rw [hlow] at this
      exact this
set_option maxRecDepth 100000 in
theorem NY {w : MW} {m : Mp} {l : Lry} {t : Int} (h : MIn σ w m) (hf : Mc m = false) : Ah Try.prog JP #[w.v, l.v, .int .i64 t] σ fun v σ' => Hp.Sub σ σ' ∧
    ((¬ eT m [l] t = 0 ∧ v = .tuple #[.slice none 0 0, .int .i64 (eT m [l] t)]) ∨ (eT m [l] t = 0 ∧ ((Non m l t ∧ v = .tuple #[.slice none 0 0, .int .i64 3]) ∨ (¬ Non m l t ∧ ∃ A n c out, v = .tuple #[.slice A n c, .int .i64 0] ∧ RdS [.int .i64] σ' A n out ∧ CrR m l t out m.rs.length)))) := by
  refine Hi _ _ _ _ _ _ _ _ _ _ _ _ _ _ _ ?_
  unfold C4
  obtain ⟨f1, f2⟩ := PC hf
  have hrn := h.rn
  refine clI Fg (ML h (by omega) (by omega)) (Bi (fun e => Ay ⟨Hp.Sub.refl _, .inl ⟨e, rfl⟩⟩) (fun e0 => ?_))
  obtain ⟨hm, hl, _⟩ := MD e0
  refine AY DB (Nb h hm.ok hl) ?_
  rintro v σ5 ⟨s, A, n, c, b, rfl, hs5, h1, h2⟩
  refine ⟨_, _, _, _, _, _, _, rfl, Fh (fun eb => Ay ⟨hs5, .inr ⟨e0, .inl ⟨h2 eb, rfl⟩⟩⟩) (fun eb => ?_)⟩
  obtain ⟨js, _, hb⟩ := h1 eb
  have hnn := hb.nn
  clear h1 h2 hb
  refine Ag fun J13 h13 => ?_
  refine ⟨fun q A n c i τ => ∃ (k : Nat) (out : List Int) (s0 : Hp), q = m.rs.length - k ∧ i = k ∧ k ≤ m.rs.length ∧ Hp.Sub σ s0 ∧ Au 3 [.int .i64] s0 A n c out τ ∧ CrR m l t out k ∧ List.length (α := Int) out ≤ k, ⟨_, 0, [], σ5, rfl, rfl, Nat.zero_le _, hs5, Au.nil .., CrR.zero, Nat.le_refl _⟩, ?_⟩
  rintro q A n c i τ ⟨k, out, s0, rfl, rfl, hk, hs0, ho2, hcr, hol⟩ _
  refine AX (fun hlt => ?_) (fun hge => ?_)
  · have hkl : k < m.rs.length := by omega
    refine Ag fun J23 h23 => ?_
    have k23 : ∀ A n c out s0 τ, Hp.Sub σ s0 → Au 3 [.int .i64] s0 A n c out τ → CrR m l t out (k + 1) → List.length (α := Int) out ≤ k + 1 → J23 A n c τ := by
      intro A n c out s0 τ g1 g2 g3 g4
      rw [h23]
      intro _
      exact AN (by omega) (Bu _ (by omega) ⟨k + 1, out, s0, rfl, rfl, by omega, g1, g2, g3, g4⟩)
    clear h23
    refine Ag fun J30 h30 => ?_
    have k30 : ∀ b τ', Hp.Sub τ τ' → (b = true → ¬ Non (Fx m k) l t) → (b = false → Non (Fx m k) l t) → J30 b τ' := by
      intro b τ' hs hy hno
      rw [h30]
      intro _
      obtain ⟨s1, ho5, hs5⟩ := Au.junk ho2 hs
      refine Fh (fun eb => ⟨out, s1, ho5, BP (by show List.length (α := Int) out + 1 ≤ _; omega) fun A41 l41 c41 σ42 ho6 => ?_⟩) (fun eb => ?_)
      · exact k23 _ _ _ (out ++ [(k : Int)]) s1 σ42 (hs0.trans hs5) ho6 (hcr.add (hno eb)) (by simp; omega)
      · exact k23 _ _ _ out s1 _ (hs0.trans hs5) ho5 (hcr.pass (hy eb)) (by omega)
    have hτ : Hp.Sub σ τ := hs0.trans (Au.sub ho2)
    have dr1 : ∀ (w' : MW) σ37, Hp.Sub τ σ37 → MIn σ37 w' (Fx m k) → cl Try.prog (.func (.func HF) #[] #[]) #[w'.v, l.v, .int .i64 t] σ37 fun v40 σ41 => ∃ n42 : Int, ∃ n43 : Int, ∃ n44 : Int, ∃ A45 : Option Addr, ∃ l45 : Nat, ∃ c45 : Nat, ∃ t46 : Bool, (v40 = (.tuple #[(.agg #[(.int .i64 n42), (.int .i64 n43), (.int .i64 n44), (.slice A45 l45 c45)]), (.bool t46)]) ∧ J30 t46 σ41) := by
      intro w' σ37 hs hin
      refine AY DB (Nb (t := t) hin (RW hm.ok hkl) (QT hl)) ?_
      rintro v σ41 ⟨s, A, n, c, b, rfl, hs2, h1, h2⟩
      exact ⟨_, _, _, _, _, _, _, rfl, k30 b _ (hs.trans hs2) (fun eb => by obtain ⟨js, _, hb⟩ := h1 eb; exact hb.nn) h2⟩
    constructor
    · refine AY CW (LI (h.up hτ) hf hkl) ?_
      rintro v σ37 ⟨w', rfl, hs, hin⟩
      exact ⟨_, _, _, _, _, _, rfl, hs, dr1 w' _ hs hin, dr1 w' _ hs hin⟩
    · refine AY CW (LI (h.up hτ) hf hkl) ?_
      rintro v σ37 ⟨w', rfl, hs, hin⟩
      exact ⟨_, _, _, _, _, _, rfl, hs, dr1 w' _ hs hin⟩
  · have hkp : k = m.rs.length := by omega
    subst hkp
    rw [h13]
    intro _
    exact Ay ⟨hs0.trans (Au.sub ho2), .inr ⟨e0, .inr ⟨hnn, _, _, _, out, rfl, Au.rd ho2, hcr⟩⟩⟩
end
end Go.Proofs.Ytkdjkkimngeloaa
