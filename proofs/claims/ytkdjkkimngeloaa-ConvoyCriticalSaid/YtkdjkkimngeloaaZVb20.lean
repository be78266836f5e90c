/- Trimmed by wip/trim.py to what this claim rests on. -/
import Derived.Test.YtkdjkkimngeloaaZVb19
import Derived.Test.YtkdjkkimngeloaaZVa7
namespace Go.Proofs.Ytkdjkkimngeloaa
open Go.RowKit
section
variable {σ : Hp}
theorem Au.cap {e : TypeId} {ss : List Sh} {σ' : Hp} {A : Option Addr} {n c : Nat} {xs : List (TyR ss)} (h : Au e ss σ A n c xs σ') : n ≤ c := by
  rcases h with ⟨_, rfl, _⟩ | ⟨_, _, _, _, _, h, _⟩
  · exact Nat.zero_le _
  · exact h
theorem RdS.takeR {A : Option Addr} {n k : Nat} {xs : List Rdt} (h : RdS sR σ A n xs) (hk : k ≤ n) : RdS sR σ A k (xs.take k) := by
  obtain ⟨h1, h2⟩ := h
  have h1 : n = xs.length := h1
  refine ⟨by show k = (xs.take k).length; rw [List.length_take]; omega, ?_⟩
  rcases h2 with h2 | ⟨b, off, cells, e, f, rw, hA, hb, hr⟩
  · left; omega
  · right
    refine ⟨b, off, cells, e, f, rw, hA, hb, fun i j hi hj => ?_⟩
    have hi' : i < (xs.take k).length := hi
    have hik : i < xs.length := by rw [List.length_take] at hi'; omega
    rw [hr i j hik hj]
    have e1 : (xs.take k)[i]'hi' = xs[i]'hik := List.getElem_take
    exact (congrArg (fun z : Rdt => (B0 sR z)[j]?) e1).symm
theorem RdS.dropR {A : Option Addr} {n k : Nat} {xs : List Rdt} (h : RdS sR σ A n xs) (hk : k ≤ n) : RdS sR σ (A.map fun x => x.add (k * 5)) (n - k) (xs.drop k) := by
  obtain ⟨h1, h2⟩ := h
  have h1 : n = xs.length := h1
  refine ⟨by show n - k = (xs.drop k).length; rw [List.length_drop]; omega, ?_⟩
  rcases h2 with h2 | ⟨b, off, cells, e, f, rw, rfl, hb, hr⟩
  · left; omega
  · right
    refine ⟨b, off + k * 5, cells, e, f, rw, ?_, hb, fun i j hi hj => ?_⟩
    · show some (Addr.add ⟨b, off, none⟩ (k * 5)) = _
      rw [CU]
    · have hi' : i < (xs.drop k).length := hi
      have hik : k + i < xs.length := by rw [List.length_drop] at hi'; omega
      have e2 := hr (k + i) j hik hj
      have e1 : (xs.drop k)[i]'hi' = xs[k + i]'hik := List.getElem_drop
      have e3 : off + k * 5 + (i * sR.length + j) = off + ((k + i) * sR.length + j) := by
        show off + k * 5 + (i * 5 + j) = off + ((k + i) * 5 + j)
        omega
      rw [e3, e2]
      exact (congrArg (fun z : Rdt => (B0 sR z)[j]?) e1).symm
set_option maxRecDepth 100000 in
theorem NA {w : MW} {m : Mp} {l : Lry} {t : Int} (h : MIn σ w m) (hcap : w.rn ≤ w.rc) (hp : m.pk.length ≤ 4294967296) (hr : m.rs.length ≤ 4294967296) : Ah Try.prog IW #[w.v, l.v, .int .i64 t] σ fun v σ' =>
    (¬ eT m [l] t = 0 ∧ v = .tuple #[.slice none 0 0, .int .i64 (eT m [l] t)] ∧ σ' = σ) ∨ (eT m [l] t = 0 ∧ ((Non m l t ∧ v = .tuple #[.slice none 0 0, .int .i64 3] ∧ σ' = σ) ∨ (¬ Non m l t ∧ ∃ A n c out, v = .tuple #[.slice A n c, .int .i64 0] ∧ Au 3 [.int .i64] σ A n c out σ' ∧ CrR m l t out m.rs.length))) := by
  refine GH _ _ _ _ _ _ _ _ _ _ _ _ _ _ _ ?_
  unfold CS
  intro A1 l1 c1 σ2 ho
  have hs : Hp.Sub σ σ2 := ho.sub
  refine clI BK (GE (h.up hs) hp hr ho.rd (show (1 : Nat) ≤ _ by decide)) ?_
  show bc (!decide (eT m [l] t = 0)) _ _
  refine Bi (fun e => Bs hs (.inl ⟨e, rfl, rfl⟩)) (fun e0 => ?_)
  obtain ⟨hm, hl, _⟩ := MD e0
  have h2 := h.up hs
  have hrn := h.rn
  have hk30 := hm.k
  refine AY AT (Hd (t := t) h2 hm.ok hl) ?_
  rintro v σ7 ⟨cc, b, rfl, rfl, hy, hno⟩
  refine ⟨_, _, _, rfl, Fh (fun eb => Bs hs (.inr ⟨e0, .inl ⟨hno eb, rfl, rfl⟩⟩)) (fun eb => ?_)⟩
  have hnn := (hy eb).1.nn
  clear hno hy
  refine Ag fun J13 h13 => ?_
  refine ⟨fun q A n c i τ => ∃ (k : Nat) (out : List Int) (s0 : Hp), q = m.rs.length - k ∧ i = k ∧ k ≤ m.rs.length ∧ Hp.Sub σ7 s0 ∧ Au 3 [.int .i64] s0 A n c out τ ∧ CrR m l t out k ∧ List.length (α := Int) out ≤ k, ⟨_, 0, [], σ7, rfl, rfl, Nat.zero_le _, Hp.Sub.refl _, Au.nil .., CrR.zero, Nat.le_refl _⟩, ?_⟩
  rintro q A n c i τ ⟨k, out, s0, rfl, rfl, hk, hs0, ho2, hcr, hol⟩ _
  refine AX (fun hlt => ?_) (fun hge => ?_)
  · have hkl : k < m.rs.length := by omega
    refine Ag fun J23 h23 => ?_
    have k23 : ∀ A n c out s0 τ, Hp.Sub σ7 s0 → Au 3 [.int .i64] s0 A n c out τ → CrR m l t out (k + 1) → List.length (α := Int) out ≤ k + 1 → J23 A n c τ := by
      intro A n c out s0 τ g1 g2 g3 g4
      rw [h23]
      intro _
      exact AN (by omega) (Bu _ (by omega) ⟨k + 1, out, s0, rfl, rfl, by omega, g1, g2, g3, g4⟩)
    clear h23
    refine ⟨by omega, by omega, AN (by omega) ⟨by omega, by omega, ?_⟩⟩
    have e1 : ((k : Int) + 1).toNat = k + 1 := by omega
    rw [Int.toNat_natCast, e1]
    intro A29 l29 c29 σ30 ho3
    have hs3 : Hp.Sub τ σ30 := Au.sub ho3
    have hτ : Hp.Sub σ7 τ := hs0.trans (Au.sub ho2)
    have hin := h2.up (hτ.trans hs3)
    have hrr : TC σ30 A29 l29 [m.rs.take k, m.rs.drop (k + 1)] := by
      refine ⟨_, Au.rd ho3, rfl, fun i h1 h2 => ?_⟩
      match i, h2 with
      | 0, _ => exact RdS.takeR (k := k) hin.r (by omega)
      | 1, _ =>
        show RdS sR σ30 (if w.rc = k + 1 then w.rA else w.rA.map fun x => x.add ((k + 1) * 5)) (w.rn - (k + 1)) (m.rs.drop (k + 1))
        by_cases ec : w.rc = k + 1
        · rw [if_pos ec]
          exact ⟨by show w.rn - (k + 1) = (m.rs.drop (k + 1)).length; rw [List.length_drop]; omega, .inl (by omega)⟩
        · rw [if_neg ec]
          exact RdS.dropR hin.r (by omega)
    have hfl : ([m.rs.take k, m.rs.drop (k + 1)] : List (List Rdt)).flatten = (HH m k).rs := by
      show m.rs.take k ++ (m.rs.drop (k + 1) ++ []) = m.rs.take k ++ m.rs.drop (k + 1)
      rw [List.append_nil]
    have hll := KK hkl
    refine AY C6 (Rn hrr (by rw [hfl]; omega) (by show 2 ≤ _; decide)) ?_
    rintro v σ32 ⟨A33, l33, c33, rfl, ho4⟩
    rw [hfl] at ho4
    refine ⟨_, _, _, rfl, ?_⟩
    have hs4 : Hp.Sub σ30 σ32 := Au.sub ho4
    have hin2 : MIn σ32 ⟨w.pA, w.pn, w.pc, A33, l33, c33⟩ (HH m k) := ⟨hin.p.sub hs4, Au.rd ho4⟩
    refine AY AT (Hd (w := ⟨w.pA, w.pn, w.pc, A33, l33, c33⟩) (t := t) hin2 (Se hm.ok hkl) (Sx hl)) ?_
    rintro v σ35 ⟨cc2, b2, rfl, rfl, hy2, hno2⟩
    obtain ⟨s1, ho5, hs5⟩ := Au.junk ho2 (hs3.trans hs4)
    refine ⟨_, _, _, rfl, Fh (fun eb => ?_) (fun eb => ?_)⟩
    · refine ⟨out, s1, ho5, BP (by show List.length (α := Int) out + 1 ≤ _; omega) fun A41 l41 c41 σ42 ho6 => ?_⟩
      exact k23 _ _ _ (out ++ [(k : Int)]) s1 σ42 (hs0.trans hs5) ho6 (hcr.add ((Np hl hkl).1 (hno2 eb))) (by simp; omega)
    · exact k23 _ _ _ out s1 _ (hs0.trans hs5) ho5 (hcr.pass fun hn => (hy2 eb).1.nn ((Np hl hkl).2 hn)) (by omega)
  · have hkp : k = m.rs.length := by omega
    subst hkp
    rw [h13]
    intro _
    obtain ⟨σ4, h6, h7⟩ := Av.own.less (R := fun s τ => Au 3 [.int .i64] s A n c out τ) ho2 (hs.trans hs0)
    exact Bs h7 (.inr ⟨e0, .inr ⟨hnn, _, _, _, out, rfl, h6, hcr⟩⟩)
end
end Go.Proofs.Ytkdjkkimngeloaa
