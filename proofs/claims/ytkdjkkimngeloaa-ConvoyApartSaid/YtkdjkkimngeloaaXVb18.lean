/- Trimmed by wip/trim.py to what this claim rests on. -/
import Derived.Test.YtkdjkkimngeloaaXVb17
namespace Go.Proofs.Ytkdjkkimngeloaa
open Go.RowKit
abbrev mpO (w : MW) : Obj := .cells #[.slice w.pA w.pn w.pc, .slice w.rA w.rn w.rc] 25 (0, 0)
abbrev lrO (l : Lry) : Obj := .cells #[.int .i64 l.h, .int .i64 l.w, .int .i64 l.fr, .int .i64 l.rdy, .int .i64 l.dr, .int .i64 l.rst] 27 (0, 0)
abbrev erO (e : Int) : Obj := .cells #[.int .i64 e] 33 (0, 0)
abbrev bkO (A : Option Addr) (n c : Nat) : Obj := .cells #[.slice A n c] 45 (0, 0)
def WH (bb b38 b40 b42 b44 b46 lb : Nat) (A : Option Addr) (n c : Nat) (w : MW) (t : Int) (l : Lry) (x e : Int) (o : Obj) : Rel :=
  (Blk bb (bkO A n c)).seq ((Blk b38 (mpO w)).seq ((Blk b40 (lrO l)).seq ((Blk b42 (nwO t)).seq ((Blk b44 (nwO x)).seq ((Blk b46 (erO e)).seq (Blk lb o))))))
section
variable {bb b38 b40 b42 b44 b46 lb : Nat} {A : Option Addr} {n c : Nat} {w : MW} {t : Int} {l : Lry} {x e : Int} {o : Obj} {s τ : Hp}
theorem WH.get (h : WH bb b38 b40 b42 b44 b46 lb A n c w t l x e o s τ) : τ bb = some (bkO A n c, true) ∧ τ b38 = some (mpO w, true) ∧ τ b40 = some (lrO l, true) ∧ τ b42 = some (nwO t, true) ∧ τ b44 = some (nwO x, true) ∧ τ b46 = some (erO e, true) ∧ τ lb = some (o, true) ∧ Hp.Sub s τ := by
  obtain ⟨s1, h1, s2, h2, s3, h3, s4, h4, s5, h5, s6, h6, h7⟩ := h
  have e6 := h7.sub
  have e5 := h6.sub.trans e6
  have e4 := h5.sub.trans e5
  have e3 := h4.sub.trans e4
  have e2 := h3.sub.trans e3
  have e1 := h2.sub.trans e2
  exact ⟨e1 _ _ h1.get, e2 _ _ h2.get, e3 _ _ h3.get, e4 _ _ h4.get, e5 _ _ h5.get, e6 _ _ h6.get, h7.get, h1.sub.trans e1⟩
theorem WH.turn (o' : Obj) (h : WH bb b38 b40 b42 b44 b46 lb A n c w t l x e o s τ) : WH bb b38 b40 b42 b44 b46 lb A n c w t l x e o' s (τ.ins lb o') := by
  obtain ⟨s1, h1, s2, h2, s3, h3, s4, h4, s5, h5, s6, h6, h7⟩ := h
  exact ⟨s1, h1, s2, h2, s3, h3, s4, h4, s5, h5, s6, h6, h7.upd⟩
theorem WH.stL {K : Hp → Prop} {h' : Int} (h : WH bb b38 b40 b42 b44 b46 lb A n c w t l x e o s τ) (hk : ∀ τ', WH bb b38 b40 b42 b44 b46 lb A n c w t (l.up h') x e o s τ' → K τ') : st τ b40 0 (.int .i64 h') K := by
  obtain ⟨s1, h1, s2, h2, h3⟩ := h
  exact Hx (Ao.blk.seq (Ao.blk.seq (Ao.blk.seq Ao.blk))) h3 (show 0 < 6 by omega) fun τ' hh => hk τ' ⟨s1, h1, s2, h2, hh⟩
theorem WH.stX {K : Hp → Prop} {x' : Int} (h : WH bb b38 b40 b42 b44 b46 lb A n c w t l x e o s τ) (hk : ∀ τ', WH bb b38 b40 b42 b44 b46 lb A n c w t l x' e o s τ' → K τ') : st τ b44 0 (.int .i64 x') K := by
  obtain ⟨s1, h1, s2, h2, s3, h3, s4, h4, h5⟩ := h
  exact Hx (Ao.blk.seq Ao.blk) h5 (show 0 < 1 by omega) fun τ' hh => hk τ' ⟨s1, h1, s2, h2, s3, h3, s4, h4, hh⟩
theorem WH.stE {K : Hp → Prop} {e' : Int} (h : WH bb b38 b40 b42 b44 b46 lb A n c w t l x e o s τ) (hk : ∀ τ', WH bb b38 b40 b42 b44 b46 lb A n c w t l x e' o s τ' → K τ') : st τ b46 0 (.int .i64 e') K := by
  obtain ⟨s1, h1, s2, h2, s3, h3, s4, h4, s5, h5, h6⟩ := h
  exact Hx Ao.blk h6 (show 0 < 1 by omega) fun τ' hh => hk τ' ⟨s1, h1, s2, h2, s3, h3, s4, h4, s5, h5, hh⟩
end
section
variable {σ : Hp}
set_option maxRecDepth 100000 in
theorem N9 {w : MW} {m : Mp} {l : Lry} {t : Int} (h : MIn σ w m) (hp : m.pk.length ≤ 4294967296) (hr : m.rs.length ≤ 4294967296) : Af Try.prog IL #[w.v, l.v, .int .i64 t] σ fun v σ' => σ' = σ ∧
    ((¬ eT m [l] t = 0 ∧ v = .tuple #[.int .i64 0, .int .i64 (eT m [l] t)]) ∨ (eT m [l] t = 0 ∧ ((HgN m l t ∧ v = .tuple #[.int .i64 0, .int .i64 3]) ∨ ∃ h, v = .tuple #[.int .i64 h, .int .i64 0] ∧ HgR m l t h))) := by
  refine G0 _ _ _ _ _ _ _ _ _ _ _ _ _ _ _ ?_
  unfold C7
  intro A1 l1 c1 σ2 ho
  have hs : Hp.Sub σ σ2 := ho.sub
  refine clI Be (El (h.up hs) hp hr ho.rd (show (1 : Nat) ≤ _ by decide)) ?_
  show bc (!decide (eT m [l] t = 0)) _ _
  refine Bu (fun e => BN hs ⟨rfl, .inl ⟨e, rfl⟩⟩) (fun e0 => ?_)
  obtain ⟨hm, hl, _⟩ := Rn e0
  have h2 := h.up hs
  have hrn := h.rn
  have hk30 := hm.k
  refine Ag fun J8 h8 => ?_
  refine ⟨fun q xs i τ => ∃ k : Nat, q = m.rs.length - k ∧ i = k ∧ k ≤ m.rs.length ∧ τ = σ2 ∧ xs = 1000 :: (m.rs.take k).map (fun r => r.2.2.2.1), ⟨_, 0, rfl, rfl, by omega, rfl, rfl⟩, ?_⟩
  rintro q xs i τ ⟨k, rfl, rfl, hk, rfl, rfl⟩ _
  refine Bd (fun hlt => ?_) (fun hge => ?_)
  · have hkl : k < m.rs.length := by omega
    refine Oc h2.r (by omega) (by simpa using hkl) fun r hr => ?_
    simp only [Int.toNat_natCast] at hr
    refine Bh (by simp; omega) (AT (by omega) (BP _ (by omega) ⟨k + 1, rfl, rfl, by omega, rfl, ?_⟩))
    rw [List.take_succ_eq_append_getElem hkl, hr]
    simp
  · obtain rfl : k = m.rs.length := by omega
    rw [List.take_length, h8]
    clear h8 J8
    intro _ A10 l10 c10 σ11 ho2
    have hhl : (hts m).length ≤ 31 := by unfold hts; simp; omega
    refine Bg (g := 54) (by kernel_rfl) (Mb (xs := hts m) ho2 (by omega)) ?_
    rintro v σ13 ⟨rfl, ys, ⟨hpm, hpw⟩, ho3⟩
    have hyl : ys.length = (hts m).length := hpm.length_eq
    have hym : ∀ h, h ∈ ys ↔ h ∈ hts m := fun h => hpm.mem_iff
    refine ⟨ys, τ, ho3, ?_⟩
    clear ho2 ho3 σ11 σ13 A10 l10 c10
    refine Ag fun J18 h18 => ?_
    intro A n c σ34 ho4
    have hs4 : Hp.Sub τ σ34 := ho4.sub
    have hny : n = ys.length := ho4.rd.1
    refine Bg DM N3 ?_
    rintro v σ36 ⟨bb, rfl, hbb⟩
    refine ⟨_, rfl, ?_⟩
    intro b38 n38 b40 n40 b42 n42 b44 n44 b46 n46 lb Rec hlb hcall
    have hW : WH bb b38 b40 b42 b44 b46 lb A n c w t l 0 0 (Rec .ready none) σ34 _ := ⟨_, hbb, _, ⟨n38, rfl⟩, _, ⟨n40, rfl⟩, _, ⟨n42, rfl⟩, _, ⟨n44, rfl⟩, _, ⟨n46, rfl⟩, hlb, rfl⟩
    have k18 : ∀ h' τ', WH bb b38 b40 b42 b44 b46 lb A n c w t (l.up h') 0 0 (Rec .exhausted none) σ34 τ' → (∀ i (h : i < ys.length), Non m (l.up (ys[ys.length - 1 - i]'(by omega))) t) → J18 (some ⟨b44, 0, none⟩) (some ⟨b46, 0, none⟩) τ' := by
      intro h' τ' hW hno
      rw [h18]
      intro _
      refine AP (hW.stX fun τ1 hW1 => AP (hW1.stE fun τ2 hW2 => ?_))
      obtain ⟨_, _, _, _, g44, g46, _, gs⟩ := hW2.get
      refine AP (Bq g44 rfl (AP (Bq g46 rfl (BN (hs.trans (hs4.trans gs)) ⟨rfl, .inr ⟨e0, .inl ⟨fun h hh => ?_, rfl⟩⟩⟩))))
      obtain ⟨i, hi, rfl⟩ := List.mem_iff_getElem.1 ((hym h).2 hh)
      have := hno (ys.length - 1 - i) (by omega)
      have e1 : ys.length - 1 - (ys.length - 1 - i) = i := by omega
      simp only [e1] at this
      exact this
    clear h18
    refine Nw.of Ds (Af.mono (LE (y := .func (.yield lb) #[] #[]) (b := bb) (A := A) (n := n) (c := c) (xs := ys)
      (I := fun i τ' => (∀ j (h : j < ys.length), j < i → Non m (l.up (ys[ys.length - 1 - j]'(by omega))) t) ∧ ∃ h', WH bb b38 b40 b42 b44 b46 lb A n c w t (l.up h') 0 0 (Rec .ready none) σ34 τ')
      (Q := fun τ' => ∃ i, ∃ h : i < ys.length, (∀ j (h : j < ys.length), j < i → Non m (l.up (ys[ys.length - 1 - j]'(by omega))) t) ∧ ¬ Non m (l.up (ys[ys.length - 1 - i]'(by omega))) t ∧ WH bb b38 b40 b42 b44 b46 lb A n c w t (l.up (ys[ys.length - 1 - i]'(by omega))) (ys[ys.length - 1 - i]'(by omega)) 0 (Rec .done (some .ret)) σ34 τ')
      (by omega) (fun i τ' hh => ?_) (fun i hi τ' hh => ?_) ⟨fun j _ h => absurd h (Nat.not_lt_zero _), l.h, hW⟩) ?_)
    · obtain ⟨_, h', hW⟩ := hh
      obtain ⟨g, _, _, _, _, _, _, gs⟩ := hW.get
      exact ⟨g, ho4.rd.sub gs⟩
    · obtain ⟨hno, h', hW⟩ := hh
      obtain ⟨_, _, _, _, _, _, glb, _⟩ := hW.get
      refine hcall _ _ _ glb ⟨_, _, rfl, fun _ => ⟨glb, ?_⟩⟩
      have hW := hW.turn (Rec .busy none)
      generalize τ'.ins lb (Rec .busy none) = τ' at hW ⊢
      have hmem : ys[ys.length - 1 - i]'(by omega) ∈ hts m := (hym _).1 (List.getElem_mem _)
      generalize hx : ys[ys.length - 1 - i]'(by omega) = x at hmem ⊢
      refine hW.stL fun τ1 hW1 => ?_
      have hW1 : WH bb b38 b40 b42 b44 b46 lb A n c w t (l.up x) 0 0 (Rec .busy none) σ34 τ1 := hW1
      obtain ⟨_, g38, g40, g42, _, _, glb, gs⟩ := hW1.get
      refine DK g38 rfl (DK g38 rfl (Bq g40 rfl (Bq g40 rfl (Bq g40 rfl (Bq g40 rfl (Bq g40 rfl (Bq g40 rfl (Bq g42 rfl ?_))))))))
      refine Bg Bi (Iz (l := l.up x) (t := t) (h2.up (hs4.trans gs)) hm.ok (KG hm hl hmem)) ?_
      rintro v τ2 ⟨cc, b, rfl, rfl, hy, hn⟩
      refine ⟨_, _, _, rfl, IU (fun e => ?_) (fun e => ?_)⟩
      · refine hW1.stX fun τ3 hW3 => hW3.stE fun τ4 hW4 => ?_
        obtain ⟨_, _, _, _, _, _, glb, _⟩ := hW4.get
        refine ⟨glb, false, rfl, fun e => (by cases e), fun _ => ⟨i, hi, hno, ?_, ?_⟩⟩
        · rw [hx]
          exact (hy e).1.nn
        · rw [hx]
          exact hW4.turn _
      · refine ⟨glb, true, rfl, fun _ => ⟨fun j hj hji => ?_, x, hW1.turn _⟩, fun e => by cases e⟩
        rcases Nat.lt_or_ge j i with a | a
        · exact hno j hj a
        · obtain rfl : j = i := by omega
          rw [hx]
          exact hn e
    · rintro v τ' (⟨hno, h', hW⟩ | ⟨i, hi, hno, hyes, hW⟩)
      · obtain ⟨_, _, _, _, _, _, glb, _⟩ := hW.get
        exact ⟨.ready, none, glb, rfl, k18 h' _ (hW.turn _) fun i hi => hno i hi hi⟩
      · obtain ⟨_, _, _, _, _, _, glb, _⟩ := hW.get
        refine ⟨.done, some .ret, glb, rfl, ?_⟩
        have hW := hW.turn (Rec .exhausted (some .ret))
        obtain ⟨_, _, _, _, g44, g46, _, gs⟩ := hW.get
        have hmem : ys[ys.length - 1 - i]'(by omega) ∈ hts m := (hym _).1 (List.getElem_mem _)
        refine Bq g44 rfl (Bq g46 rfl (BN (hs.trans (hs4.trans gs)) ⟨rfl, .inr ⟨e0, .inr ⟨_, rfl, hmem, hyes, fun h'' hh hlt => ?_⟩⟩⟩))
        obtain ⟨j, hj, rfl⟩ := List.mem_iff_getElem.1 ((hym h'').2 hh)
        have hij : ys.length - 1 - i < j := by
          rcases Nat.lt_trichotomy (ys.length - 1 - i) j with a | a | a
          · exact a
          · subst a; omega
          · have := (List.pairwise_iff_getElem.1 hpw) j (ys.length - 1 - i) hj (by omega) a
            omega
        have := hno (ys.length - 1 - j) (by omega) (by omega)
        have e1 : ys.length - 1 - (ys.length - 1 - j) = j := by omega
        simp only [e1] at this
        exact this
end
end Go.Proofs.Ytkdjkkimngeloaa
