/- Trimmed by wip/trim.py to what this claim rests on. -/
import Derived.Test.YtecodlefcmjihaaGreatWTk0
import Derived.Test.YtecodlefcmjihaaGreatWB18
namespace Go.Proofs.YtecodlefcmjihaaGreat
open Go.RowKit
def RowsR (s : SL) (qs : List (List Int)) (σ0 σ : Hp) : Prop := Lse (queP s qs) σ0 σ
section
variable {s : SL} {qs : List (List Int)} {σ0 σ : Hp}
theorem RowsR.sub (h : RowsR s qs σ0 σ) : Hp.Sub σ0 σ := Lse.sub Port.queP h
theorem RowsR.up {σ' : Hp} (h : RowsR s qs σ0 σ) (hs : Hp.Sub σ σ') : RowsR s qs σ0 σ' := Lse.up h hs
theorem RowsR.init {n : Nat} (h : OwnSl 34 [.slc] σ0 s.A s.n s.c ((List.replicate n (none, 0, 0) : List (Option Addr × Nat × Nat)) : List (TyR [.slc])) σ) : RowsR s (List.replicate n []) σ0 σ := by
  refine Lse.of ⟨List.replicate n SL.d, by simp, σ, ?_, ?_⟩
  · have e : (List.replicate n SL.d).map slT = (List.replicate n (none, 0, 0) : List (TyR [.slc])) := by
      rw [List.map_replicate]
      rfl
    exact (congrArg (fun z : List (TyR [.slc]) => OwnSl 34 [.slc] σ0 s.A s.n s.c z σ) e).mpr h
  · refine star_id fun R hR => ?_
    obtain ⟨i, hi, rfl⟩ := List.mem_map.1 hR
    have hi : i < n := by simpa using hi
    have e1 : (List.replicate n SL.d).getD i SL.d = SL.d := by simp [List.getD, hi]
    have e2 : (List.replicate n ([] : List Int)).getD i [] = [] := by simp [List.getD, hi]
    rw [e1, e2]
    exact OwnSl.nil ..
theorem RowsR.at_ (h : RowsR s qs σ0 σ) {r : Nat} (hr : r < qs.length) : ∃ (b off : Nat) (s' : SL) (σ3 : Hp), s.A = some ⟨b, off, none⟩ ∧ s.n = qs.length ∧ σ.cell? ⟨b, off + r, none⟩ = some s'.v ∧ OwnSl 3 [.int .i64] σ3 s'.A s'.n s'.c (qs.getD r []) σ ∧
    (∀ (xs : List Int) (σ4 : Hp), OwnSl 3 [.int .i64] σ3 s'.A s'.n s'.c xs σ4 → RowsR s (qs.set r xs) σ0 σ4) ∧
    ∀ (xs : List Int) (s'' : SL) (σ4 : Hp), OwnSl 3 [.int .i64] σ3 s''.A s''.n s''.c xs σ4 → σ4.wr ⟨b, off + r, none⟩ ∧ RowsR s (qs.set r xs) σ0 (σ4.put ⟨b, off + r, none⟩ s''.v) := by
  obtain ⟨σa, hq, hsa⟩ := Lse.exact Port.queP h
  obtain ⟨hs, hl, σ2, ho, hi⟩ := hq
  have ho : OwnSl 34 [.slc] σa s.A s.n s.c (hs.map slT) σ2 := ho
  have hrh : r < hs.length := by rw [hl]; exact hr
  have hlm : r < (hs.map slT).length := by rw [List.length_map]; exact hrh
  obtain ⟨b, off, hA, cells, hbb⟩ := ho.someA (by omega)
  obtain ⟨σ3, h3, h4⟩ := star_at (k := r) inn_port (by unfold innL; rw [List.length_map, List.length_range]; exact hr) (Lse.of hi)
  have e3 : (innL hs qs)[r]'(by unfold innL; rw [List.length_map, List.length_range]; exact hr) = ownI (hs.getD r SL.d) (qs.getD r []) := by simp [innL]
  rw [e3] at h3
  have hn : s.n = qs.length := by rw [ho.len, ← hl]; exact List.length_map ..
  have hsub := Port.sub (Port.star (inn_port (hs := hs) (qs := qs))) hi
  have hcell : σ.cell? ⟨b, off + r, none⟩ = some (hs.getD r SL.d).v := by
    have := ho.cellAt hA hlm (j := 0) (by show 0 < 1; omega)
    have e : (hs.map slT)[r]'hlm = slT (hs.getD r SL.d) := by simp [List.getD, hrh]
    rw [e] at this
    have e2 : off + r * [Sh.slc].length + 0 = off + r := by show off + r * 1 + 0 = _; omega
    rw [e2] at this
    exact cell_sub hsub this
  refine ⟨b, off, hs.getD r SL.d, σ3, hA, hn, hcell, h3, fun xs σ4 h5 => ?_, fun xs s'' σ4 h5 => ?_⟩
  · have h6 := h4 (ownI (hs.getD r SL.d) xs) σ4 σ4 Port.ownI h5 (Hp.Sub.refl _)
    rw [← innL_set hl hr] at h6
    have e4 : hs.set r (hs.getD r SL.d) = hs := by
      have : hs.getD r SL.d = hs[r] := by simp [List.getD, hrh]
      rw [this, List.set_getElem_self]
    rw [e4] at h6
    obtain ⟨σ6, h9, h10⟩ := h6
    exact Lse.low Port.queP (show Lse (queP s (qs.set r xs)) σa σ4 from ⟨σ6, ⟨hs, by rw [List.length_set]; exact hl, σ2, ho, h9⟩, h10⟩) hsa
  · have h6 := h4 (ownI s'' xs) σ4 σ4 Port.ownI h5 (Hp.Sub.refl _)
    rw [← innL_set hl hr] at h6
    obtain ⟨w1, σ5, w2, w3⟩ := ho.putAt (j := 0) (v := s''.v) (r := slT s'') hA hlm rfl
    have e2 : off + r * [Sh.slc].length + 0 = off + r := by show off + r * 1 + 0 = _; omega
    rw [e2] at w1 w3
    have h7 := Lse.put (Port.star inn_port) h6 hbb (k := off + r) s''.v
    have h8 := h7.low (Port.star inn_port) w3
    obtain ⟨σ6, h9, h10⟩ := h8
    refine ⟨wr_sub w1 (Lse.sub (Port.star inn_port) h6), ?_⟩
    have e : (hs.map slT).set r (slT s'') = (hs.set r s'').map slT := (List.map_set ..).symm
    rw [e] at w2
    exact Lse.low Port.queP (show Lse (queP s (qs.set r xs)) σa _ from ⟨σ6, ⟨hs.set r s'', by rw [List.length_set, List.length_set]; exact hl, σ5, w2, h9⟩, h10⟩) hsa
theorem RowsR.hd (h : RowsR s qs σ0 σ) {r : Nat} (hr : r < qs.length) {K : Option Addr → Nat → Nat → Prop} (hk : ∀ s' : SL, RdS [.int .i64] σ s'.A s'.n (qs.getD r []) → K s'.A s'.n s'.c) : ix s.A s.n r 1 fun b a => ldS σ b a K := by
  obtain ⟨b, off, s', σ3, hA, hn, hc, ho, _, _⟩ := h.at_ hr
  refine ix_at hA (by omega) (by omega) ?_
  simp only [Int.toNat_natCast, Nat.mul_one]
  exact ldS_of hc (hk s' ho.rd)
theorem RowsR.get (h : RowsR s qs σ0 σ) {r : Nat} (hr : r < qs.length) {t : Int} (t0 : 0 ≤ t) (t1 : t < (qs.getD r []).length) {K : Int → Prop} (hk : K (gt (qs.getD r []) t)) : ix s.A s.n r 1 fun b a => ldS σ b a fun A n _ => ix A n t 1 fun b a => ldI σ .i64 b a K :=
  h.hd hr fun _ hrd => gixg hrd t0 t1 hk
theorem RowsR.st (h : RowsR s qs σ0 σ) {r : Nat} (hr : r < qs.length) {t v : Int} (t0 : 0 ≤ t) (t1 : t < (qs.getD r []).length) : ∃ s' : SL, (∀ K : Option Addr → Nat → Nat → Prop, K s'.A s'.n s'.c → ix s.A s.n r 1 fun b a => ldS σ b a K) ∧ RdS [.int .i64] σ s'.A s'.n (qs.getD r []) ∧ ∀ K : Hp → Prop, (∀ τ, RowsR s (qs.set r ((qs.getD r []).set t.toNat v)) σ0 τ → K τ) → ix s'.A s'.n t 1 fun b a => st σ b a (.int .i64 v) K := by
  obtain ⟨b, off, s', σ3, hA, hn, hc, ho, hk1, _⟩ := h.at_ hr
  refine ⟨s', fun K hK => ?_, ho.rd, fun K hk => ?_⟩
  · refine ix_at hA (by omega) (by omega) ?_
    simp only [Int.toNat_natCast, Nat.mul_one]
    exact ldS_of hc hK
  · exact OwnSl.ix_stI ho (Hp.Sub.refl _) t0 (by omega) fun σ2 τ2 h2 h3 => hk _ ((hk1 _ _ h2).up h3)
theorem RowsR.new (h : RowsR s qs σ0 σ) {σ1 : Hp} (hs : Hp.Sub σ σ1) {r : Nat} (hr : r < qs.length) {s'' : SL} {xs : List Int} {σ2 : Hp} (ho : OwnSl 3 [.int .i64] σ1 s''.A s''.n s''.c xs σ2) : ∃ b off, s.A = some ⟨b, off, none⟩ ∧ s.n = qs.length ∧ σ2.wr ⟨b, off + r, none⟩ ∧ RowsR s (qs.set r xs) σ0 (σ2.put ⟨b, off + r, none⟩ s''.v) := by
  obtain ⟨b, off, s', σ3, hA, hn, _, ho', _, hk⟩ := (h.up hs).at_ hr
  obtain ⟨σ4, h4, h5⟩ := ho.less ho'.sub
  obtain ⟨w1, w2⟩ := hk xs s'' σ4 h4
  refine ⟨b, off, hA, hn, wr_sub w1 h5, w2.up ?_⟩
  obtain ⟨c, e, hx, _⟩ := w1
  exact sub_put h5 hx _
end
end Go.Proofs.YtecodlefcmjihaaGreat
