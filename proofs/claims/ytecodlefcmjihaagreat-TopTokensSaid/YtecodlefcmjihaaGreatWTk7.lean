/- Trimmed by wip/trim.py to what this claim rests on. -/
import Derived.Test.YtecodlefcmjihaaGreatWTk6
namespace Go.Proofs.YtecodlefcmjihaaGreat
open Go.RowKit
section
variable {W : NoW} {F : Fai} {σ0 σ : Hp} {S : Fno} {K : Bool → Hp → Prop}
theorem lt_till (h : FairR W F σ0 σ S) (hl : S.stock.length ≤ 1000) {n : Int} (h0 : 0 ≤ n ∧ n < S.stock.length) (hk : K true σ) : cl Tryz.prog (.func (.func N_tokens_fair_till) #[] #[]) #[.pointer (some ⟨W.b, 0, none⟩), .int .i64 n] σ fun v σ' => ∃ t : Bool, (v = .bool t ∧ K t σ') := by
  refine clB M_tokens_fair_till_enter (b := true) ?_ hk
  refine M_tokens_fair_till_ok _ _ _ _ ?_
  unfold M_tokens_fair_till
  have hn := h.rd.1.lenI
  refine dr_i (bldS h.blk rfl (wk_i (by omega) (lt_in (rt_of ⟨?_, rfl⟩))))
  rw [decide_eq_true (by omega)]
theorem lt_purse (h : FairR W F σ0 σ S) (hB : S.purses.length = F.purses.toNat) (hl : 0 ≤ F.purses ∧ F.purses ≤ 1000) {n : Int} (h0 : 0 ≤ n ∧ n < S.purses.length) (hk : K true σ) : cl Tryz.prog (.func (.func N_tokens_fair_purse) #[] #[]) #[.pointer (some ⟨W.b, 0, none⟩), .int .i64 n] σ fun v σ' => ∃ t : Bool, (v = .bool t ∧ K t σ') := by
  refine clB M_tokens_fair_purse_enter (b := true) ?_ hk
  refine M_tokens_fair_purse_ok _ _ _ _ ?_
  unfold M_tokens_fair_purse
  refine dr_i (bldI h.blk rfl (wk_i (by omega) (lt_in (rt_of ⟨?_, rfl⟩))))
  rw [decide_eq_true (by omega)]
theorem lt_box (h : FairR W F σ0 σ S) (hB : S.boxes.length = F.boxes.toNat) (hl : 0 ≤ F.boxes ∧ F.boxes ≤ 1000) {n : Int} (h0 : 0 ≤ n ∧ n < S.boxes.length) (hk : K true σ) : cl Tryz.prog (.func (.func N_tokens_fair_box) #[] #[]) #[.pointer (some ⟨W.b, 0, none⟩), .int .i64 n] σ fun v σ' => ∃ t : Bool, (v = .bool t ∧ K t σ') := by
  refine clB M_tokens_fair_box_enter (b := true) ?_ hk
  refine M_tokens_fair_box_ok _ _ _ _ ?_
  unfold M_tokens_fair_box
  refine dr_i (bldI h.blk rfl (wk_i (by omega) (lt_in (rt_of ⟨?_, rfl⟩))))
  rw [decide_eq_true (by omega)]
theorem lt_band (h : FairR W F σ0 σ S) {n t : Int} (h0 : 0 ≤ n) (h1 : n < S.purses.length) (ht : 0 ≤ t) (hk : K false σ) : cl Tryz.prog (.func (.func N_tokens_fair_band) #[] #[]) #[.pointer (some ⟨W.b, 0, none⟩), .int .i64 n, .int .i64 t] σ fun v σ' => ∃ t : Bool, (v = .bool t ∧ K t σ') := by
  refine clB M_tokens_fair_band_enter (b := false) ?_ hk
  refine M_tokens_fair_band_ok _ _ _ _ _ ?_
  unfold M_tokens_fair_band
  refine dr_i (bldS h.blk rfl (h.pix h0 h1 fun b o _ c1 => ldI_of c1 (rt_of ⟨?_, rfl⟩)))
  rw [decide_eq_false (by omega)]
theorem ct_cash (h : FairR W F σ0 σ S) {n k c : Int} (h0 : 0 ≤ n) (h1 : n < S.cash.length) (hc : 0 ≤ c ∧ c ≤ 1000000000) (hg : -c ≤ gt S.cash n ∧ gt S.cash n ≤ c) (hi : -c ≤ S.inc ∧ S.inc ≤ c) (hk : 0 ≤ k ∧ k ≤ 1000000) : FCalls Tryz.prog N_tokens_fair_cash #[.pointer (some ⟨W.b, 0, none⟩), .int .i64 n, .int .i64 k] σ fun _ σ' => FairR W F σ0 σ' { S with cash := S.cash.set n.toNat (gt S.cash n + k), inc := S.inc + k } := by
  refine M_tokens_fair_cash_ok _ _ _ _ _ ?_
  unfold M_tokens_fair_cash
  refine dr_i (bldS h.blk rfl (gixg h.rd.2.1 h0 h1 (wk_i (by omega) (h.stC h0 h1 fun τ h2 => ?_))))
  refine dr_i (bldI h2.blk rfl (wk_i (by show _ ≤ S.inc + k ∧ S.inc + k ≤ _; omega) (dr_i (h2.stB (k := 19) (by omega) (S' := { S with cash := S.cash.set n.toNat (gt S.cash n + k), inc := S.inc + k }) rfl rfl rfl rfl rfl fun τ h3 => rt_of h3))))
theorem ct_possible (h : FairR W F σ0 σ S) {c : Int} (hB : S.B F c) (hF : FOK F) {d : Dl} (hd : posD F S d) : FCalls Tryz.prog N_tokens_fair_possible #[.pointer (some ⟨W.b, 0, none⟩), .agg #[.int .i64 d.1, .int .i64 d.2.1, .int .i64 d.2.2.1, .int .i64 d.2.2.2.1, .int .i64 d.2.2.2.2]] σ fun v σ' => v = .bool true ∧ σ' = σ := by
  refine M_tokens_fair_possible_ok _ _ _ _ _ _ _ _ ?_
  unfold M_tokens_fair_possible
  have hls := hB.ls
  have hFs := hF.sl
  obtain ⟨⟨l0, l1⟩, hd⟩ := hd
  refine cut_intro fun J3 h3 => ?_
  have k3 : J3 σ := by
    rw [h3]
    intro _
    rcases hd with ⟨k1, ⟨a0, a1⟩, ⟨b0, b1⟩, ⟨n0, n1⟩, hs⟩ | ⟨k2, ⟨a0, a1⟩, ⟨b0, b1⟩, ⟨n0, n1⟩, hs⟩
    · refine bc_d (fun _ => ?_) (fun hh => absurd k1 hh)
      have hbn : W.F.b.n = F.bundles.length := h.fai.b.1
      have hbl := hF.bl
      refine lt_till h (by omega) ⟨a0, a1⟩ ?_
      refine bc_t (lt_purse h hB.lp ⟨hF.p.1, by have := hF.p.2; omega⟩ ⟨b0, b1⟩ ?_)
      refine bc_t (dr_i (bldS h.blk rfl (wk_i (by omega) (lt_in ?_))))
      rw [decide_eq_true (by omega)]
      refine bc_t <| dr_i (bldS h.blk rfl (gixg h.rd.1 a0 a1 (dr_i (bldS h.blk rfl ?_))))
      obtain ⟨i, hi⟩ := Int.eq_ofNat_of_zero_le n0
      have hil : i < F.bundles.length := by omega
      rw [hi]
      refine pix2 h.fai.b hil fun b o c0 _ => ldI_of c0 (rt_of ⟨?_, rfl⟩)
      have e : (bu F d.2.2.2.2).1 = F.bundles[i].1 := by rw [hi]; unfold bu; simp [List.getD, hil]
      rw [e] at hs
      rw [decide_eq_true hs]
    · refine bc_d (fun hh => absurd (k2.symm.trans hh) (by decide)) (fun _ => bc_d (fun _ => ?_) (fun hh => absurd k2 hh))
      refine lt_purse h hB.lp ⟨hF.p.1, by have := hF.p.2; omega⟩ ⟨a0, a1⟩ ?_
      refine bc_t (lt_box h hB.lb ⟨hF.x.1, by have := hF.x.2; omega⟩ ⟨b0, b1⟩ ?_)
      refine bc_t (lt_in ?_)
      rw [decide_eq_true (by omega)]
      refine bc_t (lt_band h a0 a1 (Int.le_trans hB.l.1 l0) ?_)
      refine bc_f (dr_i (bldS h.blk rfl (h.pix a0 a1 fun b o c0 _ => ldI_of c0 (rt_of ⟨?_, rfl⟩))))
      rw [decide_eq_true hs]
  have hn : ¬ 100000 < d.2.2.2.2 := by
    rcases hd with ⟨_, _, _, ⟨n0, n1⟩, _⟩ | ⟨_, _, _, ⟨n0, n1⟩, _⟩
    · have := hF.bl; omega
    · omega
  refine cut_intro fun J86 h86 => ?_
  have k86 : J86 false σ := by
    rw [h86]
    intro _
    exact k3
  refine dr_i (bldI h.blk rfl (lt_in ?_))
  rw [decide_eq_true ⟨l0, l1⟩, decide_eq_false hn]
  exact k86
theorem ct_happen (h : FairR W F σ0 σ S) {c : Int} (hB : S.B F c) (hc : c ≤ 1000000000) (hF : FOK F) {d : Dl} (hd : posD F S d) : FCalls Tryz.prog N_tokens_fair_happen #[.pointer (some ⟨W.b, 0, none⟩), .agg #[.int .i64 d.1, .int .i64 d.2.1, .int .i64 d.2.2.1, .int .i64 d.2.2.2.1, .int .i64 d.2.2.2.2]] σ fun _ σ' => FairR W F σ0 σ' (stepD F S d) := by
  refine M_tokens_fair_happen_ok _ _ _ _ _ _ _ _ ?_
  unfold M_tokens_fair_happen
  obtain ⟨⟨l0, l1⟩, hd⟩ := hd
  have hso := hB.so
  have hta := hB.ta
  have hin := hB.inc
  refine dr_i (h.stB (k := 13) (by omega) (S' := { S with last := d.1 }) rfl rfl rfl rfl rfl fun σ3 h3 => ?_)
  rcases hd with ⟨k1, ⟨a0, a1⟩, ⟨b0, b1⟩, ⟨n0, n1⟩, hs⟩ | ⟨k2, ⟨a0, a1⟩, ⟨b0, b1⟩, ⟨n0, n1⟩, hs⟩
  · have hst : stepD F S d = { S with last := d.1, stock := S.stock.set d.2.2.1.toNat (gt S.stock d.2.2.1 - (bu F d.2.2.2.2).1), purses := S.purses.set d.2.2.2.1.toNat (gt S.purses d.2.2.2.1 + (bu F d.2.2.2.2).1), sold := S.sold + (bu F d.2.2.2.2).1, cash := S.cash.set d.2.2.1.toNat (gt S.cash d.2.2.1 + (bu F d.2.2.2.2).2), inc := S.inc + (bu F d.2.2.2.2).2 } := by unfold stepD; rw [if_pos k1]
    rw [hst]
    have hac : d.2.2.1 < (S.cash.length : Int) := by rw [hB.lc, hF.cl, ← hB.ls]; exact a1
    have q1 := hB.s _ a0 a1
    have q2 := hB.p _ b0 b1
    have q3 := hB.ca _ a0 hac
    obtain ⟨t1, t2⟩ := hF.bu n0 n1
    refine bc_d (fun _ => ?_) (fun hh => absurd k1 hh)
    refine dr_i (bldS h3.blk rfl ?_)
    obtain ⟨i, hi⟩ := Int.eq_ofNat_of_zero_le n0
    have hil : i < F.bundles.length := by omega
    have e : bu F d.2.2.2.2 = F.bundles[i] := by rw [hi]; unfold bu; simp [List.getD, hil]
    rw [hi, ← hi]
    rw [e] at t1 t2 ⊢
    have hpx := @pix2 σ3 W.F.b.A W.F.b.n F.bundles
    have hix : ∀ K : Nat → Nat → Prop, (∀ b o, σ3.cell? ⟨b, o, none⟩ = some (.int .i64 F.bundles[i].1) → σ3.cell? ⟨b, o + 1, none⟩ = some (.int .i64 F.bundles[i].2) → K b o) → ix W.F.b.A W.F.b.n d.2.2.2.2 2 K := fun K hK => by
      rw [hi]
      exact hpx h3.fai.b hil hK
    clear hpx
    refine hix _ fun b o c0 c1 => ldI_of c0 (ldI_of c1 ?_)
    generalize F.bundles[i] = u at *
    refine dr_i (bldS h3.blk rfl (gixg h3.rd.1 a0 a1 (wk_i (by show _ ≤ gt S.stock _ - _ ∧ gt S.stock _ - _ ≤ _; omega) (h3.stS a0 a1 fun σ20 h20 => ?_))))
    refine dr_i (bldS h20.blk rfl (h20.pix b0 b1 fun b o c0 c1 => ldI_of c0 (wk_i (by show _ ≤ gt S.purses _ + _ ∧ gt S.purses _ + _ ≤ _; omega) (h20.stP b0 b1 fun σ30 h30 => ?_))))
    refine dr_i (bldI h30.blk rfl (wk_i (by show _ ≤ S.sold + _ ∧ S.sold + _ ≤ _; omega) (dr_i (h30.stB (k := 14) (by omega) (S' := { S with last := d.1, stock := S.stock.set d.2.2.1.toNat (gt S.stock d.2.2.1 - u.1), purses := S.purses.set d.2.2.2.1.toNat (gt S.purses d.2.2.2.1 + u.1), sold := S.sold + u.1 }) rfl rfl rfl rfl rfl fun σ37 h37 => ?_))))
    refine cl_of M_tokens_fair_cash_enter (ct_cash h37 (c := 1000000000) a0 hac (by omega) (by show _ ≤ gt S.cash _ ∧ gt S.cash _ ≤ _; omega) (by show _ ≤ S.inc ∧ S.inc ≤ _; omega) (by omega)) ?_
    intro v σ' h39
    exact rt_of h39
  · have hst : stepD F S d = { S with last := d.1, purses := S.purses.set d.2.2.1.toNat (gt S.purses d.2.2.1 - d.2.2.2.2), boxes := S.boxes.set d.2.2.2.1.toNat (gt S.boxes d.2.2.2.1 + d.2.2.2.2), taken := S.taken + d.2.2.2.2 } := by unfold stepD; rw [if_neg (by omega)]
    rw [hst]
    have q1 := hB.p _ a0 a1
    have q2 := hB.b _ b0 b1
    refine bc_d (fun hh => absurd (k2.symm.trans hh) (by decide)) (fun _ => bc_d (fun _ => ?_) (fun hh => absurd k2 hh))
    refine lt_band h3 a0 a1 (Int.le_trans hB.l.1 l0) ?_
    refine bc_f <| dr_i (bldS h3.blk rfl (h3.pix a0 a1 fun b o c0 c1 => ldI_of c0 (wk_i (by show _ ≤ gt S.purses _ - _ ∧ gt S.purses _ - _ ≤ _; omega) (h3.stP a0 a1 fun σ52 h52 => ?_))))
    refine dr_i (bldS h52.blk rfl (gixg h52.rd.2.2.2 b0 b1 (wk_i (by show _ ≤ gt S.boxes _ + _ ∧ gt S.boxes _ + _ ≤ _; omega) (h52.stX b0 b1 fun σ62 h62 => ?_))))
    exact dr_i (bldI h62.blk rfl (wk_i (by show _ ≤ S.taken + _ ∧ S.taken + _ ≤ _; omega) (dr_i (h62.stB (k := 15) (by omega) (S' := { S with last := d.1, purses := S.purses.set d.2.2.1.toNat (gt S.purses d.2.2.1 - d.2.2.2.2), boxes := S.boxes.set d.2.2.2.1.toNat (gt S.boxes d.2.2.2.1 + d.2.2.2.2), taken := S.taken + d.2.2.2.2 }) rfl rfl rfl rfl rfl fun σ69 h69 => rt_of h69))))
end
end Go.Proofs.YtecodlefcmjihaaGreat
