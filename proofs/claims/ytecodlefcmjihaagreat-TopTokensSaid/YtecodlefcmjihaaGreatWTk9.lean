/- Trimmed by wip/trim.py to what this claim rests on. -/
import Derived.Test.YtecodlefcmjihaaGreatWTk8
namespace Go.Proofs.YtecodlefcmjihaaGreat
open Go.RowKit
section
variable {W : FaiW} {F : Fai} {σ0 σ : Hp} {S : Fno}
theorem pix5 {σ : Hp} {A : Option Addr} {n : Nat} {xs : List Dl} {K : Nat → Nat → Prop} (h : RdS s5 σ A n xs) {i : Nat} (hi : i < xs.length)
    (hk : ∀ b o, σ.cell? ⟨b, o, none⟩ = some (.int .i64 xs[i].1) → σ.cell? ⟨b, o + 1, none⟩ = some (.int .i64 xs[i].2.1) → σ.cell? ⟨b, o + 2, none⟩ = some (.int .i64 xs[i].2.2.1) → σ.cell? ⟨b, o + 3, none⟩ = some (.int .i64 xs[i].2.2.2.1) → σ.cell? ⟨b, o + 4, none⟩ = some (.int .i64 xs[i].2.2.2.2) → K b o) : ix A n i 5 K := by
  have hk' : ((i : Nat) : Int).toNat < (xs : List (TyR s5)).length := by rw [Int.toNat_natCast]; exact hi
  refine ix_of (ss := s5) h rfl (by omega) hk' fun b o hc => ?_
  exact hk b o (hc 0 (by show 0 < 5; omega)) (hc 1 (by show 1 < 5; omega)) (hc 2 (by show 2 < 5; omega)) (hc 3 (by show 3 < 5; omega)) (hc 4 (by show 4 < 5; omega))
theorem ct_quiet {p : Option Addr} : FCalls Tryz.prog N_tokens_quiet #[.pointer p] σ fun _ σ' => σ' = σ := by
  refine M_tokens_quiet_ok _ _ _ ?_
  unfold M_tokens_quiet
  exact rt_of rfl
theorem FairR.low {V : NoW} {σ1 : Hp} (h : FairR V F σ1 σ S) (hs : Hp.Sub σ0 σ1) (hF : FaiR V.F σ0 F) : FairR V F σ0 σ S := ⟨Lse.low fpieces_star h.m hs, hF⟩
set_option maxRecDepth 20000 in
theorem ct_play (hF : FaiR W σ F) (ok : FOK F) {l : SL} {D : List Dl} (hD : RdS s5 σ l.A l.n D) (hl : D.length ≤ 200) (hp : posAll F D) : FCalls Tryz.prog N_tokens_play #[.agg (fcells W F), l.v, .func (.func N_tokens_quiet) #[] #[]] σ fun v σ' => ∃ V : NoW, v = .tuple #[.pointer (some ⟨V.b, 0, none⟩), .int .i64 0, .int .i64 0] ∧ FairR V F σ σ' (runD F D) := by
  refine M_tokens_play_ok _ _ _ _ _ _ _ _ _ _ _ _ _ _ _ _ _ _ _ _ ?_
  unfold M_tokens_play
  have f1 := ok.sl
  have f2 := ok.cl
  have f3 := ok.bl
  have hln : l.n = D.length := hD.1
  have hck : FCalls Tryz.prog N_tokens_Check #[.agg (fcells W F)] σ fun v σ' => Hp.Sub σ σ' ∧ v = .int .i64 0 := by
    refine (ct_Check hF (by omega)).mono ?_
    rintro v σ' ⟨h1, h2⟩
    exact ⟨h1, h2.elim (fun h => h.1) fun h => absurd ok h.2⟩
  refine cl_of M_tokens_Check_enter hck ?_
  rintro _ σ2 ⟨hs2, rfl⟩
  refine ⟨_, rfl, bc_nd (fun h => absurd rfl h) (fun _ => bc_d (fun h => absurd h (by omega)) (fun _ => ?_))⟩
  refine cl_of M_tokens_begin_enter (ct_begin (hF.sub hs2) ok) ?_
  rintro _ σ5 ⟨V, rfl, hV, h5⟩
  have h5 := h5.low hs2 (by rw [hV]; exact hF)
  refine ⟨_, rfl, cut_intro fun J9 h9 => ?_⟩
  refine ⟨fun n p i τ => ∃ k : Nat, n = D.length - k ∧ p = some ⟨V.b, 0, none⟩ ∧ i = k ∧ k ≤ D.length ∧ FairR V F σ τ (runD F (D.take k)), ⟨_, 0, rfl, rfl, rfl, by omega, h5⟩, ?_⟩
  rintro n p i τ ⟨k, rfl, rfl, rfl, hk, h⟩ _
  refine bc_d (fun hlt => ?_) (fun hlt => ?_)
  · have hkl : k < D.length := by omega
    have hB := runD_B ok hp k hk
    have hd := hp k hkl
    have hr := runD_succ (F := F) hkl
    refine pix5 (hD.sub h.sub) hkl fun b o c0 c1 c2 c3 c4 => ldI_of c0 (ldI_of c1 (ldI_of c2 (ldI_of c3 (ldI_of c4 ?_))))
    refine clB M_tokens_fair_possible_enter (ct_possible h hB ok hd) (bc_nt ?_)
    refine cl_of M_tokens_fair_happen_enter (ct_happen h hB (by omega) ok hd) ?_
    intro _ τ2 h2
    rw [← hr] at h2
    refine cl_of M_tokens_quiet_enter ct_quiet ?_
    rintro _ _ rfl
    exact wk_i (by omega) (bk_of _ (by omega) ⟨k + 1, rfl, rfl, by omega, by omega, h2⟩)
  · have : k = D.length := by omega
    subst this
    rw [List.take_length] at h
    rw [h9]
    intro _
    exact rt_of ⟨V, rfl, h⟩
theorem ct_PlayF (hF : FaiR W σ F) (ok : FOK F) {l : SL} {D : List Dl} (hD : RdS s5 σ l.A l.n D) (hl : D.length ≤ 200) (hp : posAll F D) : FCalls Tryz.prog N_tokens_Play #[.agg (fcells W F), l.v] σ fun v σ' => ∃ V : NoW, v = .tuple #[.agg #[V.s.v, V.c.v, V.p.v, V.x.v, .int .i64 0], .int .i64 0] ∧ FairR V F σ σ' (runD F D) := by
  refine M_tokens_Play_ok _ _ _ _ _ _ _ _ _ _ _ _ _ _ _ _ _ _ _ ?_
  unfold M_tokens_Play
  refine cl_of M_tokens_play_enter (ct_play hF ok hD hl hp) ?_
  rintro _ σ2 ⟨V, rfl, h⟩
  refine ⟨_, _, _, rfl, bc_nd (fun h => absurd rfl h) (fun _ => dr_i ?_)⟩
  have hb := h.blk
  exact bldS hb rfl (bldS hb rfl (bldS hb rfl (bldS hb rfl (bldI hb rfl (rt_of ⟨V, rfl, h⟩)))))
theorem sumI_lsB {xs : List Int} {c : Int} (h : lsB xs c) : ∀ k : Nat, k ≤ xs.length → -(k * c) ≤ sumI (xs.take k) ∧ sumI (xs.take k) ≤ k * c
  | 0, _ => by simp [sumI]
  | k + 1, hk => by
    have ih := sumI_lsB h k (by omega)
    have h1 := h k (by omega) (by omega)
    rw [List.take_succ_eq_append_getElem (by omega), sumI_app, ← gt_nat (by omega)]
    have e : ((k + 1 : Nat) : Int) * c = k * c + c := by rw [Int.natCast_add, Int.add_mul]; simp
    rw [e]
    have e2 : sumI [gt xs k] = gt xs k := by simp [sumI]
    rw [e2]
    omega
set_option maxRecDepth 20000 in
theorem ct_Account (hF : FaiR W σ F) (ok : FOK F) {l : SL} {D : List Dl} (hD : RdS s5 σ l.A l.n D) (hl : D.length ≤ 200) (hp : posAll F D) : FCalls Tryz.prog N_tokens_Account #[.agg (fcells W F), l.v] σ fun v σ' => Hp.Sub σ σ' ∧ v = .tuple #[.agg #[.int .i64 (runD F D).sold, .int .i64 (runD F D).taken, .int .i64 0, .int .i64 (sumI (runD F D).purses), .int .i64 0, .int .i64 (runD F D).inc], .int .i64 0] := by
  refine M_tokens_Account_ok _ _ _ _ _ _ _ _ _ _ _ _ _ _ _ _ _ _ _ ?_
  unfold M_tokens_Account
  refine cl_of M_tokens_play_enter (ct_play hF ok hD hl hp) ?_
  rintro _ σ2 ⟨V, rfl, h⟩
  have hB := runD_B ok hp D.length (Nat.le_refl _)
  rw [List.take_length] at hB
  generalize hS : runD F D = S at *
  have hlp : S.purses.length ≤ 20 := by have := hB.lp; have := ok.p; omega
  refine ⟨_, _, _, rfl, bc_nd (fun h => absurd rfl h) (fun _ => cut_intro fun J8 h8 => ?_)⟩
  have k8 : ∀ τ, FairR V F σ τ { S with held := sumI S.purses } → J8 τ := by
    intro τ h
    rw [h8]
    intro _
    have hb := h.blk
    exact dr_i (bldI hb rfl (bldI hb rfl (bldI hb rfl (bldI hb rfl (bldI hb rfl (bldI hb rfl (rt_of ⟨h.sub, rfl⟩)))))))
  refine dr_i (bldS h.blk rfl ?_)
  have hn : V.p.n = S.purses.length := h.rd.2.2.1.1.trans (List.length_map ..)
  refine ⟨fun n i τ => ∃ k : Nat, n = S.purses.length - k ∧ i = k ∧ k ≤ S.purses.length ∧ FairR V F σ τ { S with held := sumI (S.purses.take k) }, ⟨_, 0, rfl, rfl, by omega, ?_⟩, ?_⟩
  · have e : ({ S with held := sumI (S.purses.take 0) } : Fno) = S := by
      have := hB.he
      cases S
      simp_all [sumI]
    rw [e]
    exact h
  rintro n i τ ⟨k, rfl, rfl, hk, hτ⟩ _
  refine bc_d (fun hlt => ?_) (fun hlt => ?_)
  · have hkl : k < S.purses.length := by omega
    have b1 := sumI_lsB hB.p (k + 1) (by omega)
    have e1 : sumI (S.purses.take (k + 1)) = sumI (S.purses.take k) + gt S.purses k := by
      rw [List.take_succ_eq_append_getElem hkl, sumI_app, gt_nat hkl]
      simp [sumI]
    have b2 : ((k + 1 : Nat) : Int) * (1000000 * ((D.length : Int) + 1)) ≤ 20 * 201000000 := Int.mul_le_mul (by omega) (by omega) (by omega) (by omega)
    have k0 : (k : Int) < (S.purses.length : Int) := by omega
    refine hτ.pix (i := (k : Int)) (by omega) k0 fun b o c0 c1 => ldI_of c0 (ldI_of c1 (dr_i (bldI hτ.blk rfl ?_)))
    show wk .i64 (sumI (S.purses.take k) + gt S.purses k) _
    rw [← e1]
    have w : -9223372036854775808 ≤ sumI (S.purses.take (k + 1)) ∧ sumI (S.purses.take (k + 1)) ≤ 9223372036854775807 := by omega
    refine wk_i w (dr_i (hτ.stB (k := 17) (by omega) (S' := { S with held := sumI (S.purses.take (k + 1)) }) rfl rfl rfl rfl rfl fun τ2 h2 => ?_))
    exact wk_i (by omega) (bk_of _ (by omega) ⟨k + 1, rfl, by omega, by omega, h2⟩)
  · have : k = S.purses.length := by omega
    subst this
    rw [List.take_length] at hτ
    exact k8 _ hτ
end
end Go.Proofs.YtecodlefcmjihaaGreat
