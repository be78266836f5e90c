/- Trimmed by wip/trim.py to what this claim rests on. -/
import Derived.Test.YtecodlefcmjihaaGreatWTk7
namespace Go.Proofs.YtecodlefcmjihaaGreat
open Go.RowKit
section
variable {W : FaiW} {F : Fai} {σ0 σ : Hp} {S : Fno}
theorem ct_Clone {A : Option Addr} {n c : Nat} {xs : List Int} (h : RdS [.int .i64] σ A n xs) (hl : xs.length ≤ 4294967296) : FCalls Tryz.prog N_slices_Clone_int #[.slice A n c] σ fun v σ' => ∃ s : SL, v = s.v ∧ OwnSl 3 [.int .i64] σ s.A s.n s.c xs σ' := by
  refine M_slices_Clone_int_ok _ _ _ _ _ ?_
  unfold M_slices_Clone_int
  cases A with
  | none =>
    have e : xs = [] := by
      rcases h.2 with h' | ⟨b, off, c', el, f, rw, h', _⟩
      · exact List.length_eq_zero_iff.1 (h.1.symm.trans h')
      · cases h'
    subst e
    exact bc_t (rt_of ⟨⟨none, 0, 0⟩, rfl, OwnSl.nil ..⟩)
  | some a =>
    refine bc_f ⟨xs, h, roomy_i (by rw [List.length_nil, Nat.zero_add]; exact hl) ?_⟩
    intro A2 l2 c2 σ3 ho
    exact rt_of ⟨⟨A2, l2, c2⟩, rfl, ho⟩
theorem lt_Clone {A : Option Addr} {n c : Nat} {xs : List Int} {K : Option Addr → Nat → Nat → Hp → Prop} (h : RdS [.int .i64] σ A n xs) (hl : xs.length ≤ 4294967296) (hk : ∀ A n c τ, OwnSl 3 [.int .i64] σ A n c xs τ → K A n c τ) :
    cl Tryz.prog (.func (.func N_slices_Clone_int) #[] #[]) #[.slice A n c] σ fun v σ' => ∃ A : Option Addr, ∃ l : Nat, ∃ c : Nat, (v = .slice A l c ∧ (Hp.Sub σ σ' ∧ K A l c σ')) := by
  refine cl_of M_slices_Clone_int_enter (ct_Clone h hl) ?_
  rintro _ τ ⟨s, rfl, o⟩
  exact ⟨_, _, _, rfl, o.sub, hk _ _ _ _ o⟩
theorem ct_begin (hF : FaiR W σ F) (ok : FOK F) : FCalls Tryz.prog N_tokens_begin #[.agg (fcells W F)] σ fun v σ' => ∃ V : NoW, v = .pointer (some ⟨V.b, 0, none⟩) ∧ V.F = W ∧ FairR V F σ σ' (iniF F) := by
  refine M_tokens_begin_ok _ _ _ _ _ _ _ _ _ _ _ _ _ _ _ _ ?_
  unfold M_tokens_begin
  have h1 := ok.sl
  have h2 := ok.cl
  have h3 := ok.p
  have h4 := ok.x
  refine cut_intro fun J hJ => ?_
  have k3 : ∀ {A1 l1 c1 τ1 A2 l2 c2 τ2}, OwnSl 3 [.int .i64] σ A1 l1 c1 F.stock τ1 → OwnSl 3 [.int .i64] τ1 A2 l2 c2 F.cash τ2 →
      exl 63 [.int .i64, .int .i64] (List.replicate F.purses.toNat (0, 0) : List (Int × Int)) τ2 fun A3 l3 c3 τ3 => exl 3 [.int .i64] (List.replicate F.boxes.toNat 0 : List Int) τ3 fun A4 l4 c4 τ4 =>
      bx τ4 (.cells #[.slice A1 l1 c1, .slice A2 l2 c2, .slice A3 l3 c3, .slice A4 l4 c4, .int .i64 0] 52) fun b τ5 => J (some ⟨b, 0, none⟩) τ5 := by
    intro A1 l1 c1 τ1 A2 l2 c2 τ2 o1 o2 A3 l3 c3 τ3 o3 A4 l4 c4 τ4 o4 b nb
    rw [hJ]
    intro _
    have hb : (τ4.ins b (.cells #[.slice A1 l1 c1, .slice A2 l2 c2, .slice A3 l3 c3, .slice A4 l4 c4, .int .i64 0] 52)) b = some (.cells #[.slice A1 l1 c1, .slice A2 l2 c2, .slice A3 l3 c3, .slice A4 l4 c4, .int .i64 0] 52 (0, 0), true) := Hp.ins_same ..
    have hs5 : Hp.Sub τ4 (τ4.ins b (.cells #[.slice A1 l1 c1, .slice A2 l2 c2, .slice A3 l3 c3, .slice A4 l4 c4, .int .i64 0] 52)) := Hp.Sub.ins _ nb
    refine dr_i (bldS hb rfl (bldS hb rfl (bldS hb rfl (bldS hb rfl (bldI hb rfl ?_)))))
    generalize τ4.ins b (.cells #[.slice A1 l1 c1, .slice A2 l2 c2, .slice A3 l3 c3, .slice A4 l4 c4, .int .i64 0] 52) = τ5 at *
    intro b6 n6
    refine rt_of ⟨⟨b6, W, ⟨A1, l1, c1⟩, ⟨A2, l2, c2⟩, ⟨A3, l3, c3⟩, ⟨A4, l4, c4⟩⟩, rfl, rfl, ?_, hF⟩
    have e3 : (List.replicate F.purses.toNat (0, 0) : List (Int × Int)) = (iniF F).purses.map (fun n : Int => ((n, 0) : Int × Int)) := by
      show _ = (List.replicate F.purses.toNat 0).map _
      rw [List.map_replicate]
    rw [e3] at o3
    obtain ⟨τ6, q1, q2⟩ := Port.less (Port.blk (b := b6) (o := .cells (fairC ⟨b6, W, ⟨A1, l1, c1⟩, ⟨A2, l2, c2⟩, ⟨A3, l3, c3⟩, ⟨A4, l4, c4⟩⟩ F (iniF F)) 91 (0, 0))) ⟨n6, rfl⟩ hs5
    exact ⟨τ6, ⟨τ4, ⟨τ3, ⟨τ2, ⟨τ1, ⟨σ, rfl, o1⟩, o2⟩, o3⟩, o4⟩, q1⟩, q2⟩
  repeat' (first
    | exact k3 (by assumption) (by assumption)
    | (refine lt_Clone hF.s (by omega) ?_; intro A l c τ o)
    | (refine lt_Clone (hF.c.sub (OwnSl.sub (by assumption))) (by omega) ?_; intro A l c τ o)
    | exact Int.le_refl _
    | omega
    | apply And.intro)
end
end Go.Proofs.YtecodlefcmjihaaGreat
