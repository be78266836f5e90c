/- Contracts of layer 7, reference: tick. -/
import Derived.Test.YtgcefaikdplbkaaRa5
namespace Go.Proofs.Ytgcefaikdplbkaa
open Go.RowKit

section
variable {W : PW} {σ0 σ : Hp} {S : Pl} {ws : Nat → SL} {c : Nat} {g : Int}
theorem l_fill {r : Int} (hS : PSt W σ0 S ws) (h : PlayR W σ0 σ S) (ok : S.Ok c) (hc : c ≤ 2900000) (r0 : 0 ≤ r) (r1 : r < S.B.length) {K : Value → Hp → Prop} (hk : ∀ σ', PlayR W σ0 σ' (fillR r (S.qu r) (S.bt r).seats S).1 → K (.bool (decide ((fillR r (S.qu r) (S.bt r).seats S).2 < (S.bt r).seats))) σ') :
    cl Try.prog (.func (.func N_ref07_play_fill) #[] #[]) #[.pointer (some ⟨W.pb, 0, none⟩), .int .i64 r] σ K :=
  cl_of M_ref07_play_fill_enter (c_fill hS h ok hc r0 r1) fun v σ' h => by obtain ⟨rfl, h⟩ := h; exact hk σ' h
theorem Pl.begin_on {r : Int} (h : S.goesOn r = true) : S.begin r = S := by unfold Pl.begin; rw [if_pos h]

set_option maxRecDepth 20000 in
theorem c_tick (hS : PSt W σ0 S ws) (h : PlayR W σ0 σ S) (ok : S.Ok c) (hc : c ≤ 2800000) :
    FCalls Try.prog N_ref07_play_tick #[.pointer (some ⟨W.pb, 0, none⟩)] σ fun v σ' => v = .tuple #[] ∧ PlayR W σ0 σ' S.tick := by
  refine M_ref07_play_tick_ok _ _ _ ?_
  unfold M_ref07_play_tick
  have hn := ok.v.n
  have hm := ok.v.m
  obtain ⟨ok2, sm2⟩ : (S.endK S.B.length).Ok c ∧ S.Sm (S.endK S.B.length) := ⟨ok.endK _, Pl.Sm.endK _ _⟩
  obtain ⟨ok5, sm5⟩ : S.end_.Ok c ∧ S.Sm S.end_ := ok.endF (Nat.le_refl _)
  obtain ⟨ok8, sm8⟩ : S.end_.come.Ok c ∧ S.Sm S.end_.come := let ⟨a, b⟩ := ok5.comeF (Nat.le_refl _); ⟨a, sm5.trans b⟩
  obtain ⟨ok11, sm11⟩ := ok.rest
  obtain ⟨ok14, sm14⟩ : (S.rest.begins S.B.length).Ok (c + 540) ∧ S.Sm (S.rest.begins S.B.length) := let ⟨a, b⟩ := ok11.beginF S.B.length (by rw [sm11.b]; omega); ⟨a.mono (by omega), sm11.trans b⟩
  have e5 : S.end_ = (ints S.G.length).foldl Pl.off1 (S.endK S.B.length) := rfl
  have e8 : S.end_.come = (ints S.G.length).foldl Pl.come1 S.end_ := by rw [Pl.come, sm5.g]
  have e11 : S.rest = (ints S.G.length).foldl Pl.quit1 S.end_.come := by rw [Pl.rest, Pl.leaves_eq, sm8.g]
  refine cut_intro fun J3 h3 => ?_
  have k3 : ∀ τ, PlayR W σ0 τ (S.endK S.B.length) → J3 τ := by
    intro σ2 hσ2
    rw [h3]
    intro _
    refine cut_intro fun J6 h6 => ?_
    have k6 : ∀ τ, PlayR W σ0 τ S.end_ → J6 τ := by
      intro σ5 hσ5
      rw [h6]
      intro _
      refine cut_intro fun J9 h9 => ?_
      have k9 : ∀ τ, PlayR W σ0 τ S.end_.come → J9 τ := by
        intro σ8 hσ8
        rw [h9]
        intro _
        refine cut_intro fun J12 h12 => ?_
        have k12 : ∀ τ, PlayR W σ0 τ S.rest → J12 τ := by
          intro σ11 hσ11
          rw [h12]
          intro _
          refine cut_intro fun J15 h15 => ?_
          have k15 : ∀ τ, PlayR W σ0 τ (S.rest.begins S.B.length) → J15 τ := by
            intro σ14 hσ14
            rw [h15]
            intro _
            show ∃ _, _
            have et : S.tick = (S.rest.begins S.B.length).lineK S.B.length := rfl
            rw [et]
            generalize S.rest.begins S.B.length = X at *
            refine ⟨fun m i τ => ∃ k : Nat, m = S.B.length - k ∧ i = k ∧ k ≤ S.B.length ∧ PlayR W σ0 τ (X.lineK k), ⟨_, 0, rfl, rfl, by omega, by rw [X.lineK_zero]; exact hσ14⟩, ?_⟩
            rintro m i τ ⟨k, rfl, rfl, hk, ht⟩ _
            obtain ⟨v, hb⟩ := ht.pblk
            have hT := (hS.sm sm14).sub ht.sub
            have hlr : W.f.n = S.B.length := by rw [hT.e.lenR, sm14.b]
            refine dr_i (bldS hb rfl (bc_d (fun hlt => ?_) (fun hlt => ?_)))
            · have hkl : k < S.B.length := by omega
              have hkx : ((k : Nat) : Int) < (X.B.length : Int) := by rw [sm14.b]; omega
              have hkli : k < X.lines.length := by rw [ok14.ll, sm14.b]; exact hkl
              have hkll : (k : Int) < ((X.lineK k).lines.length : Int) := by
                have : (X.lineK k).lines.length = X.lines.length := by simp [Pl.lineK]
                rw [this]; omega
              refine cut_intro fun J27 h27 => ?_
              have k27 : ∀ τ', PlayR W σ0 τ' (X.lineK (k + 1)) → J27 τ' := by
                intro τ' h'
                rw [h27]
                intro _
                exact wk_i (by omega) (bk_of _ (by omega) ⟨k + 1, rfl, by omega, by omega, h'⟩)
              refine cut_intro fun J33 h33 => ?_
              have k33 : J33 (X.guests1 k) τ := by
                rw [h33]
                intro _
                refine dr_i (bldS hb rfl (dr_i (bldS hb rfl (gixg ht.ird.2.2.2.1 (by omega) hkll ?_))))
                rw [X.lineK_lines hkli]
                refine ht.stLi (by omega) hkll fun τ' h' => k27 _ ?_
                rw [X.lineK_succ hkli]
                exact h'
              have hql := ok14.qlen (r := k) (by omega) hkx
              have hqs := ok14.qs k (by omega) hkx
              have hsz := ok14.sizes (r := k) (by omega) hkx
              have hrl : ((k : Nat) : Int).toNat < (X.lineK k).queues.length := by show _ < X.queues.length; rw [ok14.lq]; omega
              obtain ⟨b2, off, s, σ3, hqA, hqn, hcell, ho, _, _⟩ := ht.que hrl
              change W.q.n = X.queues.length at hqn
              change OwnSl 3 [.int .i64] σ3 s.A s.n s.c (X.qu k) τ at ho
              have hqi : (k : Int) < (W.q.n : Int) := by rw [hqn, ok14.lq]; exact hkx
              have hsn : s.n = (X.qu k).length := ho.len
              have k33 : J33 (sumI ((X.qu k).map fun g => (X.gr g).size)) τ := k33
              generalize X.qu k = Q at *
              refine ⟨fun m gu i τ2 => ∃ t : Nat, m = Q.length - t ∧ i = t ∧ t ≤ Q.length ∧ gu = sumI ((Q.take t).map fun g => (X.gr g).size) ∧ τ2 = τ, ⟨_, 0, rfl, rfl, by omega, rfl, rfl⟩, ?_⟩
              rintro m gu i τ2 ⟨t, rfl, rfl, ht2, rfl, rfl⟩ _
              refine dr_i (bldS hb rfl (ix_at hqA (by omega) hqi (ldS_of hcell (bc_d (fun hlt2 => ?_) (fun hlt2 => ?_)))))
              · have htl : t < Q.length := by omega
                have b1 := hsz t ht2
                have b2 := hsz (t + 1) htl
                have e2 : sumI ((Q.take (t + 1)).map fun g => (X.gr g).size) = sumI ((Q.take t).map fun g => (X.gr g).size) + (gd X.G Q[t]).size := by
                  rw [List.take_succ_eq_append_getElem htl, List.map_append, sumI_app]
                  simp [sumI]
                  rfl
                obtain ⟨g0, g1, _⟩ := hqs _ (List.getElem_mem htl)
                refine dr_i (bldS hb rfl (dr_i (bldS hb rfl (ix_at hqA (by omega) hqi (ldS_of hcell (gixg ho.rd (by omega) (by omega) ?_))))))
                rw [gt_nat htl]
                refine hT.e.gix g0 g1 fun b a _ d1 _ _ _ => ldI_of d1 (wk_i (by omega) (wk_i (by omega) (bk_of _ (by omega) ⟨t + 1, rfl, by omega, by omega, e2.symm, rfl⟩)))
              · have : t = Q.length := by omega
                subst this
                rw [List.take_length]
                exact k33
            · have : k = S.B.length := by omega
              subst this
              exact rt_of ⟨rfl, ht⟩
          generalize S.rest = T at *
          refine ⟨fun m i τ => ∃ k : Nat, m = S.B.length - k ∧ i = k ∧ k ≤ S.B.length ∧ PlayR W σ0 τ (T.begins k), ⟨_, 0, rfl, rfl, by omega, hσ11⟩, ?_⟩
          rintro m i τ ⟨k, rfl, rfl, hk, ht⟩ _
          obtain ⟨okY, smY⟩ := ok11.beginF k (by rw [sm11.b]; omega)
          have smY := sm11.trans smY
          have eY : T.begins (k + 1) = (T.begins k).begin k := Pl.begins_succ
          obtain ⟨v, hb⟩ := ht.pblk
          have hY := hS.sm smY
          have hT := hY.sub ht.sub
          have hlr : W.f.n = S.B.length := by rw [hT.e.lenR, smY.b]
          refine dr_i (bldS hb rfl (bc_d (fun hlt => ?_) (fun hlt => ?_)))
          · have hkl : k < S.B.length := by omega
            refine cut_intro fun J88 h88 => ?_
            have k88 : ∀ τ', PlayR W σ0 τ' (T.begins (k + 1)) → J88 τ' := by
              intro τ' h'
              rw [h88]
              intro _
              exact wk_i (by omega) (bk_of _ (by omega) ⟨k + 1, rfl, by omega, by omega, h'⟩)
            rw [eY] at k88
            generalize T.begins k = Y at *
            have hkx : ((k : Nat) : Int) < (Y.B.length : Int) := by rw [smY.b]; omega
            have hkb : ((k : Nat) : Int) < (Y.began.length : Int) := by rw [okY.lb]; exact hkx
            have hke : ((k : Nat) : Int) < (Y.ended.length : Int) := by rw [okY.le]; exact hkx
            have hnow := okY.nw
            have hen := okY.en k (by omega) hkx
            refine cut_intro fun J94 h94 => ?_
            have k94 : Y.goesOn k = false → J94 τ := by
              intro hg
              rw [h94]
              intro _
              refine l_fill hY ht okY (by omega) (by omega) hkx fun σ' h' => ⟨_, rfl, ?_⟩
              have hfo := FlOk.of okY (r := k) (by omega) hkx
              obtain ⟨f1, f2⟩ := fill_ok (Y.qu k) (Y.bt k).seats Y _ hfo
              have eb : Y.begin k = if (fillR k (Y.qu k) (Y.bt k).seats Y).2 < (Y.bt k).seats then (fillR k (Y.qu k) (Y.bt k).seats Y).1.setB k Y.now else (fillR k (Y.qu k) (Y.bt k).seats Y).1 := by
                unfold Pl.begin
                rw [if_neg (by simp [hg])]
              rw [eb] at k88
              generalize fillR k (Y.qu k) (Y.bt k).seats Y = F at *
              refine bc_d (fun hf => ?_) (fun hf => ?_)
              · rw [if_pos hf] at k88
                obtain ⟨v1, hb1⟩ := h'.pblk
                have hkf : ((k : Nat) : Int) < (F.1.began.length : Int) := by rw [f1.lb, f2.b]; exact hkx
                refine dr_i (bldS hb1 rfl (dr_i (bldI hb1 rfl (h'.stBe (by omega) hkf fun τ' h'' => k88 _ ?_))))
                rw [← f2.n]
                exact h''
              · rw [if_neg hf] at k88
                exact k88 _ h'
            refine cut_intro fun J109 h109 => ?_
            have k109 : J109 (Y.goesOn k) τ := by
              rw [h109]
              intro _
              refine bc_b (fun hg => ?_) (fun hg => ?_)
              · rw [Pl.begin_on hg] at k88
                exact k88 _ ht
              · exact k94 hg
            refine dr_i (bldS hb rfl (gixg ht.ird.1 (by omega) hkb (bc_d (fun h1 => ?_) (fun h1 => ?_))))
            · rw [Pl.goesOn, decide_eq_true h1, Bool.true_or] at k109
              exact k109
            · rw [Pl.goesOn, decide_eq_false h1, Bool.false_or] at k109
              refine dr_i (bldS hb rfl (gixg ht.ird.2.1 (by omega) hke (bc_d (fun h2 => ?_) (fun h2 => ?_))))
              · rw [decide_eq_true h2, Bool.true_and] at k109
                refine dr_i (bldI hb rfl (dr_i (bldS hb rfl (gixg ht.ird.2.1 (by omega) hke (wk_i (by omega) (dr_i (bldS hb rfl (hT.e.rix (by omega) hkx fun b4 a5 _ _ _ d3 _ => ldI_of d3 k109))))))))
              · rw [decide_eq_false h2, Bool.false_and] at k109
                exact k109
          · have : k = S.B.length := by omega
            subst this
            exact k15 _ ht
        generalize S.end_.come = T at *
        refine ⟨fun m i τ => ∃ k : Nat, m = S.G.length - k ∧ i = k ∧ k ≤ S.G.length ∧ PlayR W σ0 τ ((ints k).foldl Pl.quit1 T), ⟨_, 0, rfl, rfl, by omega, hσ8⟩, ?_⟩
        rintro m i τ ⟨k, rfl, rfl, hk, ht⟩ _
        obtain ⟨okY, smY⟩ := ok8.quitF (n := k) (by rw [sm8.g]; omega)
        have smY := sm8.trans smY
        have eY : (ints (k + 1)).foldl Pl.quit1 T = ((ints k).foldl Pl.quit1 T).quit1 k := fold_succ
        obtain ⟨v, hb⟩ := ht.pblk
        have hY := hS.sm smY
        have hT := hY.sub ht.sub
        have hlr : W.l.n = S.G.length := by rw [hT.e.lenL, smY.g]
        refine dr_i (bldS hb rfl (bc_d (fun hlt => ?_) (fun hlt => ?_)))
        · have hkl : k < S.G.length := by omega
          refine cut_intro fun J149 h149 => ?_
          have k149 : ∀ τ', PlayR W σ0 τ' ((ints (k + 1)).foldl Pl.quit1 T) → J149 τ' := by
            intro τ' h'
            rw [h149]
            intro _
            exact wk_i (by omega) (bk_of _ (by omega) ⟨k + 1, rfl, by omega, by omega, h'⟩)
          rw [eY] at k149
          generalize (ints k).foldl Pl.quit1 T = Y at *
          have hkx : ((k : Nat) : Int) < (Y.G.length : Int) := by rw [smY.g]; omega
          have hgl : ((k : Nat) : Int).toNat < Y.guests.length := by rw [okY.lg]; omega
          have hnow := okY.nw
          have hgs := okY.gs k (by omega) hkx
          have hsi := hgs.s
          refine dr_i (bldS hb rfl (ht.gix (by omega) hgl fun b o hA => ht.gI0 hA hgl rfl (ht.gI1 hA hgl rfl (ht.gI2 hA hgl rfl (ht.gI3 hA hgl rfl (cut_intro fun J164 h164 => ?_))))))
          have k164 : J164 (Y.quits k) τ := by
            rw [h164]
            intro _
            refine bc_b (fun hq => ?_) (fun hq => ?_)
            · have hq2 := hq
              unfold Pl.quits at hq2
              simp only [Bool.and_eq_true, decide_eq_true_eq] at hq2
              rw [Pl.quit1, if_pos hq] at k149
              exact l_leaveR hY ht okY (by omega) (by omega) hkx hq2.1 (fun e => by cases e) fun v σ' h' => k149 _ h'
            · rw [Pl.quit1, if_neg (by simp [hq])] at k149
              exact k149 _ ht
          refine bc_d (fun h2 => ?_) (fun h2 => ?_)
          · rw [Pl.quits, decide_eq_true h2, Bool.true_and] at k164
            exact dr_i (bldI hb rfl (wk_i (by omega) (dr_i (bldS hb rfl (hT.e.gix (by omega) hkx fun b4 a5 _ _ _ d4 _ => ldI_of d4 k164)))))
          · rw [Pl.quits, decide_eq_false h2, Bool.false_and] at k164
            exact k164
        · have : k = S.G.length := by omega
          subst this
          rw [← e11] at ht
          exact k12 _ ht
      generalize S.end_ = T at *
      refine ⟨fun m i τ => ∃ k : Nat, m = S.G.length - k ∧ i = k ∧ k ≤ S.G.length ∧ PlayR W σ0 τ ((ints k).foldl Pl.come1 T), ⟨_, 0, rfl, rfl, by omega, hσ5⟩, ?_⟩
      rintro m i τ ⟨k, rfl, rfl, hk, ht⟩ _
      obtain ⟨okY, smY⟩ := ok5.comeF (n := k) (by rw [sm5.g]; omega)
      have smY := sm5.trans smY
      have eY : (ints (k + 1)).foldl Pl.come1 T = ((ints k).foldl Pl.come1 T).come1 k := fold_succ
      obtain ⟨v, hb⟩ := ht.pblk
      have hY := hS.sm smY
      have hT := hY.sub ht.sub
      have hlr : W.l.n = S.G.length := by rw [hT.e.lenL, smY.g]
      refine dr_i (bldS hb rfl (bc_d (fun hlt => ?_) (fun hlt => ?_)))
      · have hkl : k < S.G.length := by omega
        refine cut_intro fun J188 h188 => ?_
        have k188 : ∀ τ', PlayR W σ0 τ' ((ints (k + 1)).foldl Pl.come1 T) → J188 τ' := by
          intro τ' h'
          rw [h188]
          intro _
          exact wk_i (by omega) (bk_of _ (by omega) ⟨k + 1, rfl, by omega, by omega, h'⟩)
        rw [eY] at k188
        generalize (ints k).foldl Pl.come1 T = Y at *
        have hkx : ((k : Nat) : Int) < (Y.G.length : Int) := by rw [smY.g]; omega
        have hgl : ((k : Nat) : Int).toNat < Y.guests.length := by rw [okY.lg]; omega
        have hnow := okY.nw
        have hgs := okY.gs k (by omega) hkx
        have hsi := hgs.s
        refine dr_i (bldS hb rfl (ht.gix (by omega) hgl fun b o hA => ht.gI0 hA hgl rfl (ht.gI1 hA hgl rfl (ht.gI2 hA hgl rfl (ht.gI3 hA hgl rfl (cut_intro fun J203 h203 => ?_))))))
        have k203 : J203 (Y.comeA k) τ := by
          rw [h203]
          intro _
          refine bc_b (fun hq => ?_) (fun hq => ?_)
          · have hq2 := hq
            unfold Pl.comeA at hq2
            simp only [Bool.and_eq_true, decide_eq_true_eq] at hq2
            rw [Pl.come1, if_pos hq] at k188
            exact l_on hY ht okY (by omega) hkx (okY.free (by omega)) (hgs.w2 (by omega)) fun v σ' h' => k188 _ h'
          · rw [Pl.come1, if_neg (by simp [hq])] at k188
            refine cut_intro fun J209 h209 => ?_
            have k209 : J209 (Y.comeB k) τ := by
              rw [h209]
              intro _
              refine bc_b (fun hq => ?_) (fun hq => ?_)
              · have hq2 := hq
                unfold Pl.comeB at hq2
                simp only [Bool.and_eq_true, decide_eq_true_eq] at hq2
                rw [if_pos hq] at k188
                exact l_stand hY ht okY (by omega) hkx (hgs.w3 (by omega)) (hgs.w2 (by omega)) fun v σ' h' => k188 _ h'
              · rw [if_neg (by simp [hq])] at k188
                exact k188 _ ht
            refine bc_d (fun h2 => ?_) (fun h2 => ?_)
            · rw [Pl.comeB, decide_eq_true h2, Bool.true_and] at k209
              exact dr_i (bldI hb rfl (wk_i (by omega) (dr_i (bldI hb rfl k209))))
            · rw [Pl.comeB, decide_eq_false h2, Bool.false_and] at k209
              exact k209
        refine bc_d (fun h2 => ?_) (fun h2 => ?_)
        · rw [Pl.comeA, decide_eq_true h2, Bool.true_and] at k203
          exact dr_i (bldS hb rfl (hT.e.gix (by omega) hkx fun b4 a5 d0 _ _ _ _ => ldI_of d0 (dr_i (bldI hb rfl k203))))
        · rw [Pl.comeA, decide_eq_false h2, Bool.false_and] at k203
          exact k203
      · have : k = S.G.length := by omega
        subst this
        rw [← e8] at ht
        exact k9 _ ht
    generalize S.endK S.B.length = T at *
    refine ⟨fun m i τ => ∃ k : Nat, m = S.G.length - k ∧ i = k ∧ k ≤ S.G.length ∧ PlayR W σ0 τ ((ints k).foldl Pl.off1 T), ⟨_, 0, rfl, rfl, by omega, hσ2⟩, ?_⟩
    rintro m i τ ⟨k, rfl, rfl, hk, ht⟩ _
    obtain ⟨okY, smY⟩ : ((ints k).foldl Pl.off1 T).Ok c ∧ T.Sm ((ints k).foldl Pl.off1 T) := by
      have := fold_ok (f := Pl.off1) (d := 0) ok2 k fun T' c' t1 t2 j hj => t1.off2 (by omega) (by rw [t2.g, sm2.g]; omega)
      simpa using this
    have smY := sm2.trans smY
    have eY : (ints (k + 1)).foldl Pl.off1 T = ((ints k).foldl Pl.off1 T).off1 k := fold_succ
    obtain ⟨v, hb⟩ := ht.pblk
    have hY := hS.sm smY
    have hT := hY.sub ht.sub
    have hlr : W.l.n = S.G.length := by rw [hT.e.lenL, smY.g]
    refine dr_i (bldS hb rfl (bc_d (fun hlt => ?_) (fun hlt => ?_)))
    · have hkl : k < S.G.length := by omega
      refine cut_intro fun J239 h239 => ?_
      have k239 : ∀ τ', PlayR W σ0 τ' ((ints (k + 1)).foldl Pl.off1 T) → J239 τ' := by
        intro τ' h'
        rw [h239]
        intro _
        exact wk_i (by omega) (bk_of _ (by omega) ⟨k + 1, rfl, by omega, by omega, h'⟩)
      rw [eY] at k239
      generalize (ints k).foldl Pl.off1 T = Y at *
      have hkx : ((k : Nat) : Int) < (Y.G.length : Int) := by rw [smY.g]; omega
      have hgl : ((k : Nat) : Int).toNat < Y.guests.length := by rw [okY.lg]; omega
      have hgs := okY.gs k (by omega) hkx
      refine dr_i (bldS hb rfl (ht.gix (by omega) hgl fun b o hA => ht.gI0 hA hgl rfl (ht.gI1 hA hgl rfl (ht.gI2 hA hgl rfl (ht.gI3 hA hgl rfl (cut_intro fun J254 h254 => ?_))))))
      have k254 : J254 (Y.off k) τ := by
        rw [h254]
        intro _
        refine bc_b (fun hq => ?_) (fun hq => ?_)
        · have hq2 := hq
          unfold Pl.off at hq2
          simp only [Bool.and_eq_true, decide_eq_true_eq] at hq2
          rw [Pl.off1, if_pos hq] at k239
          exact l_on hY ht okY (by omega) hkx (okY.free (by omega)) (hgs.w2 (by omega)) fun v σ' h' => k239 _ h'
        · rw [Pl.off1, if_neg (by simp [hq])] at k239
          exact k239 _ ht
      refine bc_d (fun h2 => ?_) (fun h2 => ?_)
      · have hw0 := hgs.w3 (by omega)
        have hw1 := hgs.w2 (by omega)
        obtain ⟨q0, q1⟩ := okY.want hw0 hw1
        rw [Pl.off, decide_eq_true h2, Bool.true_and] at k254
        exact dr_i (bldS hb rfl (dr_i (bldS hb rfl (hT.e.gix (by omega) hkx fun b4 a5 _ _ d3 _ hwt => ldS_of d3 (gixg hwt hw0 hw1 (gixg ht.ird.2.1 q0 (by rw [okY.le]; exact q1) (dr_i (bldI hb rfl k254))))))))
      · rw [Pl.off, decide_eq_false h2, Bool.false_and] at k254
        exact k254
    · have : k = S.G.length := by omega
      subst this
      rw [← e5] at ht
      exact k6 _ ht
  refine ⟨fun m i τ => ∃ k : Nat, m = S.B.length - k ∧ i = k ∧ k ≤ S.B.length ∧ PlayR W σ0 τ (S.endK k), ⟨_, 0, rfl, rfl, by omega, by rw [Pl.endK_zero]; exact h⟩, ?_⟩
  rintro m i τ ⟨k, rfl, rfl, hk, ht⟩ _
  obtain ⟨v, hb⟩ := ht.pblk
  have hT := hS.sub ht.sub
  have hlr : W.f.n = S.B.length := hT.e.lenR
  refine dr_i (bldS hb rfl (bc_d (fun hlt => ?_) (fun hlt => ?_)))
  · have hkl : k < S.B.length := by omega
    refine cut_intro fun J286 h286 => ?_
    have k286 : ∀ τ', PlayR W σ0 τ' (S.endK (k + 1)) → J286 τ' := by
      intro τ' h'
      rw [h286]
      intro _
      exact wk_i (by omega) (bk_of _ (by omega) ⟨k + 1, rfl, by omega, by omega, h'⟩)
    have hkx : ((k : Nat) : Int) < (S.B.length : Int) := by omega
    have hkbn : k < S.began.length := by rw [ok.lb]; exact hkl
    have hken : k < S.ended.length := by rw [ok.le]; exact hkl
    have hlb : (S.endK k).began.length = S.began.length := by simp [Pl.endK]
    have hle : (S.endK k).ended.length = S.ended.length := by simp [Pl.endK]
    have hkb : ((k : Nat) : Int) < ((S.endK k).began.length : Int) := by rw [hlb]; omega
    have hke : ((k : Nat) : Int) < ((S.endK k).ended.length : Int) := by rw [hle]; omega
    have hbe := ok.be k (by omega) hkx
    have hnow := ok.nw
    refine cut_intro fun J292 h292 => ?_
    have k292 : S.ends k = true → J292 τ := by
      intro he
      rw [h292]
      intro _
      refine dr_i (bldS hb rfl (ht.stBe (by omega) hkb fun τ1 h1 => ?_))
      obtain ⟨v1, hb1⟩ := h1.pblk
      refine dr_i (bldS hb1 rfl (dr_i (bldI hb1 rfl (h1.stEn (by omega) hke fun τ2 h2 => k286 _ ?_))))
      rw [S.endK_yes he hkbn hken]
      exact h2
    refine cut_intro fun J310 h310 => ?_
    have k310 : J310 (!S.ends k) τ := by
      rw [h310]
      intro _
      refine bc_b (fun he => ?_) (fun he => ?_)
      · have he : S.ends k = false := by simpa using he
        rw [S.endK_no he] at k286
        exact k286 _ ht
      · exact k292 (by simpa using he)
    refine dr_i (bldS hb rfl (gixg ht.ird.1 (by omega) hkb ?_))
    rw [S.endK_began hkbn]
    refine bc_d (fun h1 => ?_) (fun h1 => ?_)
    · rw [Pl.ends, decide_eq_false (show ¬ 0 ≤ gt S.began k by omega), Bool.false_and] at k310
      exact k310
    · rw [Pl.ends, decide_eq_true (show 0 ≤ gt S.began k by omega), Bool.true_and] at k310
      refine dr_i (bldI hb rfl (dr_i (bldS hb rfl (gixg ht.ird.1 (by omega) hkb ?_))))
      rw [S.endK_began hkbn]
      exact wk_i (by show _ ≤ S.now - _ ∧ S.now - _ ≤ _; omega) (dr_i (bldS hb rfl (hT.e.rix (by omega) hkx fun b4 a5 _ _ d2 _ _ => ldI_of d2 k310)))
  · have : k = S.B.length := by omega
    subst this
    exact k3 _ ht
end
end Go.Proofs.Ytgcefaikdplbkaa
