/- Trimmed by wip/trim.py to what this claim rests on. -/
import Derived.Test.YtkdjkkimngeloaaZKc2
import Derived.Test.YtkdjkkimngeloaaZVg2
namespace Go.Proofs.Ytkdjkkimngeloaa
open Go.RowKit Go.ChangeShapes Go.WideShapes Go.Deep Go.Joins
set_option maxRecDepth 100000 in
set_option maxHeartbeats 800000 in
theorem Qv {σ : Hp} {w : MW} {m : Mp} {A oA jA : Option Addr} {n c on oc jn jc : Nat} {ls : List LrT} {t g : Int} {os : List Int} {js : List (List Leg)} (h : MIn σ w m) (hl : RdS sL σ A n ls) (_ : n ≤ c) (ho : RdS [.int .i64] σ oA on os) (_ : Wc σ jA jn js) : Ag Try.prog Cr #[w.v, .slice A n c, .agg #[.int .i64 t, .int .i64 g, .slice oA on oc, .slice jA jn jc]] σ fun v _ => v = .bool true := by
  refine FT _ _ _ _ _ _ _ _ _ _ _ _ _ _ _ _ _ _ _ ?_
  unfold Cx
  have hn := hl.lenL
  have hon : on = os.length := ho.1
  refine Ad fun J3 h3 => ?_
  have k3 : ∀ b τ, Blk b (.cells #[.int .i64 t, .int .i64 g] 62 (0, 0)) σ τ → J3 (some ⟨b, 0, none⟩) oA on oc τ := by
    intro b τ hB
    rw [h3]
    clear h3 J3
    intro _
    have hτ : Hp.Sub σ τ := hB.sub
    have ht := h.up hτ
    have hlt := hl.sub hτ
    have hot := ho.sub hτ
    refine Ad fun J8 h8 => Ad fun J226 h226 => ?_
    have k226 : ∀ tt : Bool, (tt = false → L4 m ls = false ∧ os.length ≤ 12) → J226 tt τ := by
      intro tt htt
      rw [h226]
      clear h226
      intro _
      refine I2 (fun _ => NZ (Av rfl)) (fun et => ?_)
      obtain ⟨hf, ho12⟩ := htt et
      obtain ⟨hf, f1, f2, f3, _⟩ := Uv hf
      rw [h8]
      clear h8 J8
      intro _
      refine AV IW (Vo ht hf) ?_
      rintro v σ10 ⟨w1, s1, rfl, hc1, hc2⟩
      have hs10 : Hp.Sub τ σ10 := (Aj.sub hc1).trans (Aj.sub hc2)
      have hm1 : MIn σ10 w1 m := ⟨(Aj.rd hc1).sub (Aj.sub hc2), Aj.rd hc2⟩
      refine ⟨_, _, _, _, _, _, rfl, ?_⟩
      refine Ad fun J15 h15 => ?_
      have k15 : ∀ A1 n1 c1 e (P : List Int) σ', Hp.Sub σ10 σ' → RdS [.int .i64] σ' A1 n1 P → PV m (ls.map AJ) t g P e → J15 A1 n1 c1 e σ' := by
        intro A1 n1 c1 e P σ' hs hrP hp
        have hs' := hs10.trans hs
        rw [h15]
        clear h15 J15
        intro _
        refine AN (Ba (hs' _ _ hB.get) rfl (AN (Ba (hs' _ _ hB.get) rfl ?_)))
        refine AV Iq (T3 (t := t) (g := g) (ht.up hs') (by omega) (by omega) (hlt.sub hs')) ?_
        rintro v σ25 ⟨hs25, A2, n2, c2, e2, (P2 : List Int), rfl, hrP2, hp2⟩
        obtain ⟨rfl, rfl⟩ := hp.uniq hp2
        refine ⟨_, _, _, _, rfl, ?_⟩
        have hPl := hp.len
        rw [List.length_map] at hPl
        have h25 := hs'.trans hs25
        refine Ad fun J30 h30 => Ad fun J83 h83 => ?_
        refine clB Gv (QE (hrP.sub hs25) hrP2 (by omega)) ?_
        refine Bj (fun g => absurd rfl g) (fun _ => ?_)
        have e1 : (!decide (e = e)) = false := by simp
        rw [e1, h83]
        clear h83 J83
        intro _
        refine Dw ?_
        rw [h30]
        clear h30 J30
        intro _
        refine Ad fun J33 h33 => Ad fun J73 h73 => ?_
        have kt : J73 true σ25 := by
          rw [h73]
          intro _
          exact Ef (NZ (Av rfl))
        refine Bj (fun _ => kt) (fun ee => AK (fun _ => kt) (fun en => ?_))
        refine AV Jy (Wb (N := n) (hot.sub h25) (by omega) (by omega)) ?_
        rintro v σ79 ⟨tt, rfl, rfl, htt⟩
        refine ⟨_, rfl, ?_⟩
        cases tt with
        | false => exact kt
        | true =>
        obtain ⟨q1, q2, q3⟩ := htt rfl
        clear kt
        rw [h73]
        clear h73 J73
        intro _
        refine Dw ?_
        rw [h33]
        clear h33 J33
        intro _
        subst ee
        have hcase : cE m (ls.map AJ) t g = 0 ∧ ∃ js ar, D0 m (ls.map AJ) t js ar ∧ J0 ar g ls.length P := by
          rcases hp with ⟨c1, c2, _⟩ | ⟨c1, (⟨_, c2, _⟩ | ⟨_, js', ar, hf', ho'⟩)⟩
          · exact absurd c2.symm c1
          · cases c2
          · exact ⟨c1, js', ar, hf', by rw [List.length_map] at ho'; exact ho'⟩
        obtain ⟨hc0, js', ar, hfl, hord⟩ := hcase
        obtain ⟨e1, hg⟩ := O4 hc0
        obtain ⟨hm, hl8, hlo, htr⟩ := ML e1
        rw [List.length_map] at hl8
        obtain ⟨p1, p2⟩ := JR hord.mem
        have hosm : os ∈ EY ls.length ls.length [] := (Dl Cq).2 ⟨os, rfl, Pp q2 (fun x hx => Gu.2 ⟨by have := q3 x hx; omega, fun h => by cases h⟩) (by rw [← Cq]; omega)⟩
        have hle := hord.le hosm
        have q3' : ∀ x ∈ os, 0 ≤ x ∧ x < ls.length := fun x hx => by have := q3 x hx; omega
        refine AN (Ba (h25 _ _ hB.get) rfl (AN (Ba (h25 _ _ hB.get) rfl ?_)))
        refine AV DX (PF (hlt.sub h25) (hrP.sub hs25) p2 (by omega)) ?_
        rintro v σ41 ⟨A42, l42, c42, rfl, ho42⟩
        have hs41 : Hp.Sub _ σ41 := Aj.sub ho42
        have hsl : ((P.map (geL ls)) : List LrT).length = P.length := List.length_map _
        refine ⟨_, _, _, rfl, hs41, ?_⟩
        refine AV C5 (Lm (t := t) (g := g) (hm1.up (hs.trans (hs25.trans hs41))) (by omega) (by omega) (Aj.rd ho42) (Nat.le_trans (Nat.le_of_eq hsl) (by omega))) ?_
        rintro v σ44 ⟨hs44, A45, l45, c45, e45, (x : List Int), rfl, hrx, hpx⟩
        refine ⟨_, _, _, _, rfl, ?_⟩
        obtain ⟨rfl, hax⟩ := hpx.sort hc0 hfl p2 (by omega)
        have h44 := h25.trans (hs41.trans hs44)
        refine AN (Ba (h44 _ _ hB.get) rfl (AN (Ba (h44 _ _ hB.get) rfl ?_)))
        refine AV DX (PF (hlt.sub h44) (hot.sub h44) q3' (by omega)) ?_
        rintro v σ54 ⟨A55, l55, c55, rfl, ho55⟩
        have hs54 : Hp.Sub σ44 σ54 := Aj.sub ho55
        have hsl2 : ((os.map (geL ls)) : List LrT).length = os.length := List.length_map _
        refine ⟨_, _, _, rfl, hs54, ?_⟩
        refine AV C5 (Lm (t := t) (g := g) (hm1.up (hs.trans (hs25.trans (hs41.trans (hs44.trans hs54))))) (by omega) (by omega) (Aj.rd ho55) (Nat.le_trans (Nat.le_of_eq hsl2) (by omega))) ?_
        rintro v σ57 ⟨hs57, A58, l58, c58, e58, (y : List Int), rfl, hry, hpy⟩
        refine ⟨_, _, _, _, rfl, ?_⟩
        obtain ⟨rfl, hay⟩ := hpy.sort hc0 hfl q3' (by omega)
        have hxl : l45 = x.length := hrx.1
        have hyl : l58 = y.length := hry.1
        have hx1 := hax.1
        have hy1 := hay.1
        have har : ∀ z ∈ ar, (0 : Int) ≤ z := fun z hz => by
          obtain ⟨i, hi, rfl⟩ := List.mem_iff_getElem.1 hz
          have hal : ar.length = ls.length := by rw [hfl.2.1, List.length_map]
          have hjl : js'.length = ls.length := by rw [hfl.1, List.length_map]
          exact ((hfl.2.2 i (by rw [List.length_map]; omega) (by omega) hi).sml hm.ok (hlo _ (List.getElem_mem _))).1.1
        have hge : ∀ z, (0 : Int) ≤ z ∧ z < ls.length → 0 ≤ geI ar z := fun z hz => by
          have hal : ar.length = ls.length := by rw [hfl.2.1, List.length_map]
          rw [D6 (by omega)]
          exact har _ (List.getElem_mem _)
        have hlx := hax.last fun z hz => hge z (p2 z hz)
        have hly := hay.last fun z hz => hge z (q3' z hz)
        refine AK (fun _ => ?_) (fun g => absurd rfl g)
        refine AK (fun _ => ?_) (fun g => absurd rfl g)
        refine AK (fun _ => ?_) (fun g => absurd (by omega) g)
        refine AK (fun _ => ?_) (fun g => absurd (by omega) g)
        refine AL (by omega) ?_
        refine BP (hrx.sub (hs54.trans hs57)) (by omega) (show (((l45 : Nat) : Int) - 1).toNat < x.length by omega) ?_
        refine AL (by omega) ?_
        refine BP hry (by omega) (show (((l58 : Nat) : Int) - 1).toNat < y.length by omega) ?_
        have ex : x[(((l45 : Nat) : Int) - 1).toNat]'(by omega) = vO ar g P := by
          rw [← hlx]
          unfold lsA
          rw [Gz (by omega)]
          congr 1
          omega
        have ey : y[(((l58 : Nat) : Int) - 1).toNat]'(by omega) = vO ar g os := by
          rw [← hly]
          unfold lsA
          rw [Gz (by omega)]
          congr 1
          omega
        rw [ex, ey]
        exact AK (fun _ => NZ (Av rfl)) (fun g => absurd hle g)
      clear h15
      have kO : ∀ A104 l104 c104 σ105, Aj 27 sL σ10 A104 l104 c104 ls σ105 → cl Try.prog (.func (.func EI) #[] #[]) #[w1.v, .slice A104 l104 c104, .int .i64 t, .int .i64 g] σ105 fun v106 σ107 =>
          ∃ A108 : Option Addr, ∃ l108 : Nat, ∃ c108 : Nat, ∃ n109 : Int, (v106 = (.tuple #[(.slice A108 l108 c108), (.int .i64 n109)]) ∧ J15 A108 l108 c108 n109 σ107) := by
        intro A104 l104 c104 σ105 hown
        refine AV HI (Ts (t := t) (g := g) (hm1.up (Aj.sub hown)) (by omega) (by omega) (Aj.rd hown) (by omega)) ?_
        rintro v σ107 ⟨hs107, A6, n6, c6, e6, (P : List Int), rfl, hr6, hp6⟩
        exact ⟨_, _, _, _, rfl, k15 _ _ _ _ P _ ((Aj.sub hown).trans hs107) hr6 hp6⟩
      have hl10 := hlt.sub hs10
      have gT : ∀ {K : Int → Prop}, K t → ldI σ10 .i64 b 0 K := fun hk => Ba (hs10 _ _ hB.get) rfl hk
      have gG : ∀ {K : Int → Prop}, K g → ldI σ10 .i64 b (0 + 1) K := fun hk => Ba (hs10 _ _ hB.get) rfl hk
      have c1 : AY ls σ10 w1.pA w1.pn w1.pc w1.rA w1.rn w1.rc t g J15 := fun A104 l104 c104 σ105 hown => kO A104 l104 c104 σ105 hown
      have hY : ∀ {K : List LrT → Prop}, K ls → ∃ ys : List LrT, RdS sL σ10 A n ys ∧ AO (List.length ([] : List LrT) + List.length ys) (K ys) := fun hk => ⟨ls, hl10, Bb (by show 0 + ls.length ≤ _; omega) hk⟩
      have c2 : Bx σ10 A n b 0 w1.pA w1.pn w1.pc w1.rA w1.rn w1.rc t J15 := hY (gG c1)
      have c3 : BA σ10 A n b 0 w1.pA w1.pn w1.pc w1.rA w1.rn w1.rc g J15 := hY (gT c1)
      have c4 : B4 σ10 A n b 0 b 0 w1.pA w1.pn w1.pc w1.rA w1.rn w1.rc J15 := hY (gT (gG c1))
      have c5 : Bh σ10 A n w1.pA w1.pn w1.pc w1.rA w1.rn w1.rc t g J15 := hY c1
      refine AN (AN ⟨⟨c4, gT ⟨c2, gG (hY c1)⟩, gG ⟨c3, gT (hY c1)⟩⟩, c4, gT ⟨⟨c2, gG (hY c1)⟩, c2, gG ⟨c5, c5⟩⟩, gG ⟨⟨c3, gT (hY c1)⟩, c3, gT ⟨c5, c5⟩⟩⟩)
    refine clB Ix (UP ht hlt) (I2 (fun _ => k226 _ fun e => (by cases e)) (fun hf => ?_))
    refine k226 _ fun e => ⟨hf, ?_⟩
    have := of_decide_eq_false e
    omega
  exact ⟨fun b nb => k3 b _ ⟨nb, rfl⟩, fun b nb => k3 b _ ⟨nb, rfl⟩⟩
set_option maxRecDepth 100000 in
theorem Nh (os : Os) (started : os.Started) (H : Type) (enc : TypeId × Value → H) :
    ReturnsInHanded {} Try.checked os Cr .any (Rows.convoyOrdersSpec.pre6 enc Try.prog Try.f14 Rows.convoyOrdersRow.domain false) (Rows.convoyOrdersSpec.post enc Try.prog Try.f14 false true false false) := by
  refine returnsInHanded_of_change (C := Try.checked) Try.own started (by kernel_rfl) Try.func14
    (ChangeSpec.witness6 (enc := enc) (C := Try.checked) false ⟨#[], #[.agg #[.slice none 0 0, .slice none 0 0], .slice none 0 0, .agg #[.int .i64 0, .int .i64 0, .slice none 0 0, .slice none 0 0]], []⟩ 8 (by kernel_rfl) (by kernel_rfl) (by kernel_rfl) (by kernel_rfl)) ?_
  intro W base args ds gs before hval0 hW _ _
  have hval : ∀ (j : Nat) t v, Try.f14.params[j]? = some t → args[j]? = some v → Value.okWide Try.prog W .any base t v := hval0
  have hW' := hW
  obtain ⟨p, q, hA0, hV, rfl, hfz, hnd⟩ := hW
  have hA : DataW.TrodAll enc Try.prog W 0 (fun _ => true) true Try.f14.params.toList args.toList ds p := hA0
  have hA1 := hA
  rw [Try.params14] at hA hval
  obtain ⟨v0, v1, v2, d0, d1, d2, p0, p1, p2, rfl, rfl, rfl, h0, h1, h2⟩ := trodAll_three hA
  obtain ⟨rfl, rfl⟩ := trodVars_none hV
  obtain ⟨w, m, rfl, hm⟩ := Ua (hval 0 25 v0 rfl rfl) h0
  obtain ⟨lA, ln, lc, ls, rfl, hlc, hl⟩ := N9 (hval 1 29 v1 rfl rfl) h1
  obtain ⟨t, g, oA, on, oc, os, jA, jn, jc, js, rfl, hoc, ho, hj⟩ := Sw (hval 2 65 v2 rfl rfl) h2
  simp only [List.append_nil] at hW' hA1
  exact SM Try.laidOut (by kernel_rfl) rfl Try.underlying4 rfl rfl hW' hA1 (Qv hm hl hlc ho hj)
theorem convoyOrders_holds : Rows.ConvoyOrdersSaid :=
  OpenClaim.holds_of_wide Cr Try.f14 rfl rfl rfl rfl rfl rfl rfl ⟨rfl, rfl, rfl, rfl, rfl⟩ rfl rfl rfl rfl rfl (by kernel_rfl) Try.func14 (by kernel_rfl)
    (of_decide_eq_true (by kernel_rfl)) (by unfold Func.isWrapper; rw [if_neg (of_decide_eq_false (by kernel_rfl))]; exact ⟨rfl, rfl⟩)
    (fun os started H enc _ => Nh os started H enc)
end Go.Proofs.Ytkdjkkimngeloaa
