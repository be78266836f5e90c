/- Trimmed by wip/trim.py to what this claim rests on. -/
import Derived.Test.YtkdjkkimngeloaaXKc2
import Derived.Test.YtkdjkkimngeloaaXVe5
namespace Go.Proofs.Ytkdjkkimngeloaa
open Go.RowKit Go.ChangeShapes Go.WideShapes Go.Deep Go.Joins
set_option maxRecDepth 100000 in
set_option maxHeartbeats 800000 in
theorem MP {σ : Hp} {w : MW} {m : Mp} {A oA jA : Option Addr} {n c on oc jn jc : Nat} {ls : List LrT} {t g : Int} {os : List Int} {js : List (List Leg)} (h : MIn σ w m) (hl : RdS sL σ A n ls) (_ : n ≤ c) (_ : RdS [.int .i64] σ oA on os) (hj : Hw σ jA jn js) : Ag Try.prog B2 #[w.v, .slice A n c, .agg #[.int .i64 t, .int .i64 g, .slice oA on oc, .slice jA jn jc]] σ fun v _ => v = .bool true := by
  refine EJ _ _ _ _ _ _ _ _ _ _ _ _ _ _ _ _ _ _ _ ?_
  unfold B5
  have hn := hl.lenL
  have hjn := hj.len
  refine Ah fun J3 h3 => ?_
  have k3 : ∀ b τ, Blk b (.cells #[.int .i64 t, .int .i64 g] 62 (0, 0)) σ τ → J3 (some ⟨b, 0, none⟩) jA jn jc τ := by
    intro b τ hB
    rw [h3]
    clear h3 J3
    intro _
    have hτ : Hp.Sub σ τ := hB.sub
    have ht := h.up hτ
    have hlt := hl.sub hτ
    have hjt := hj.up hτ
    refine Ah fun J8 h8 => Ah fun J452 h452 => ?_
    have k452 : ∀ tt : Bool, (tt = false → N0 m = false ∧ ls.length ≤ 12 ∧ js.length ≤ 12) → J452 tt τ := by
      intro tt htt
      rw [h452]
      clear h452
      intro _
      refine Hv (fun _ => LG (Aw rfl)) (fun et => ?_)
      obtain ⟨hf, hl12, hj12⟩ := htt et
      obtain ⟨f1, f2⟩ := Od hf
      rw [h8]
      clear h8 J8
      intro _
      refine Ah fun J11 h11 => ?_
      have k11 : (∀ j ∈ js, j.length ≤ 80) → J11 τ := by
        intro hj80
        have hj32 : ∀ j ∈ js, j.length ≤ 4294967296 := fun j hj => by have := hj80 j hj; omega
        rw [h11]
        clear h11 J11
        intro _
        refine Ah fun J14 h14 => ?_
        have kC : ∀ σ', Hp.Sub τ σ' → J14 (cnv m (ls.map AN) t g js).1 (cnv m (ls.map AN) t g js).2 σ' := by
          intro σ' hs
          rw [h14]
          intro _
          refine AL (AZ (hs _ _ hB.get) rfl (AL (AZ (hs _ _ hB.get) rfl ?_)))
          refine BN Ea (JU (t := t) (g := g) (ht.up hs) (by omega) (by omega) (hlt.sub hs) (hjt.up hs) hj32) ?_
          rintro v σ24 ⟨rfl, rfl⟩
          refine ⟨_, _, rfl, ?_⟩
          exact Bm (fun _ => Bm (fun _ => LG (Aw rfl)) (fun h => absurd rfl h)) (fun h => absurd rfl h)
        clear h14
        have k2 : ∀ (w1 : MW) A43 n43 c43 σ35 σ42, Hp.Sub τ σ35 → MIn σ35 w1 m → Hp.Sub σ35 σ42 → Hw σ42 A43 n43 js → AC σ35 σ42 ls w1.pA w1.pn w1.pc w1.rA w1.rn w1.rc t g A43 n43 c43 J14 := by
          intro w1 A43 n43 c43 σ35 σ42 hs1 h1 hs2 hj2
          refine ⟨hs2, fun A44 l44 c44 σ45 ho => ?_⟩
          have hs3 : Hp.Sub σ42 σ45 := AB.sub ho
          refine BN DM (KS (t := t) (g := g) (ls := ls) (h1.up (hs2.trans hs3)) (by omega) (by omega) (AB.rd ho) (by omega) (hj2.up hs3) hj32) ?_
          rintro v σ47 ⟨rfl, rfl⟩
          exact ⟨_, _, rfl, kC _ (hs1.trans (hs2.trans hs3))⟩
        have kL : ∀ {σ35 : Hp} {K : Option Addr → Nat → Nat → Hp → Prop}, Hp.Sub τ σ35 → (∀ A n c σ42, Hp.Sub σ35 σ42 → Hw σ42 A n js → K A n c σ42) → cl Try.prog (.func (.func EQ) #[] #[]) #[.slice jA jn jc] σ35 fun v σ42 => ∃ A43 : Option Addr, ∃ l43 : Nat, ∃ c43 : Nat, (v = .slice A43 l43 c43 ∧ K A43 l43 c43 σ42) := by
          intro σ35 K hs hk
          refine BN Fb (Nr (hjt.up hs) (by omega) hj32) ?_
          rintro v σ42 ⟨A', n', c', rfl, hs2, hj2⟩
          exact ⟨_, _, _, rfl, hk _ _ _ _ hs2 hj2⟩
        have k1 : ∀ (w1 : MW) σ35, Hp.Sub τ σ35 → MIn σ35 w1 m → AR jA jn jc σ35 ls w1.pA w1.pn w1.pc w1.rA w1.rn w1.rc t g J14 := by
          intro w1 σ35 hs1 h1
          exact kL hs1 fun A n c σ42 hs2 hj2 => k2 w1 A n c σ35 σ42 hs1 h1 hs2 hj2
        have kY : ∀ {σ35 : Hp} {K : List LrT → Prop}, Hp.Sub τ σ35 → K ls → ∃ ys : List LrT, RdS sL σ35 A n ys ∧ BS (List.length ([] : List LrT) + List.length ys) (K ys) := fun hs hk => ⟨ls, hlt.sub hs, CE (by show 0 + ls.length ≤ _; omega) hk⟩
        have kT : ∀ {σ35 : Hp} {K : Int → Prop}, Hp.Sub τ σ35 → K t → ldI σ35 .i64 b 0 K := fun hs hk => AZ (hs _ _ hB.get) rfl hk
        have kG : ∀ {σ35 : Hp} {K : Int → Prop}, Hp.Sub τ σ35 → K g → ldI σ35 .i64 b (0 + 1) K := fun hs hk => AZ (hs _ _ hB.get) rfl hk
        have s0 := Hp.Sub.refl τ
        have k3 : ∀ (w1 : MW) σ35, Hp.Sub τ σ35 → MIn σ35 w1 m → Bf σ35 A n b 0 jA jn jc w1.pA w1.pn w1.pc w1.rA w1.rn w1.rc t J14 := fun w1 σ35 hs h1 =>
          ⟨kY hs (kG hs (kL hs fun A n c σ42 hs2 hj2 => k2 w1 A n c σ35 σ42 hs h1 hs2 hj2)), kG hs (kY hs (k1 w1 σ35 hs h1))⟩
        have k4 : ∀ (w1 : MW) σ35, Hp.Sub τ σ35 → MIn σ35 w1 m → Bi σ35 A n b 0 jA jn jc w1.pA w1.pn w1.pc w1.rA w1.rn w1.rc g J14 := fun w1 σ35 hs h1 =>
          ⟨kY hs (kT hs (kL hs fun A n c σ42 hs2 hj2 => k2 w1 A n c σ35 σ42 hs h1 hs2 hj2)), kT hs (kY hs (k1 w1 σ35 hs h1))⟩
        have kP5 : cl Try.prog (.func (.func FD) #[] #[]) #[w.v] τ fun v σ' => ∃ A9 : Option Addr, ∃ l9 : Nat, ∃ c9 : Nat, ∃ A10 : Option Addr, ∃ l10 : Nat, ∃ c10 : Nat, Bg v A9 l9 c9 A10 l10 c10 τ σ' A n jA jn jc t g J14 :=
          Hy ht hf fun w1 σ' hs h1 => kY hs (k1 w1 σ' hs h1)
        have k6 : BM w.pA w.pn w.pc w.rA w.rn w.rc τ A n b 0 jA jn jc t J14 := ⟨Hy ht hf fun w1 σ' hs h1 => k3 w1 σ' hs h1, kG s0 kP5⟩
        have k7 : BK w.pA w.pn w.pc w.rA w.rn w.rc τ A n b 0 jA jn jc g J14 := ⟨Hy ht hf fun w1 σ' hs h1 => k4 w1 σ' hs h1, kT s0 kP5⟩
        have k8 : AQ w.pA w.pn w.pc w.rA w.rn w.rc τ A n jA jn jc t g J14 := kP5
        have k2' : ∀ (w1 : MW) σ35, Hp.Sub τ σ35 → MIn σ35 w1 m → ∀ A n c σ42, Hp.Sub σ35 σ42 → Hw σ42 A n js → AC σ35 σ42 ls w1.pA w1.pn w1.pc w1.rA w1.rn w1.rc t g A n c J14 := fun w1 σ35 hs h1 A n c σ42 hs2 hj2 => k2 w1 A n c σ35 σ42 hs h1 hs2 hj2
        have kE : ∀ (w1 : MW) σ35, Hp.Sub τ σ35 → MIn σ35 w1 m → AR jA jn jc σ35 ls w1.pA w1.pn w1.pc w1.rA w1.rn w1.rc t g J14 := k1
        refine AL (AL ⟨?_, ⟨?_, kT s0 k6, kG s0 k7⟩, kT s0 ⟨?_, k6, kG s0 ⟨k8, k8⟩⟩, kG s0 ⟨?_, k7, kT s0 ⟨k8, k8⟩⟩⟩)
        · exact Hy ht hf fun w1 σ' hs h1 => ⟨kY hs (kT hs (kG hs (kL hs (k2' w1 σ' hs h1)))), kT hs ⟨kY hs (kG hs (kL hs (k2' w1 σ' hs h1))), kG hs (kY hs (kL hs (k2' w1 σ' hs h1)))⟩, kG hs ⟨kY hs (kT hs (kL hs (k2' w1 σ' hs h1))), kT hs (kY hs (kL hs (k2' w1 σ' hs h1)))⟩⟩
        · exact Hy ht hf fun w1 σ' hs h1 => ⟨kY hs (kT hs (kG hs (kE w1 σ' hs h1))), kT hs (k3 w1 σ' hs h1), kG hs (k4 w1 σ' hs h1)⟩
        · exact Hy ht hf fun w1 σ' hs h1 => k3 w1 σ' hs h1
        · exact Hy ht hf fun w1 σ' hs h1 => k4 w1 σ' hs h1
      refine ⟨fun q i τ' => ∃ k : Nat, q = js.length - k ∧ i = k ∧ k ≤ js.length ∧ τ' = τ ∧ ∀ z (_ : z < js.length), z < k → js[z].length ≤ 80, ⟨_, 0, rfl, rfl, Nat.zero_le _, rfl, fun z _ hz => absurd hz (Nat.not_lt_zero _)⟩, ?_⟩
      rintro q i τ' ⟨k, rfl, rfl, hk, rfl, hx⟩ _
      refine Bm (fun hlt2 => ?_) (fun hge => k11 fun j hj => ?_)
      · have hkl : k < js.length := by omega
        refine OD hjt (by omega) (by simpa using hkl) fun A1 n1 c1 hjk => ?_
        simp only [Int.toNat_natCast] at hjk
        have hn1 : n1 = js[k].length := hjk.1
        refine Bm (fun _ => LG (Aw rfl)) (fun g8 => AU (by omega) (Cf _ (by omega) ⟨k + 1, rfl, rfl, by omega, rfl, fun z hz hzk => ?_⟩))
        by_cases ez : z = k
        · subst ez; omega
        · exact hx z hz (by omega)
      · obtain ⟨z, hz, rfl⟩ := List.mem_iff_getElem.1 hj
        exact hx z hz (by omega)
    refine clB H9 (SB ht) (Hv (fun _ => k452 _ fun e => (by cases e)) (fun hf => ?_))
    refine Bm (fun _ => k452 _ fun e => (by cases e)) (fun g1 => k452 _ fun e => ⟨hf, by omega, ?_⟩)
    have := of_decide_eq_false e
    omega
  exact ⟨fun b nb => k3 b _ ⟨nb, rfl⟩, fun b nb => k3 b _ ⟨nb, rfl⟩⟩
set_option maxRecDepth 100000 in
theorem JO (os : Os) (started : os.Started) (H : Type) (enc : TypeId × Value → H) :
    ReturnsInHanded {} Try.checked os B2 .any (Rows.convoyConvoysSpec.pre6 enc Try.prog Try.f10 Rows.convoyConvoysRow.domain false) (Rows.convoyConvoysSpec.post enc Try.prog Try.f10 false true false false) := by
  refine returnsInHanded_of_change (C := Try.checked) Try.own started (by kernel_rfl) Try.func10
    (ChangeSpec.witness6 (enc := enc) (C := Try.checked) false ⟨#[], #[.agg #[.slice none 0 0, .slice none 0 0], .slice none 0 0, .agg #[.int .i64 0, .int .i64 0, .slice none 0 0, .slice none 0 0]], []⟩ 8 (by kernel_rfl) (by kernel_rfl) (by kernel_rfl) (by kernel_rfl)) ?_
  intro W base args ds gs before hval0 hW _ _
  have hval : ∀ (j : Nat) t v, Try.f10.params[j]? = some t → args[j]? = some v → Value.okWide Try.prog W .any base t v := hval0
  have hW' := hW
  obtain ⟨p, q, hA0, hV, rfl, hfz, hnd⟩ := hW
  have hA : DataW.TrodAll enc Try.prog W 0 (fun _ => true) true Try.f10.params.toList args.toList ds p := hA0
  have hA1 := hA
  rw [Try.params10] at hA hval
  obtain ⟨v0, v1, v2, d0, d1, d2, p0, p1, p2, rfl, rfl, rfl, h0, h1, h2⟩ := trodAll_three hA
  obtain ⟨rfl, rfl⟩ := trodVars_none hV
  obtain ⟨w, m, rfl, hm⟩ := Qr (hval 0 25 v0 rfl rfl) h0
  obtain ⟨lA, ln, lc, ls, rfl, hlc, hl⟩ := Ly (hval 1 29 v1 rfl rfl) h1
  obtain ⟨t, g, oA, on, oc, os, jA, jn, jc, js, rfl, hoc, ho, hj⟩ := Pd (hval 2 65 v2 rfl rfl) h2
  simp only [List.append_nil] at hW' hA1
  exact PH Try.laidOut (by kernel_rfl) rfl Try.underlying4 rfl rfl hW' hA1 (MP hm hl hlc ho hj)
theorem convoyConvoys_holds : Rows.ConvoyConvoysSaid :=
  OpenClaim.holds_of_wide B2 Try.f10 rfl rfl rfl rfl rfl rfl rfl ⟨rfl, rfl, rfl, rfl, rfl⟩ rfl rfl rfl rfl rfl (by kernel_rfl) Try.func10 (by kernel_rfl)
    (of_decide_eq_true (by kernel_rfl)) (by unfold Func.isWrapper; rw [if_neg (of_decide_eq_false (by kernel_rfl))]; exact ⟨rfl, rfl⟩)
    (fun os started H enc _ => JO os started H enc)
end Go.Proofs.Ytkdjkkimngeloaa
