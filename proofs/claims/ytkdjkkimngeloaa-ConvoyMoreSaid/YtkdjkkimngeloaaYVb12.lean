/- Trimmed by wip/trim.py to what this claim rests on. -/
import Derived.Test.YtkdjkkimngeloaaYVb11
namespace Go.Proofs.Ytkdjkkimngeloaa
open Go.RowKit
def cB (out : List (Plc × Cst)) : Prop := ∀ p c, lkA out p = some c → cOK c
section
variable {σ : Hp}
abbrev ovO (b1 : Nat) : Obj := .cells #[.map (some b1)] 128 (0, 0)
abbrev qvO (b8 : Nat) : Obj := .cells #[hv b8] 160 (0, 0)
abbrev stO (x : Stp) : Obj := .cells #[.int .i64 x.1, .int .i64 x.2.1, .int .i64 x.2.2.1, .int .i64 x.2.2.2] 156 (0, 0)
def U0 (b1 b8 b21 b23 : Nat) : Rel := (Blk b21 (ovO b1)).seq (Blk b23 (qvO b8))
theorem Am.u0 {b1 b8 b21 b23 : Nat} : Am (U0 b1 b8 b21 b23) := Am.blk.seq Am.blk
theorem U0.g21 {b1 b8 b21 b23 : Nat} {σ' : Hp} (h : U0 b1 b8 b21 b23 σ σ') : σ' b21 = some (ovO b1, true) := by
  obtain ⟨s, h1, h2⟩ := h
  exact h2.sub _ _ h1.get
theorem U0.g23 {b1 b8 b21 b23 : Nat} {σ' : Hp} (h : U0 b1 b8 b21 b23 σ σ') : σ' b23 = some (qvO b8, true) := by
  obtain ⟨s, h1, h2⟩ := h
  exact h2.get
def U1 (b1 b8 b21 b23 c0 c1 b52 : Nat) (w : MW) (l : Lry) (x : Stp) : Rel := (((U0 b1 b8 b21 b23).seq (Blk c0 (atO w l))).seq (Blk c1 (plO (Stp.p x)))).seq (Blk b52 (stO x))
theorem Am.u1 {b1 b8 b21 b23 c0 c1 b52 : Nat} {w : MW} {l : Lry} {x : Stp} : Am (U1 b1 b8 b21 b23 c0 c1 b52 w l x) := ((Am.u0.seq Am.blk).seq Am.blk).seq Am.blk
theorem U1.get {b1 b8 b21 b23 c0 c1 b52 : Nat} {w : MW} {l : Lry} {x : Stp} {σ' : Hp} (h : U1 b1 b8 b21 b23 c0 c1 b52 w l x σ σ') : σ' b21 = some (ovO b1, true) ∧ σ' b23 = some (qvO b8, true) ∧ σ' c0 = some (atO w l, true) ∧ σ' c1 = some (plO (Stp.p x), true) ∧ σ' b52 = some (stO x, true) := by
  obtain ⟨s3, ⟨s2, ⟨s1, h1, h2⟩, h3⟩, h4⟩ := h
  have e := h3.sub.trans h4.sub
  have e' := h2.sub.trans e
  exact ⟨e' _ _ h1.g21, e' _ _ h1.g23, e _ _ h2.get, h4.sub _ _ h3.get, h4.get⟩
set_option maxRecDepth 100000 in
theorem MA {w : MW} {m : Mp} {l : Lry} (h : MIn σ w m) (hm : BH m) (hl : A0 m l) : Ad Try.prog FB #[atV w l] σ fun v σ' => ∃ b out, v = .map (some b) ∧ Blk b (mpo AG out) σ σ' ∧ Lst m l out ∧ cB out := by
  refine Eg _ _ _ _ _ _ _ _ _ _ _ _ _ _ ?_
  unfold BO
  intro b1 n1
  have e1 : Blk b1 (mpo AG []) σ (σ.ins b1 (.map #[] 0)) := ⟨n1, rfl⟩
  refine upC (E := []) (p := (l.fr, 0)) (c := (0, 0)) e1.get ?_
  have e2 : Blk b1 (mpo AG [((l.fr, 0), (0, 0))]) σ ((σ.ins b1 (.map #[] 0)).ins b1 (mpo AG (upA [] (l.fr, 0) (0, 0)))) := e1.upd
  generalize (σ.ins b1 (.map #[] 0)).ins b1 (mpo AG (upA [] (l.fr, 0) (0, 0))) = σ3 at e2 ⊢
  clear e1 n1
  intro b4 n4
  have e3 : Blk b4 (mpo GU []) σ3 (σ3.ins b4 (.map #[] 0)) := ⟨n4, rfl⟩
  generalize σ3.ins b4 (.map #[] 0) = σ5 at e3 ⊢
  intro A6 l6 c6 σ7 ho
  intro b8 n8
  have e4 : Stk b8 [(l.fr, 0, 0, 0)] σ5 (σ7.ins b8 (.cells #[.slice A6 l6 c6] 158 (0, 0))) := ⟨A6, l6, c6, σ7, ho, n8, rfl⟩
  generalize σ7.ins b8 (.cells #[.slice A6 l6 c6] 158 (0, 0)) = σ9 at e4 ⊢
  refine Ai fun J12 h12 => ?_
  refine ⟨fun q p25 p26 τ => ∃ (b21 b23 : Nat) (out : List (Plc × Cst)) (D : List (Plc × Int)) (xs : List Stp), p25 = some ⟨b21, 0, none⟩ ∧ p26 = some ⟨b23, 0, none⟩ ∧ q = und m l (D.map Prod.fst) * 61 + xs.length ∧ SI m l out D xs ∧ RU b1 b4 b8 out D xs (U0 b1 b8 b21 b23) σ τ, ⟨und m l (([] : List (Plc × Int)).map Prod.fst) * 61 + [((l.fr, 0, 0, 0) : Stp)].length, fun b21 n21 b23 n23 => ⟨b21, b23, _, [], [(l.fr, 0, 0, 0)], rfl, rfl, rfl, SI.init, σ9, ⟨_, _, e2, e3, e4⟩, _, ⟨n21, rfl⟩, n23, rfl⟩⟩, ?_⟩
  rintro q p25 p26 τ ⟨b21, b23, out, D, xs, rfl, rfl, rfl, hi, hr⟩ _
  have hU := Am.u0 (b1 := b1) (b8 := b8) (b21 := b21) (b23 := b23)
  have g21 : τ b21 = some (ovO b1, true) := by obtain ⟨s, _, h2⟩ := hr; exact h2.g21
  have g23 : τ b23 = some (qvO b8, true) := by obtain ⟨s, _, h2⟩ := hr; exact h2.g23
  have hdl := hi.dl hm hl
  have hql := hi.ql
  refine AM ⟨_, AI g23 rfl, hr.len hU ⟨_, rfl, Bn (fun h0 => ?_) (fun h0 => ?_)⟩⟩
  · have h0 : 0 < xs.length := by omega
    refine AM ⟨_, AI g23 rfl, ?_⟩
    refine Bp Dr (hr.call hU (Q := fun v ys => v = .iface 156 (stV (gs xs 0)) ∧ (gs xs 0 :: ys).Perm xs ∧ HO ys ys.length) fun s2 s hs => Ad.mono (Q3 hs (hi.cs hm hl) hi.ho h0 (by omega)) fun v s' ⟨a, ys, b, c, d⟩ => ⟨ys, ⟨a, b, c⟩, d⟩) ?_
    clear hr g21 g23 τ
    rintro v τ ⟨ys, ⟨rfl, hp, hy⟩, hr⟩
    refine ⟨_, rfl, Lt ⟨_, _, _, _, rfl, ?_⟩⟩
    have hdist : (lkA D (Stp.p (gs xs 0))).getD 0 = 1 ↔ Stp.p (gs xs 0) ∈ D.map Prod.fst := by
      cases hk : lkA D (Stp.p (gs xs 0)) with
      | none => simp only [Option.getD_none]; exact ⟨fun x => by omega, fun x => absurd x (IQ.1 hk)⟩
      | some v =>
        have h1 := Gy hk
        have h2 := hi.one _ h1
        simp only [Option.getD_some]
        exact ⟨fun _ => List.mem_map_of_mem (f := Prod.fst) h1, fun _ => h2⟩
    refine lkN (p := Stp.p (gs xs 0)) (hr.g4 hU) ⟨_, rfl, Bn (fun h1 => ?_) (fun h1 => ?_)⟩
    · have hlen := hp.length_eq
      simp only [List.length_cons] at hlen
      exact CN _ (by omega) ⟨b21, b23, out, D, ys, rfl, rfl, rfl, hi.skip hp hy (hdist.1 h1), hr⟩
    · obtain ⟨hj, hlt⟩ := hi.pop hm hl h0 hp hy (fun x => h1 (hdist.2 x))
      have hrc := (hi.dj.qs _ (GH.2 ⟨_, (by rw [C1 h0]; exact List.getElem_mem h0 : gs xs 0 ∈ xs), rfl⟩)).1
      obtain ⟨hpl1, hpl2, _⟩ := hrc.ok hm hl
      have hlen := hp.length_eq
      simp only [List.length_cons] at hlen
      generalize gs xs 0 = x at hj hlt hpl1 hpl2 hrc ⊢
      have hrc : Rc m l (Stp.p x) (Stp.c x) := hrc
      refine upN (p := Stp.p x) (c := 1) (hr.g4 hU) ?_
      have hr := hr.set4 hU (upA D (Stp.p x) 1)
      generalize τ.ins b4 (mpo GU (upA D (Stp.p x) 1)) = τ at hr ⊢
      refine Bp Bd (LL (w := w) (l := l) (p := Stp.p x)) ?_
      rintro v τ2 ⟨c0, c1, τ1, rfl, hb0, hb1⟩
      refine ⟨_, rfl, ?_⟩
      intro b52 n52
      have hr := ((hr.top hb0).top hb1).top (V := Blk b52 (stO x)) (τ' := τ2.ins b52 (stO x)) ⟨n52, rfl⟩
      have hr : RU b1 b4 b8 out (upA D (Stp.p x) 1) ys (U1 b1 b8 b21 b23 c0 c1 b52 w l x) σ (τ2.ins b52 (stO x)) := hr
      have hV := Am.u1 (b1 := b1) (b8 := b8) (b21 := b21) (b23 := b23) (c0 := c0) (c1 := c1) (b52 := b52) (w := w) (l := l) (x := x)
      intro lb Rec hlb hcall
      have hr := hr.top (V := Blk lb (Rec .ready none)) ⟨hlb, rfl⟩
      have hVl : ∀ st, Am ((U1 b1 b8 b21 b23 c0 c1 b52 w l x).seq (Blk lb (Rec st none))) := fun st => hV.seq Am.blk
      have getU : ∀ {st out D ys τ}, RU b1 b4 b8 out D ys ((U1 b1 b8 b21 b23 c0 c1 b52 w l x).seq (Blk lb (Rec st none))) σ τ → τ b21 = some (ovO b1, true) ∧ τ b23 = some (qvO b8, true) ∧ τ c0 = some (atO w l, true) ∧ τ c1 = some (plO (Stp.p x), true) ∧ τ b52 = some (stO x, true) ∧ τ lb = some (Rec st none, true) := by
        rintro st out D ys τ ⟨s, _, t, h1, h2⟩
        obtain ⟨a, b, c, d, e⟩ := h1.get
        exact ⟨h2.sub _ _ a, h2.sub _ _ b, h2.sub _ _ c, h2.sub _ _ d, h2.sub _ _ e, h2.get⟩
      have turn : ∀ {st st' out D ys τ}, RU b1 b4 b8 out D ys ((U1 b1 b8 b21 b23 c0 c1 b52 w l x).seq (Blk lb (Rec st none))) σ τ → RU b1 b4 b8 out D ys ((U1 b1 b8 b21 b23 c0 c1 b52 w l x).seq (Blk lb (Rec st' none))) σ (τ.ins lb (Rec st' none)) := by
        rintro st st' out D ys τ hh
        obtain ⟨t, h1, h2⟩ := hh.untop
        exact h1.top h2.upd
      refine LS.of AV (Ad.mono (IC (y := .func (.yield lb) #[] #[]) (b0 := c0) (b1 := c1) (w := w) (m := m) (l := l) (p := Stp.p x)
        (I := fun k τ => ∃ out zs, SJ m l (Stp.p x) (Stp.c x) ys.length k out (upA D (Stp.p x) 1) zs ∧ RU b1 b4 b8 out (upA D (Stp.p x) 1) zs ((U1 b1 b8 b21 b23 c0 c1 b52 w l x).seq (Blk lb (Rec .ready none))) σ τ)
        (Q := fun _ => False) hm hl hpl1 hpl2 (fun k τ ⟨out, zs, _, hr⟩ => ?_) (fun k hk τ ⟨out, zs, hj, hr⟩ => ?_) ⟨out, ys, hj, hr⟩) ?_)
      · obtain ⟨_, _, a, b, _, _⟩ := getU hr
        exact ⟨a, b, h.up (hr.sub (hVl _))⟩
      · obtain ⟨_, _, _, _, _, glb⟩ := getU hr
        refine hcall _ _ _ glb ⟨_, _, _, _, _, _, rfl, fun _ => ⟨glb, ?_⟩⟩
        have hr := turn (st' := .busy) hr
        generalize τ.ins lb (Rec .busy none) = τ at hr ⊢
        obtain ⟨g21, g23, _, _, g52, glb⟩ := getU hr
        have hP := hVl .busy
        have hcx := IK hm hl hrc (by have := hj.cb; show (Stp.c x).1 ≤ 1000 * ((upA D (Stp.p x) 1).length : Int); omega) (n := (upA D (Stp.p x) 1).length) (by
          have := hj.un
          have := GD hm hl
          omega)
        have hdl2 : (upA D (Stp.p x) 1).length ≤ 6012 := by
          have := hj.un
          have := GD hm hl
          omega
        obtain ⟨t1, t2, _⟩ := EQ hm hl (List.getElem_mem hk)
        have hco : cOK (cad (Stp.c x) (wys m l (Stp.p x))[k]) := by
          obtain ⟨⟨o1, o2⟩, o3, o4⟩ := hcx
          have hcb := hj.cb
          refine ⟨⟨?_, ?_⟩, ?_, ?_⟩
          · show 0 ≤ (Stp.c x).1 + _; omega
          · show (Stp.c x).1 + (wys m l (Stp.p x))[k].tk ≤ 1000000000; omega
          · show 0 ≤ (Stp.c x).2 + 1; omega
          · show (Stp.c x).2 + 1 ≤ 1000000000
            obtain ⟨_, _, a, b⟩ := hrc.ok hm hl
            omega
        have hco' := hco
        unfold cOK cad at hco'
        dsimp only at hco'
        refine A7 g52 rfl (Bx (by show _ ≤ (Stp.c x).1 + (wys m l (Stp.p x))[k].tk ∧ (Stp.c x).1 + (wys m l (Stp.p x))[k].tk ≤ _; omega) ?_)
        refine A7 g52 rfl (Bx (by show _ ≤ (Stp.c x).2 + 1 ∧ (Stp.c x).2 + 1 ≤ _; omega) ?_)
        refine AM ⟨_, AI g21 rfl, ?_⟩
        refine lkC (p := (wys m l (Stp.p x))[k].to) (hr.g1 hP) ⟨_, _, rfl, ?_⟩
        refine Ai fun J82 h82 => ?_
        have k82 : ∀ t, (t = true ↔ ∀ c', lkA out (wys m l (Stp.p x))[k].to = some c' → clt (cad (Stp.c x) (wys m l (Stp.p x))[k]) c') → J82 t τ := by
          intro t ht
          rw [h82]
          intro _
          refine Kw (fun et => ?_) (fun et => ?_)
          · have hlt := ht.1 et
            refine AM ⟨_, AI g21 rfl, ?_⟩
            refine upC (p := (wys m l (Stp.p x))[k].to) (c := cad (Stp.c x) (wys m l (Stp.p x))[k]) (hr.g1 hP) ?_
            have hr := hr.set1 hP (upA out (wys m l (Stp.p x))[k].to (cad (Stp.c x) (wys m l (Stp.p x))[k]))
            generalize τ.ins b1 (mpo AG (upA out (wys m l (Stp.p x))[k].to (cad (Stp.c x) (wys m l (Stp.p x))[k]))) = τ at hr ⊢
            obtain ⟨_, g23, _, _, _, _⟩ := getU hr
            refine AM ⟨_, AI g23 rfl, ?_⟩
            have hql := hj.ql
            have hca : JL zs := fun z hz => IK hm hl (hj.dj.qs _ (GH.2 ⟨z, hz, rfl⟩)).1 (hj.ub z hz) hdl2
            refine Bp C8 (hr.call hP (Q := fun v vs => vs.Perm (stp (wys m l (Stp.p x))[k].to (cad (Stp.c x) (wys m l (Stp.p x))[k]) :: zs) ∧ HO vs vs.length) fun s2 s hs => Ad.mono (Qf (x := stp (wys m l (Stp.p x))[k].to (cad (Stp.c x) (wys m l (Stp.p x))[k])) hs hca hco hj.ho (by have := Kn (l := l) (p := Stp.p x) hm; omega)) fun v s' ⟨a, ys, b, c, d⟩ => ⟨ys, ⟨b, c⟩, d⟩) ?_
            rintro v τ' ⟨vs, ⟨hp, hvo⟩, hr⟩
            obtain ⟨_, _, _, _, _, glb⟩ := getU hr
            exact ⟨glb, true, rfl, fun _ => ⟨_, vs, hj.push hm hl hk hlt hp hvo, turn hr⟩, fun x => by cases x⟩
          · refine ⟨glb, true, rfl, fun _ => ⟨out, zs, hj.pass hk ?_, turn hr⟩, fun x => by cases x⟩
            cases hk2 : lkA out (wys m l (Stp.p x))[k].to with
            | none =>
              have := ht.2 fun c' hc => by rw [hk2] at hc; cases hc
              rw [et] at this
              cases this
            | some c' =>
              refine ⟨c', rfl, fun hlt => ?_⟩
              have := ht.2 fun c'' hc => by rw [hk2] at hc; cases hc; exact hlt
              rw [et] at this
              cases this
        cases hk2 : lkA out (wys m l (Stp.p x))[k].to with
        | none =>
          refine Dv (k82 true ⟨fun _ c' hc => ?_, fun _ => rfl⟩)
          rw [hk2] at hc
          cases hc
        | some c' =>
          refine Dk ?_
          have hc' := IK hm hl (hj.dj.so _ _ hk2) (hj.ob _ _ hk2) hdl2
          refine Cx (c := cad (Stp.c x) (wys m l (Stp.p x))[k]) (d := c') hco hc' (k82 _ ?_)
          rw [decide_eq_true_iff, ER]
          exact ⟨fun hlt c'' hc => by rw [hk2] at hc; cases hc; exact hlt, fun hh => hh c' hk2⟩
      · rintro v σ' (⟨out, zs, hj, hr⟩ | hF)
        · obtain ⟨_, _, _, _, _, glb⟩ := getU hr
          refine ⟨.ready, none, glb, rfl, ?_⟩
          obtain ⟨t, h1, h2⟩ := (turn (st' := .exhausted) hr).untop
          have hn := hj.n0
          have hwl := Kn (l := l) (p := Stp.p x) hm
          obtain ⟨s, h3, s3, ⟨s2, ⟨s1, h4, h5⟩, h6⟩, h7⟩ := h1
          refine Mg _ ?_ (h5.sub.trans (h6.sub.trans (h7.sub.trans h2.sub))) ⟨b21, b23, out, _, zs, rfl, rfl, rfl, hj.done hm, s, h3, h4⟩
          omega
        · exact hF.elim
  · obtain rfl : xs = [] := List.eq_nil_of_length_eq_zero (by omega)
    rw [h12]
    intro _
    refine AM ⟨_, AI g21 rfl, ?_⟩
    obtain ⟨s, ⟨s1, s2, h1, h2, h3⟩, h4⟩ := hr
    exact BJ (h2.sub.trans ((Am.stk.sub h3).trans (hU.sub h4))) ⟨b1, out, rfl, h1, hi.dj.fin hl, fun p c hc => IK hm hl (hi.dj.so _ _ hc) (hi.ob _ _ hc) hdl⟩
end
end Go.Proofs.Ytkdjkkimngeloaa
