/- Trimmed by wip/trim.py to what this claim rests on. -/
import Derived.Test.YtkdjkkimngeloaaXVs2
import Derived.Test.YtkdjkkimngeloaaXVb15
namespace Go.Proofs.Ytkdjkkimngeloaa
open Go.RowKit
def Wt (c0 c1 : Nat) (w : MW) (l : Lry) (p : Plc) : Rel := (Nil.seq (Blk c0 (atO w l))).seq (Blk c1 (plO p))
theorem Ao.wt {c0 c1 : Nat} {w : MW} {l : Lry} {p : Plc} : Ao (Wt c0 c1 w l p) := (Ao.nil.seq Ao.blk).seq Ao.blk
theorem Wt.get {c0 c1 : Nat} {w : MW} {l : Lry} {p : Plc} {s τ : Hp} (h : Wt c0 c1 w l p s τ) : τ c0 = some (atO w l, true) ∧ τ c1 = some (plO p, true) := by
  obtain ⟨s2, ⟨s1, h0, h1⟩, h2⟩ := h
  exact ⟨h2.sub _ _ h1.get, h2.get⟩
def LV (b6 : Nat) (lf : List (Plc × Cst)) (B T : Rel) (lb : Nat) (o : Obj) : Rel := (Blk b6 (mpo AS lf)).seq (B.seq (T.seq (Blk lb o)))
section
variable {b6 lb : Nat} {lf lf' : List (Plc × Cst)} {B T : Rel} {o o' : Obj} {s τ : Hp}
theorem LV.get (hB : Ao B) (hT : Ao T) (h : LV b6 lf B T lb o s τ) : τ b6 = some (mpo AS lf, true) ∧ τ lb = some (o, true) ∧ Hp.Sub s τ ∧ (∃ s1 s2, B s1 s2 ∧ Hp.Sub s2 τ) ∧ ∃ s1 s2, T s1 s2 ∧ Hp.Sub s2 τ := by
  obtain ⟨s1, h1, s2, h2, s3, h3, h4⟩ := h
  have e3 := (hT.sub h3).trans h4.sub
  have e2 := (hB.sub h2).trans e3
  exact ⟨e2 _ _ h1.get, h4.get, h1.sub.trans e2, ⟨s1, s2, h2, e3⟩, s2, s3, h3, h4.sub⟩
theorem LV.turn (o' : Obj) (h : LV b6 lf B T lb o s τ) : LV b6 lf B T lb o' s (τ.ins lb o') := by
  obtain ⟨s1, h1, s2, h2, s3, h3, h4⟩ := h
  exact ⟨s1, h1, s2, h2, s3, h3, h4.upd⟩
theorem LV.set (hB : Ao B) (hT : Ao T) (h : LV b6 lf B T lb o s τ) (lf' : List (Plc × Cst)) : LV b6 lf' B T lb o s (τ.ins b6 (mpo AS lf')) := by
  obtain ⟨s1, h1, h2⟩ := h
  exact ⟨_, h1.upd, (hB.seq (hT.seq Ao.blk)).upd h2 h1.get _⟩
theorem LV.out (hT : Ao T) (h : LV b6 lf B T lb o s τ) : ∃ τ', ((Blk b6 (mpo AS lf)).seq B) s τ' ∧ Hp.Sub τ' τ := by
  obtain ⟨s1, h1, s2, h2, s3, h3, h4⟩ := h
  exact ⟨s2, ⟨s1, h1, h2⟩, (hT.sub h3).trans h4.sub⟩
end
def Tq (lf : List (Plc × Cst)) (c : Cst) (w : Wy) : Prop := ∃ c', lkA lf w.to = some c' ∧ cad c' w = c
section
variable {σ : Hp}
set_option maxRecDepth 100000 in
theorem OU {w : MW} {m : Mp} {l : Lry} {t : Int} (h : MIn σ w m) (hm : BJ m) (hl : AZ m l) : Af Try.prog GB #[atV w l, .int .i64 t] σ fun v σ' =>
    (v = .tuple #[.slice none 0 0, .bool false] ∧ σ' = σ ∧ Non m l t) ∨ ∃ A n c js a, v = .tuple #[.slice A n c, .bool true] ∧ Ap 60 sJ σ A n c js σ' ∧ Bst m l t (a, js) := by
  refine ET _ _ _ _ _ _ _ _ _ _ _ _ _ _ _ ?_
  unfold B6
  refine Bg Bi (Iz h hm hl) ?_
  rintro v σ ⟨best, b, rfl, rfl, hyes, hno⟩
  refine ⟨_, _, _, rfl, Hf (fun e => AC (.inl ⟨rfl, rfl, hno e⟩)) (fun e => ?_)⟩
  subst e
  obtain ⟨hsn, hbc⟩ := hyes rfl
  clear hyes hno
  intro b6 n6
  have e6 : Blk b6 (mpo AS []) σ (σ.ins b6 (.map #[] 0)) := ⟨n6, rfl⟩
  generalize σ.ins b6 (.map #[] 0) = σ7 at e6 ⊢
  refine Bg Ce (OY (h.up e6.sub) hm hl) ?_
  rintro v σ9 ⟨m10, out, rfl, hb, hL, hcb⟩
  refine ⟨_, rfl, ?_⟩
  refine Ag fun J13 h13 => ?_
  have k13 : ∀ (E : Rel) A n c s τ (os : List Plc), Ao E → E σ9 s → Ap 132 sJ s A n c os τ → os.length ≤ 6012 → os.Nodup → (∀ p, p ∈ os ↔ ∃ c, lkA out p = some c ∧ ¬ clt best c) → J13 A n c τ := by
    intro E A n c s τ os hE hEs ho hlen hnd hos
    rw [h13]
    clear h13 J13
    intro _ b15 n15
    obtain ⟨s', h15, ho'⟩ := Ao.own.swap Ao.blk ho (show Blk b15 (ovO m10) τ _ from ⟨n15, rfl⟩)
    generalize τ.ins b15 _ = τ1 at ho' ⊢
    refine Bg (g := 83) (by kernel_rfl) (KR ho' (by omega) h15.get ((hE.sub hEs).trans h15.sub _ _ hb.get) hcb) ?_
    rintro v τ2 ⟨rfl, ys, ⟨hperm, hpw⟩, ho2⟩
    have hys : ys.length = os.length := hperm.length_eq
    have hnd : ys.Nodup := hperm.symm.nodup hnd
    have hos : ∀ p, p ∈ ys ↔ ∃ c, lkA out p = some c ∧ ¬ clt best c := fun p => hperm.mem_iff.trans (hos p)
    have hln : n = ys.length := ho2.len
    obtain ⟨U0, hU0, h0, hrd⟩ : ∃ U0 : Rel, Ao U0 ∧ U0 σ7 τ2 ∧ ∀ s τ, U0 s τ → RdS sJ τ A n ys := ⟨(((Blk m10 (mpo AS out)).seq E).seq (Blk b15 (ovO m10))).seq (fun s τ => Ap 132 sJ s A n c ys τ), ((Ao.blk.seq hE).seq Ao.blk).seq Ao.own, ⟨s', ⟨s, ⟨σ9, hb, hEs⟩, h15⟩, ho2⟩, fun s τ ⟨_, _, h⟩ => h.rd⟩
    clear ho2 ho' h15 ho hEs hE E
    refine Ag fun J21 h21 => ?_
    have k21 : ∀ lf b145 τ, ((Blk b6 (mpo AS lf)).seq (U0.seq (Blk b145 (lfO b6)))) σ τ → LfI m l t ys ys.length lf → LC lf ys.length → J21 (some ⟨b145, 0, none⟩) τ := by
      intro lf b145 τ hs hlf hlc
      rw [h21]
      clear h21 J21
      intro _
      obtain ⟨g6, g145, gσ⟩ : τ b6 = some (mpo AS lf, true) ∧ τ b145 = some (lfO b6, true) ∧ Hp.Sub σ τ := by
        obtain ⟨s, h1, s', h2, h3⟩ := hs
        have e := (hU0.sub h2).trans h3.sub
        exact ⟨e _ _ h1.get, h3.get, h1.sub.trans e⟩
      clear hs
      have hbk : Bk m l t out best lf := by
        refine ⟨hL, ?_, fun p c hp hc => hsn.2 p c hp (hL.so _ _ hc), ys, hnd, hos, hpw.imp fun {p q} hpq c d hc hd => ?_, hlf⟩
        · obtain ⟨p, hp, hrc⟩ := hsn.1
          obtain ⟨c', h1, h2⟩ := hL.le _ _ hrc
          have h3 := hsn.2 p c' hp (hL.so _ _ h1)
          rcases Ig best c' with a | a | a
          · exact absurd a h2
          · exact ⟨p, hp, by rw [a]; exact h1⟩
          · exact absurd a h3
        · unfold cAt at hpq
          rw [hc, hd] at hpq
          exact hpq
      refine Ag fun J25 h25 => ?_
      have k25 : ∀ bt bn τ1, ((Blk bt (plO (l.fr, 0))).seq (Blk bn (nwO l.rdy))) τ τ1 → J25 (some ⟨bt, 0, none⟩) (some ⟨bn, 0, none⟩) τ1 := by
        intro bt bn τ1 hτ1
        rw [h25]
        clear h25 J25
        intro _
        refine Ag fun J30 h30 => ?_
        have k30 : ∀ bj A n c js p now τ2, WS bt bn bj p now A n c A n c js Nil τ τ2 → (∃ a, Bst m l t (a, js)) → J30 (some ⟨bj, 0, none⟩) τ2 := by
          rintro bj A n c js p now τ2 hW ⟨a, ha⟩
          rw [h30]
          intro _
          obtain ⟨_, _, gj, _⟩ := hW.get Ao.nil
          refine AP (DK gj rfl (AP ?_))
          refine hW.stJ Ao.nil fun τ3 hW3 => ?_
          obtain ⟨_, _, gj, _⟩ := hW3.get Ao.nil
          refine AP (DK gj rfl ?_)
          obtain ⟨s1, h1, s2, h2, s3, h3, s4, h4, h5⟩ := hW3
          have h4 : s4 = s3 := h4
          subst h4
          obtain ⟨σ4, h6, h7⟩ := Ao.ownJ.less h5 (gσ.trans (h1.sub.trans (h2.sub.trans h3.sub)))
          exact BN h7 (.inr ⟨_, _, _, js, a, rfl, h6, ha⟩)
        clear h30
        have hst := hbk.start hm hl
        obtain ⟨c00, hc00, _⟩ := hst.c
        refine ⟨fun q p τ' => ∃ (bj : Nat) (P : Plc) (now : Int) (A : Option Addr) (n c : Nat) (wd : List Wy) (cl : Cst), p = some ⟨bj, 0, none⟩ ∧ lkA lf P = some cl ∧ q = cl.2.toNat ∧ now = l.rdy + (cs wd).1 ∧ Wk m l t best lf P wd ∧ WS bt bn bj P now A n c A n c (lgs l.rdy wd) Nil τ τ',
          ⟨_, fun bj nj => ⟨bj, (l.fr, 0), l.rdy, none, 0, 0, [], c00, rfl, hc00, rfl, by show l.rdy = l.rdy + 0; omega, hst, ?_⟩⟩, ?_⟩
        · obtain ⟨τa, ha, hb2⟩ := hτ1
          exact ⟨τa, ha, τ1, hb2, _, ⟨nj, rfl⟩, _, rfl, Ap.nil ..⟩
        rintro q p τ' ⟨bj, P, now, A, n, c, wd, cc, rfl, hcl, rfl, rfl, hk, hW⟩ _
        obtain ⟨gt, gn, gj, gs, grd⟩ := hW.get Ao.nil
        refine AP (Bq gt rfl ?_)
        refine Bu (fun hne => ?_) (fun heq => k30 _ _ _ _ _ _ _ _ hW ⟨_, (hk.fin hm hl hbk heq).1⟩)
        refine AP (Bq gt rfl (Bq gt rfl ?_))
        obtain ⟨hP1, hP2, _⟩ := ((IP hl).2 ⟨wd, hk.w, rfl⟩).ok hm hl
        obtain ⟨cc', hcc, hbe⟩ := hk.c
        rw [hcl] at hcc
        obtain rfl := Option.some.inj hcc
        obtain ⟨⟨hcp1, hcp2⟩, _⟩ := hlc _ _ hcl
        have hb1 : (cs wd).1 + cc.1 = best.1 := congrArg Prod.fst hbe
        have hb2 : (cs wd).2 + cc.2 = best.2 := congrArg Prod.snd hbe
        have hw2 := IA (a := wd)
        have hw1 : 0 ≤ (cs wd).1 := by
          rcases Iy hm hl hk.w with ⟨_, e⟩ | ⟨_, e⟩
          · rw [e]; exact Int.le_refl _
          · omega
        obtain ⟨⟨_, hbb1⟩, _, hbb2⟩ := hbc
        have hy := hl.y
        refine Bg BC (NM (w := w) (l := l) (p := P)) ?_
        rintro v τ3 ⟨c0, c1, τ2, rfl, hb0, hb1'⟩
        refine ⟨_, rfl, ?_⟩
        intro lb Rec hlb hcall
        have hU : ∀ o, Ao ((Wt c0 c1 w l P).seq (Blk lb o)) := fun o => Ao.wt.seq Ao.blk
        have hW2 : WS bt bn bj P (l.rdy + (cs wd).1) A n c A n c (lgs l.rdy wd) ((Wt c0 c1 w l P).seq (Blk lb (Rec .ready none))) τ (τ3.ins lb (Rec .ready none)) := ((hW.top Ao.blk hb0).top Ao.blk hb1').top Ao.blk ⟨hlb, rfl⟩
        clear hW gt gn gj gs grd hb0 hb1' hlb
        have getU : ∀ {p now A n c A' n' c' js o τ'}, WS bt bn bj p now A n c A' n' c' js ((Wt c0 c1 w l P).seq (Blk lb o)) τ τ' → τ' c0 = some (atO w l, true) ∧ τ' c1 = some (plO P, true) ∧ τ' lb = some (o, true) := by
          intro p now A n c A' n' c' js o τ' hh
          obtain ⟨_, _, ⟨_, a, b⟩, e⟩ := hh.getU
          obtain ⟨f1, f2⟩ := a.get
          exact ⟨e _ _ (b.sub _ _ f1), e _ _ (b.sub _ _ f2), e _ _ b.get⟩
        refine Nw.of Bn (Af.mono (KD (y := .func (.yield lb) #[] #[]) (b0 := c0) (b1 := c1) (w := w) (m := m) (l := l) (p := P)
          (I := fun i τ' => (∀ i' (h : i' < (wys m l P).length), i' < i → ¬ Tq lf cc (wys m l P)[i']) ∧ WS bt bn bj P (l.rdy + (cs wd).1) A n c A n c (lgs l.rdy wd) ((Wt c0 c1 w l P).seq (Blk lb (Rec .ready none))) τ τ')
          (Q := fun τ' => ∃ (k : Nat) (hk : k < (wys m l P).length) (c' : Cst), lkA lf (wys m l P)[k].to = some c' ∧ cad c' (wys m l P)[k] = cc ∧ (∀ i' (h : i' < (wys m l P).length), i' < k → ¬ Tq lf cc (wys m l P)[i']) ∧ ∃ A' n' c'', WS bt bn bj (wys m l P)[k].to (l.rdy + (cs (wd ++ [(wys m l P)[k]])).1) A' n' c'' A' n' c'' (lgs l.rdy (wd ++ [(wys m l P)[k]])) ((Wt c0 c1 w l P).seq (Blk lb (Rec .done (some (.exit 8))))) τ τ')
          hm hl hP1 hP2 (fun i τ' hh => ?_) (fun i hi τ' hh => ?_) ⟨fun i' _ h => absurd h (Nat.not_lt_zero _), hW2⟩) ?_)
        · obtain ⟨_, hW⟩ := hh
          obtain ⟨a, b, _⟩ := getU hW
          obtain ⟨_, _, _, gs, _⟩ := hW.get (hU _)
          exact ⟨a, b, h.up (gσ.trans gs)⟩
        · obtain ⟨hno, hW⟩ := hh
          obtain ⟨_, _, glb⟩ := getU hW
          refine hcall _ _ _ glb ⟨_, _, _, _, _, _, rfl, fun _ => ⟨glb, ?_⟩⟩
          have hW := hW.turn (o' := Rec .busy none)
          generalize τ'.ins lb (Rec .busy none) = τ' at hW ⊢
          obtain ⟨_, _, glb⟩ := getU hW
          obtain ⟨gt, gn, gj, gs, grd⟩ := hW.get (hU _)
          obtain ⟨t1, t2, t3, t4, _⟩ := FB hm hl (List.getElem_mem hi)
          refine AP ⟨_, AV (gs _ _ g145) rfl, ?_⟩
          refine lkC (p := (wys m l P)[i].to) (gs _ _ g6) ?_
          obtain ⟨o, ho⟩ : ∃ o, lkA lf (wys m l P)[i].to = o := ⟨_, rfl⟩
          rw [ho]
          refine ⟨_, _, rfl, ?_⟩
          refine Ag fun J82 h82 => ?_
          have k82 : ∀ c', o = some c' → cad c' (wys m l P)[i] = cc → J82 τ' := by
            rintro c' rfl he
            rw [h82]
            intro _
            refine AP (DK gj rfl (AP (Bq gn rfl (AT (by omega) ?_))))
            refine hW.app (x := ((wys m l P)[i].rd, l.rdy + (cs wd).1 + (wys m l P)[i].rst)) (by rw [Em]; omega) fun A' n' c'' τ4 hW4 => ?_
            refine AP (hW4.stJ (hU _) fun τ5 hW5 => ?_)
            obtain ⟨_, gn5, _⟩ := hW5.get (hU _)
            refine AP (Bq gn5 rfl (AT (by omega) (AP (hW5.stN (hU _) fun τ6 hW6 => ?_))))
            refine AP (hW6.stP (hU _) (p' := (wys m l P)[i].to) fun τ7 hW7 => ?_)
            obtain ⟨_, _, glb7⟩ := getU hW7
            have hW8 := hW7.turn (o' := Rec .done (some (.exit 8)))
            have e1 : l.rdy + (cs wd).1 + (wys m l P)[i].tk = l.rdy + (cs (wd ++ [(wys m l P)[i]])).1 := by
              rw [Fg]
              show _ = l.rdy + ((cs wd).1 + (0 + (wys m l P)[i].tk))
              omega
            have e2 : lgs l.rdy wd ++ [(((wys m l P)[i].rd, l.rdy + (cs wd).1 + (wys m l P)[i].rst) : Leg)] = lgs l.rdy (wd ++ [(wys m l P)[i]]) := (JG (a := wd) (b := [(wys m l P)[i]]) (n := l.rdy)).symm
            rw [e1, e2] at hW8
            exact ⟨glb7, false, rfl, fun x => (by cases x), fun _ => ⟨i, hi, c', ho, he, hno, A', n', c'', hW8⟩⟩
          clear h82
          refine Ag fun J110 h110 => ?_
          have kt : (∀ c', o = some c' → cad c' (wys m l P)[i] ≠ cc) → J110 true τ' := by
            intro hh
            rw [h110]
            intro _
            refine Hu ⟨glb, true, rfl, fun _ => ⟨fun i' hi' hlt => ?_, hW.turn⟩, fun x => by cases x⟩
            rcases Nat.lt_or_ge i' i with a | a
            · exact hno i' hi' a
            · obtain rfl : i' = i := by omega
              rintro ⟨c', h1, h2⟩
              exact hh c' (by rw [← ho]; exact h1) h2
          have kf : ∀ c', o = some c' → cad c' (wys m l P)[i] = cc → J110 false τ' := by
            intro c' h1 h2
            rw [h110]
            intro _
            exact FC (k82 c' h1 h2)
          clear h110 k82
          cases o with
          | none => exact C1 (kt fun c' hc => by cases hc)
          | some c' =>
            obtain ⟨⟨p1, p2⟩, p3, p4⟩ := hlc _ _ ho
            have hyl : ys.length ≤ 6012 := by omega
            refine CX (AT (by show _ ≤ c'.1 + _ ∧ c'.1 + _ ≤ _; omega) (AT (by show _ ≤ c'.2 + _ ∧ c'.2 + _ ≤ _; omega) ?_))
            refine AP ⟨_, AV (gs _ _ g145) rfl, ?_⟩
            refine AP (Bq gt rfl (Bq gt rfl ?_))
            refine QD (p := P) (gs _ _ g6) ⟨Hp.Sub.refl _, _, _, rfl, ?_⟩
            rw [hcl]
            by_cases hc : cad c' (wys m l P)[i] = cc
            · have e1 : c'.1 + (wys m l P)[i].tk = cc.1 := congrArg Prod.fst hc
              have e2 : c'.2 + 1 = cc.2 := congrArg Prod.snd hc
              have : (!(decide (c'.1 + (wys m l P)[i].tk = cc.1) && decide (c'.2 + 1 = cc.2))) = false := by rw [decide_eq_true e1, decide_eq_true e2]; rfl
              show J110 (!(decide (c'.1 + (wys m l P)[i].tk = cc.1) && decide (c'.2 + 1 = cc.2))) τ'
              rw [this]
              exact kf c' rfl hc
            · have : (!(decide (c'.1 + (wys m l P)[i].tk = cc.1) && decide (c'.2 + 1 = cc.2))) = true := by
                rw [Bool.not_eq_true', ← Bool.not_eq_true]
                intro hh
                rw [Bool.and_eq_true, decide_eq_true_eq, decide_eq_true_eq] at hh
                exact hc (Prod.ext hh.1 hh.2)
              show J110 (!(decide (c'.1 + (wys m l P)[i].tk = cc.1) && decide (c'.2 + 1 = cc.2))) τ'
              rw [this]
              exact kt fun c'' hc2 => by cases hc2; exact hc
        · rintro v τ' (⟨hall, _⟩ | ⟨k, hkl, c', hlk, he, hfst, A', n', c'', hW'⟩)
          · exfalso
            obtain ⟨wy, hwy, c', h1, h2⟩ := hbk.ex hcl hne
            obtain ⟨i, hi, rfl⟩ := List.mem_iff_getElem.1 hwy
            exact hall i hi hi ⟨c', h1, h2.symm⟩
          · obtain ⟨_, _, glb⟩ := getU hW'
            refine ⟨.done, some (.exit 8), glb, rfl, ?_⟩
            obtain ⟨τa, hWa, ha⟩ := (hW'.turn (o' := Rec .exhausted (some (.exit 8)))).untop Ao.blk
            obtain ⟨τb, hWb, hb⟩ := hWa.untop (U := Nil.seq (Blk c0 (atO w l))) Ao.blk
            obtain ⟨τc, hWc, hc⟩ := hWb.untop (U := Nil) Ao.blk
            obtain ⟨⟨p1, p2⟩, _⟩ := hlc _ _ hlk
            have e2 : c'.2 + 1 = cc.2 := congrArg Prod.snd he
            refine NK c'.2.toNat (by omega) (hc.sub.trans (hb.sub.trans ha.sub)) ⟨bj, (wys m l P)[k].to, _, A', n', c'', wd ++ [(wys m l P)[k]], c', rfl, hlk, rfl, rfl, hk.step hm hl hbk hne hkl hcl hlk he fun i hi c2 h1 h2 => ?_, hWc⟩
            exact hfst i (by omega) hi ⟨c2, h1, h2⟩
      exact ⟨fun bt nt bn nn => k25 bt bn _ ⟨_, ⟨nt, rfl⟩, nn, rfl⟩, fun bt nt bn nn => k25 bt bn _ ⟨_, ⟨nt, rfl⟩, nn, rfl⟩⟩
    refine ⟨fun q p i τ => ∃ (b145 k : Nat) (lf : List (Plc × Cst)), p = some ⟨b145, 0, none⟩ ∧ q = ys.length - k ∧ i = k ∧ k ≤ ys.length ∧ LfI m l t ys k lf ∧ LC lf k ∧ ((Blk b6 (mpo AS lf)).seq (U0.seq (Blk b145 (lfO b6)))) σ τ, ⟨_, fun b145 n145 => ⟨b145, 0, [], rfl, rfl, rfl, by omega, LfI.init, fun p c h => (by cases h), _, e6, _, h0, n145, rfl⟩⟩, ?_⟩
    rintro q p i τ ⟨b145, k, lf, rfl, rfl, rfl, hk, hlf, hlc, hs⟩ _
    have hB : Ao (U0.seq (Blk b145 (lfO b6))) := hU0.seq Ao.blk
    refine Bd (fun hlt => ?_) (fun hge => ?_)
    · have hkl : k < ys.length := by omega
      refine Ag fun J151 h151 => ?_
      have k151 : ∀ lf τ τ', LfI m l t ys (k + 1) lf → LC lf (k + 1) → ((Blk b6 (mpo AS lf)).seq (U0.seq (Blk b145 (lfO b6)))) σ τ' → Hp.Sub τ' τ → J151 τ := by
        intro lf τ τ' g1 g2 g3 g4
        rw [h151]
        intro _
        exact AT (by omega) (NK _ (by omega) g4 ⟨b145, k + 1, lf, rfl, rfl, rfl, by omega, g1, g2, g3⟩)
      clear h151
      have hs' := hs
      obtain ⟨s, h1, s', h2, h3⟩ := hs'
      have hrs : RdS sJ τ A n ys := (hrd _ _ h2).sub h3.sub
      have g145 : τ b145 = some (lfO b6, true) := h3.get
      have g6 : τ b6 = some (mpo AS lf, true) := h3.sub _ _ (hU0.sub h2 _ _ h1.get)
      refine N1 hrs (by omega) (by simpa using hkl) fun x hx => ?_
      have hp : ys[k] = x := by simpa using hx
      clear hx
      refine Bd (fun ht => ?_) (fun ht => ?_)
      · refine AP ⟨_, AV g145 rfl, ?_⟩
        refine upC (p := x) (c := (0, 0)) g6 (k151 (upA lf x (0, 0)) _ _ ?_ hlc.here ⟨_, h1.upd, hB.upd ⟨s', h2, h3⟩ h1.get _⟩ (Hp.Sub.refl _))
        have := hlf.here hnd hkl (by rw [hp]; exact ht)
        rw [hp] at this
        exact this
      · obtain ⟨cx, hcx, _⟩ := (hos x).1 (by rw [← hp]; exact List.getElem_mem hkl)
        obtain ⟨hx1, hx2, _⟩ := (hL.so _ _ hcx).ok hm hl
        refine Bg BC (NM (w := w) (l := l) (p := x)) ?_
        rintro v τ2 ⟨c0, c1, τ1, rfl, hb0, hb1⟩
        refine ⟨_, rfl, ?_⟩
        intro b166 n166
        intro lb Rec hlb hcall
        have hT : Ao (((Wt c0 c1 w l x)).seq (Blk b166 (plO x))) := Ao.wt.seq Ao.blk
        have hv : LV b6 lf (U0.seq (Blk b145 (lfO b6))) ((Wt c0 c1 w l x).seq (Blk b166 (plO x))) lb (Rec .ready none) σ _ := ⟨s, h1, τ, ⟨s', h2, h3⟩, _, ⟨τ2, ⟨τ1, ⟨τ, rfl, hb0⟩, hb1⟩, n166, rfl⟩, hlb, rfl⟩
        have hJ0 : LfJ m l t ys k x 0 lf := by
          have := hlf.beg hnd hkl
          rw [hp] at this
          exact this
        have getV : ∀ {lf o τ}, LV b6 lf (U0.seq (Blk b145 (lfO b6))) ((Wt c0 c1 w l x).seq (Blk b166 (plO x))) lb o σ τ → τ b6 = some (mpo AS lf, true) ∧ τ lb = some (o, true) ∧ Hp.Sub σ τ ∧ τ b145 = some (lfO b6, true) ∧ τ c0 = some (atO w l, true) ∧ τ c1 = some (plO x, true) ∧ τ b166 = some (plO x, true) := by
          intro lf o τ hh
          obtain ⟨a, b, c, ⟨_, _, ⟨_, _, d⟩, e⟩, _, _, ⟨_, f, g⟩, i⟩ := hh.get hB hT
          obtain ⟨f1, f2⟩ := f.get
          exact ⟨a, b, c, e _ _ d.get, i _ _ (g.sub _ _ f1), i _ _ (g.sub _ _ f2), i _ _ g.get⟩
        clear g145 g6 hrs h1 h2 h3 hs hb0 hb1 hlb
        refine Nw.of Bn (Af.mono (KD (y := .func (.yield lb) #[] #[]) (b0 := c0) (b1 := c1) (w := w) (m := m) (l := l) (p := x)
          (I := fun i τ => ∃ lf, LfJ m l t ys k x i lf ∧ LB lf x k ∧ LV b6 lf (U0.seq (Blk b145 (lfO b6))) ((Wt c0 c1 w l x).seq (Blk b166 (plO x))) lb (Rec .ready none) σ τ)
          (Q := fun _ => False) hm hl hx1 hx2 (fun i τ ⟨lf, _, _, hv⟩ => ?_) (fun i hi τ ⟨lf, hj, hbd, hv⟩ => ?_) ⟨lf, hJ0, hlc.beg, hv⟩) ?_)
        · obtain ⟨_, _, g, _, a, b, _⟩ := getV hv
          exact ⟨a, b, h.up g⟩
        · obtain ⟨_, glb, _⟩ := getV hv
          refine hcall _ _ _ glb ⟨_, _, _, _, _, _, rfl, fun _ => ⟨glb, ?_⟩⟩
          have hv := hv.turn (Rec .busy none)
          generalize τ.ins lb (Rec .busy none) = τ at hv ⊢
          obtain ⟨g6, glb, _, g145, _, _, g166⟩ := getV hv
          obtain ⟨t1, t2, _⟩ := FB hm hl (List.getElem_mem hi)
          have hle : k ≤ 6012 := by omega
          refine AP ⟨_, AV g145 rfl, ?_⟩
          refine lkC (p := (wys m l x)[i].to) g6 ?_
          obtain ⟨o, ho⟩ : ∃ o, lkA lf (wys m l x)[i].to = o := ⟨_, rfl⟩
          rw [ho]
          have hob : (0 ≤ (o.getD (0, 0)).1 ∧ (o.getD (0, 0)).1 ≤ 1000000000) ∧ 0 ≤ (o.getD (0, 0)).2 ∧ (o.getD (0, 0)).2 ≤ 1000000000 := by
            cases o with
            | none => exact ⟨⟨Int.le_refl _, show (0 : Int) ≤ 1000000000 by decide⟩, Int.le_refl _, show (0 : Int) ≤ 1000000000 by decide⟩
            | some c' => exact hbd.cOK hle ho
          refine ⟨_, _, rfl, ?_⟩
          refine AT (by omega) (AT (by omega) ?_)
          refine AP ⟨_, AV g145 rfl, ?_⟩
          refine Bq g166 rfl (Bq g166 rfl ?_)
          refine lkC (p := x) g6 ?_
          obtain ⟨o2, ho2⟩ : ∃ o2, lkA lf x = o2 := ⟨_, rfl⟩
          rw [ho2]
          refine ⟨_, _, rfl, ?_⟩
          refine Ag fun J203 h203 => ?_
          have kt : ∀ c', o = some c' → (∀ c, lkA lf x = some c → clt (cad c' (wys m l x)[i]) c) → J203 true τ := by
            rintro c' rfl hlt
            rw [h203]
            intro _
            refine Hu (AP ⟨_, AV g145 rfl, Bq g166 rfl (Bq g166 rfl (upC (p := x) (c := cad c' (wys m l x)[i]) g6 ?_))⟩)
            have hv := hv.set hB hT (upA lf x (cad c' (wys m l x)[i]))
            obtain ⟨_, glb, _⟩ := getV hv
            exact ⟨glb, true, rfl, fun _ => ⟨_, hj.less hm hnd hkl hp hi ho hlt, hbd.less ho (NY hm (List.getElem_mem hi)) ⟨t1, t2⟩, hv.turn _⟩, fun x => by cases x⟩
          have kf : (∀ c', o = some c' → ∃ c, lkA lf x = some c ∧ ¬ clt (cad c' (wys m l x)[i]) c) → J203 false τ := by
            intro hh
            rw [h203]
            intro _
            refine FC ⟨glb, true, rfl, fun _ => ⟨lf, hj.pass hi fun c' hc => hh c' (by rw [← ho]; exact hc), hbd, hv.turn _⟩, fun x => by cases x⟩
          cases o with
          | none => exact FC (kf fun c' hc => by cases hc)
          | some c' =>
            refine Hu ?_
            cases o2 with
            | none => exact C1 (kt c' rfl fun c hc => by rw [ho2] at hc; cases hc)
            | some c2 =>
              refine CX ?_
              refine Da (c := cad c' (wys m l x)[i]) (d := c2) ?_ (hbd.cOK hle ho2) ?_
              · obtain ⟨⟨a1, a2⟩, a3, a4⟩ := hob
                have a1 : 0 ≤ c'.1 := a1
                have a3 : 0 ≤ c'.2 := a3
                obtain ⟨⟨_, a5, a6⟩, _⟩ := hbd _ _ ho
                refine ⟨⟨?_, ?_⟩, ?_, ?_⟩
                · show 0 ≤ c'.1 + _; omega
                · show c'.1 + (wys m l x)[i].tk ≤ 1000000000; omega
                · show 0 ≤ c'.2 + 1; omega
                · show c'.2 + 1 ≤ 1000000000; omega
              · by_cases hc : clt (cad c' (wys m l x)[i]) c2
                · rw [decide_eq_true (Fd.2 hc)]
                  exact kt c' rfl fun c hc2 => by rw [ho2] at hc2; cases hc2; exact hc
                · rw [decide_eq_false fun x => hc (Fd.1 x)]
                  exact kf fun c'' hc2 => by cases hc2; exact ⟨c2, ho2, hc⟩
        · rintro v τ' (⟨lf, hj, hbd, hv⟩ | hF)
          · obtain ⟨_, glb, _⟩ := getV hv
            refine ⟨.ready, none, glb, rfl, ?_⟩
            obtain ⟨τ'', hout, hsub⟩ := (hv.turn (Rec .exhausted none)).out hT
            exact k151 lf _ τ'' (hj.fin hkl hp ht) hbd.fin hout hsub
          · exact hF.elim
    · obtain rfl : k = ys.length := by omega
      exact k21 lf b145 τ hs hlf hlc
  obtain ⟨f1, f2, hk⟩ := Qx
  refine Qy hk hb.get fun b10 n10 => ?_
  refine ⟨fun q A n c τ => ∃ (seen : List Nat) (os : List Plc) (s : Hp), q = ((List.range out.length).filter fun j => decide (j ∉ seen)).length ∧ Blk b10 (.mapIter (some m10) out.length ⟨seen⟩ out.length) σ9 s ∧ Ap 132 sJ s A n c os τ ∧ OsI out best seen os, ⟨_, [], [], _, rfl, ⟨n10, rfl⟩, Ap.nil .., OsI.init⟩, ?_⟩
  rintro q A n c τ ⟨seen, os, s, rfl, hit, ho, hi⟩ _
  have hsub : Hp.Sub s τ := ho.sub
  have gm : τ m10 = some (mpo AS out, true) := hsub _ _ (hit.sub _ _ hb.get)
  refine Qz gm (hsub _ _ hit.get) (fun hall => FC ?_) (fun i hil hns vs => Hu ?_)
  · exact k13 _ A n c s τ os Ao.blk hit ho (hi.le hm hl hL) hi.nd (hi.all hL.nd hall)
  · have hit2 : Blk b10 (.mapIter (some m10) out.length ⟨seen ++ [i]⟩ out.length) σ9 (s.ins b10 (.mapIter (some m10) out.length ⟨seen ++ [i]⟩ out.length)) := hit.upd
    have ho2 : Ap 132 sJ (s.ins b10 (.mapIter (some m10) out.length ⟨seen ++ [i]⟩ out.length)) A n c os (τ.ins b10 (.mapIter (some m10) out.length ⟨seen ++ [i]⟩ out.length)) := Ao.own.upd ho hit.get _
    generalize s.ins b10 (.mapIter (some m10) out.length ⟨seen ++ [i]⟩ out.length) = s2 at hit2 ho2
    generalize τ.ins b10 (.mapIter (some m10) out.length ⟨seen ++ [i]⟩ out.length) = τ2 at ho2 ⊢
    have hsub2 : Hp.Sub s2 τ2 := ho2.sub
    refine QC (E := out) (en := AS) (hsub2 _ _ (hit2.sub _ _ hb.get)) (hsub2 _ _ hit2.get) hil ?_
    refine ⟨_, _, rfl, _, _, rfl, ?_⟩
    have hlt := K5 hil hns
    refine Da (c := out[i].2) (d := best) (hcb _ _ (IG hL.nd hil)) hbc ?_
    have hle := hi.le hm hl hL
    refine Bd (fun hc => ⟨os, s2, ho2, Bh (show os.length + 1 ≤ _ by omega) (BP _ hlt fun A' n' c' τ' ho' => ?_)⟩) (fun hc => BP _ hlt ⟨_, os, s2, rfl, hit2, ho2, hi.pass hil ?_⟩)
    · exact ⟨_, os ++ [out[i].1], s2, rfl, hit2, ho', hi.add hL.nd hil hns (OI.1 hc)⟩
    · by_cases c1 : clt best out[i].2
      · exact c1
      · exact absurd (OI.2 c1) hc
end
end Go.Proofs.Ytkdjkkimngeloaa
