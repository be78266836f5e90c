/- Trimmed by wip/trim.py to what this claim rests on. -/
import Derived.Test.YtkdjkkimngeloaaXKc1
import Derived.Test.YtkdjkkimngeloaaXVf2
import Derived.Test.YtkdjkkimngeloaaXW2
namespace Go.Proofs.Ytkdjkkimngeloaa
open Go.RowKit Go.ChangeShapes Go.WideShapes Go.Deep Go.Joins
set_option maxRecDepth 100000 in
set_option maxHeartbeats 800000 in
theorem PK {σ : Hp} {w : MW} {m : Mp} {A : Option Addr} {n c : Nat} {ls : List LrT} {t g : Int} (h : MIn σ w m) (hl : RdS sL σ A n ls) (_ : n ≤ c) : Af Try.prog Cj #[w.v, .slice A n c, .agg #[.int .i64 t, .int .i64 g]] σ fun v _ => v = .bool true := by
  refine Fj _ _ _ _ _ _ _ _ _ _ _ _ _ ?_
  unfold Ck
  have hn := hl.lenL
  refine clB Hc (RM h hl) (IU (fun _ => JH (AC rfl)) (fun hf => ?_))
  obtain ⟨hf, f1, f2, f3, _⟩ := RY hf
  refine Bg Hw (S9 h hf) ?_
  rintro v σ8 ⟨w1, s1, rfl, hc1, hc2⟩
  have hs8 : Hp.Sub σ σ8 := (Ap.sub hc1).trans (Ap.sub hc2)
  have hm1 : MIn σ8 w1 m := ⟨(Ap.rd hc1).sub (Ap.sub hc2), Ap.rd hc2⟩
  have hl8 := hl.sub hs8
  refine ⟨_, _, _, _, _, _, rfl, ?_⟩
  clear hc1 hc2
  refine Ag fun J13 h13 => ?_
  have k13 : ∀ A1 n1 c1 e (out : List Int) τ, Hp.Sub σ8 τ → RdS [.int .i64] τ A1 n1 out → Tu m (ls.map AN) t g out e → J13 A1 n1 c1 e τ := by
    intro A1 n1 c1 e out τ hs hro hp
    rw [h13]
    clear h13 J13
    intro _
    have hmt := hm1.up hs
    have hlt := hl8.sub hs
    refine Ag fun J18 h18 => ?_
    have k18 : ∀ A2 n2 c2 e2 js' τ', Hp.Sub τ τ' → F3 τ' A2 n2 js' → R3 m (ls.map AN) t g js' e2 → J18 A2 n2 c2 e2 τ' := by
      intro A2 n2 c2 e2 js' τ' hs2 hjs hp2
      rw [h18]
      clear h18 J18
      intro _
      have hee : e = e2 := by
        rcases hp with ⟨c1, rfl, _⟩ | ⟨c1, (⟨n1, rfl, _⟩ | ⟨rfl, js, ar, f1, _⟩)⟩
        · rcases hp2 with ⟨_, rfl, _⟩ | ⟨c2, _⟩
          · rfl
          · exact absurd c2 c1
        · rcases hp2 with ⟨c2, _⟩ | ⟨_, (⟨_, rfl, _⟩ | ⟨_, js2, ar2, out2, f2, _⟩)⟩
          · exact absurd c1 c2
          · rfl
          · exact absurd n1 f2.nn
        · rcases hp2 with ⟨c2, _⟩ | ⟨_, (⟨n2, _⟩ | ⟨rfl, _⟩)⟩
          · exact absurd c1 c2
          · exact absurd n2 f1.nn
          · rfl
      subst hee
      refine Bu (fun g => absurd rfl g) (fun _ => ?_)
      refine Bu (fun _ => JH (AC rfl)) (fun e0 => ?_)
      subst e0
      have hcase : cE m (ls.map AN) t g = 0 ∧ ∃ js ar, IS m (ls.map AN) t js ar ∧ FX ar g (DF ls.length) out ∧ RT js ar out js' := by
        rcases hp with ⟨c1, c2, _⟩ | ⟨c1, (⟨_, c2, _⟩ | ⟨_, js, ar, hf1, ha1⟩)⟩
        · exact absurd c2.symm c1
        · cases c2
        · rcases hp2 with ⟨c2, _⟩ | ⟨_, (⟨n2, _⟩ | ⟨_, js2, ar2, out2, hf2, ha2, hs2⟩)⟩
          · exact absurd c1 c2
          · exact absurd n2 hf1.nn
          · obtain ⟨rfl, rfl⟩ := hf1.uniq hf2
            obtain rfl := ha1.uniq ha2
            rw [List.length_map] at ha1
            exact ⟨c1, js, ar, hf1, ha1, hs2⟩
      obtain ⟨hc0, js, ar, hfl, harr, hsch⟩ := hcase
      have hp2s := hp2.small
      clear hp hp2
      obtain ⟨e1, hg⟩ := Om hc0
      obtain ⟨hm, h8, hlo, htr⟩ := JI e1
      rw [List.length_map] at h8
      have hjl : js.length = ls.length := by rw [hfl.1, List.length_map]
      have hal : ar.length = ls.length := by rw [hfl.2.1, List.length_map]
      have hol : out.length = ls.length := by rw [harr.1, Dp]
      have hjl' : js'.length = ls.length := by rw [hsch.1, hjl]
      have hn1 : n1 = out.length := hro.1
      have hn2 := hjs.len
      have hbi : ∀ i (h1 : i < ls.length), Bst m (AN ls[i]) t (ar[i]'(by omega), js[i]'(by omega)) := fun i h1 => by
        have := hfl.2.2 i (by rw [List.length_map]; exact h1) (by omega) (by omega)
        rw [List.getElem_map] at this
        exact this
      have hli : ∀ i (h1 : i < ls.length), AZ m (AN ls[i]) := fun i h1 => hlo _ (List.mem_map_of_mem (List.getElem_mem h1))
      have hai : ∀ i (h1 : i < ls.length), 0 ≤ ar[i]'(by omega) ∧ ar[i]'(by omega) ≤ 32000 := fun i h1 => by
        obtain ⟨q1, q2, q3, q4⟩ := (hbi i h1).short hm.ok (hli i h1)
        have q5 : (m.pk.length + 1) * m.pk.length ≤ 6 * 5 := Nat.mul_le_mul (by omega) f1
        have := (hli i h1).y
        omega
      have hcm : ∀ x ∈ DF ls.length, 0 ≤ geI ar x ∧ geI ar x ≤ 32000 := fun x hx => by
        obtain ⟨q1, q2⟩ := Pj.1 hx
        have q3 : x.toNat < ar.length := by omega
        rw [Nl q3]
        exact hai x.toNat (by omega)
      have hbd := harr.bnd hg.1 hcm
      have hoi : ∀ i (h1 : i < ls.length), ar[i]'(by omega) ≤ out[i]'(by omega) ∧ 0 ≤ out[i]'(by omega) ∧ out[i]'(by omega) ≤ 33000 := fun i h1 => by
        obtain ⟨q1, q2, q3⟩ := hbd i (by omega)
        have q4 := q3 (by rw [Dp]; exact h1)
        rw [Sa, Ey (by omega)] at q4
        have q5 : g * (i : Int) ≤ 100 * 8 := Int.mul_le_mul hg.2 (by omega) (by omega) (by omega)
        omega
      have hgap : ∀ i (h1 : i + 1 < ls.length), out[i]'(by omega) + g ≤ out[i + 1]'(by omega) := fun i h1 => by
        have := harr.2 (i + 1) (by omega) (by rw [Dp]; exact h1)
        rw [if_neg (by omega)] at this
        rw [this]
        simp only [Nat.add_sub_cancel]
        exact Int.le_max_right _ _
      have hτ := hs.trans hs2
      refine Ag fun J26 h26 => Ag fun J253 h253 => ?_
      have k253 : J253 false τ' := by
        rw [h253]
        clear h253 J253
        intro _
        refine FC ?_
        rw [h26]
        clear h26 J26
        intro _
        refine Ag fun J29 h29 => ?_
        have k29 : ∀ tt τ'', Hp.Sub τ' τ'' → (tt = true → ∀ i (_ : i < ls.length) (_ : i < js'.length), js'[i] ≠ []) → J29 tt τ'' := by
          intro tt τ'' hs3 htt
          rw [h29]
          clear h29 J29
          intro _
          refine Hf (fun _ => JH (AC rfl)) (fun et => ?_)
          have hne := htt et
          have hτ3 := hτ.trans hs3
          refine Ag fun J36 h36 => ?_
          have k36 : ∀ σ', J36 0 0 σ' := by
            intro σ'
            rw [h36]
            intro _
            exact Bd (fun _ => Bd (fun _ => JH (AC rfl)) (fun g => absurd rfl g)) (fun g => absurd rfl g)
          clear h36
          have hcnv : cnv m (ls.map AN) t g js' = (0, 0) := by
            unfold cnv
            rw [if_pos e1, if_pos ⟨hg, by rw [List.length_map]; exact hjl'⟩]
            refine Of (o := fun k => geI out k) (by rw [List.length_map]; exact hjl') (Int.le_refl _) (fun k q1 q2 => ?_) (fun _ q => absurd q (by decide)) (fun k q => ?_)
            · rw [List.length_map] at q1
              have q3 := hsch.2 k (by omega) q2
              have q4 := hne k q1 q2
              rw [List.getElem_map]
              rw [q3] at q4 ⊢
              have q5 := hoi k q1
              have q6 := hai k q1
              rw [Ey (xs := out) (by omega), Ey (xs := ar) (by omega)] at *
              have := (hbi k q1).jrn (d := out[k]'(by omega) - ar[k]'(by omega)) hm (hli k q1) f1 (fun e => q4 (by rw [e]; rfl)) (by omega) (by omega)
              rw [this]
              simp only [Prod.mk.injEq, and_true, true_and]
              omega
            · rw [List.length_map] at q
              have := hgap k q
              have e2 : geI out ((k : Nat) : Int) = out[k]'(by omega) := Ey (by omega)
              have e3 : geI out ((k + 1 : Nat) : Int) = out[k + 1]'(by omega) := Ey (by omega)
              rw [e2, e3]
              exact this
          have kC : ∀ σ107 A106 n106 c106 A105 n105 c105, Hp.Sub τ'' σ107 → RdS sL σ107 A106 n106 ls → F3 σ107 A105 n105 js' → cl Try.prog (.func (.func Dx) #[] #[]) #[w1.v, .slice A106 n106 c106, .int .i64 t, .int .i64 g, .slice A105 n105 c105] σ107 fun v108 σ109 =>
              ∃ n110 : Int, ∃ n111 : Int, (v108 = (.tuple #[(.int .i64 n110), (.int .i64 n111)]) ∧ J36 n110 n111 σ109) := by
            intro σ107 A106 n106 c106 A105 n105 c105 hs7 hlr hjr
            refine Bg DS (KJ (t := t) (g := g) (ls := ls) (hm1.up (hτ3.trans hs7)) (by omega) (by omega) hlr (by omega) hjr fun j hj => by have := hp2s j hj; omega) ?_
            rintro v σ109 ⟨rfl, rfl⟩
            rw [hcnv]
            exact ⟨_, _, rfl, k36 _⟩
          have kL : ∀ {K : Option Addr → Nat → Nat → Hp → Prop}, (∀ A n c σ42, Hp.Sub τ'' σ42 → F3 σ42 A n js' → K A n c σ42) → cl Try.prog (.func (.func ER) #[] #[]) #[.slice A2 n2 c2] τ'' fun v σ42 => ∃ A43 : Option Addr, ∃ l43 : Nat, ∃ c43 : Nat, (v = .slice A43 l43 c43 ∧ (Hp.Sub τ'' σ42 ∧ K A43 l43 c43 σ42)) := by
            intro K hk
            refine Bg Fk (NN (hjs.up hs3) (by omega) fun j hj => by have := hp2s j hj; omega) ?_
            rintro v σ42 ⟨A', n', c', rfl, hs4, hj4⟩
            exact ⟨_, _, _, rfl, hs4, hk _ _ _ _ hs4 hj4⟩
          have c3 : AB τ'' A n A2 n2 c2 w1.pA w1.pn w1.pc w1.rA w1.rn w1.rc t g J36 :=
            ⟨ls, hl8.sub hτ3, Bh (by show 0 + ls.length ≤ _; omega) (kL fun A5 n5 c5 σ104 hs4 hj4 A106 l106 c106 σ107 ho => kC σ107 A106 l106 c106 A5 n5 c5 (hs4.trans (Ap.sub ho)) (Ap.rd ho) (hj4.up (Ap.sub ho)))⟩
          have c4 : AK τ'' A n A2 n2 c2 w1.pA w1.pn w1.pc w1.rA w1.rn w1.rc t g J36 := c3
          repeat' first | exact c3 | exact c4 | apply And.intro
        clear h29
        refine ⟨fun q tt i τ'' => ∃ k : Nat, q = ls.length - k ∧ i = k ∧ k ≤ ls.length ∧ Hp.Sub τ' τ'' ∧ (tt = true → ∀ z (_ : z < ls.length) (_ : z < js'.length), z < k → js'[z] ≠ []), ⟨_, 0, rfl, rfl, Nat.zero_le _, Hp.Sub.refl _, fun _ z _ _ hz => absurd hz (Nat.not_lt_zero _)⟩, ?_⟩
        rintro q tt i τ'' ⟨k, rfl, rfl, hk, hs3, htt⟩ _
        have hτ3 := hτ.trans hs3
        refine Bd (fun hlt => ?_) (fun hge => k29 _ _ hs3 fun et z q1 q2 => htt et z q1 q2 (by omega))
        have hkl : k < ls.length := by omega
        refine Ag fun J210 h210 => ?_
        have k210 : ∀ tt' τ3, Hp.Sub τ'' τ3 → (tt' = true → tt = true ∧ ∀ (_ : k < js'.length), js'[k] ≠ []) → J210 tt' τ3 := by
          intro tt' τ3 hs4 htt'
          rw [h210]
          intro _
          refine AT (by omega) (BP _ (by omega) ⟨k + 1, rfl, rfl, by omega, hs3.trans hs4, fun et z q1 q2 q3 => ?_⟩)
          obtain ⟨q4, q5⟩ := htt' et
          by_cases ez : z = k
          · subst ez
            exact q5 q2
          · exact htt q4 z q1 q2 (by omega)
        clear h210
        refine Oi (hl8.sub hτ3) (by omega) (by simpa using hkl) ?_
        simp only [Int.toNat_natCast]
        refine Bg GG (QX (l := AN ls[k]) (hm1.up hτ3) (by omega) (by omega)) ?_
        rintro v σ224 (⟨ec, _⟩ | ⟨_, _, _, A5, n5, c5, (rc : List Int), rfl, ho5, hrc⟩)
        · exact absurd (Tl hm (hli k hkl)) ec
        have hrcl : rc.length = m.pk.length := hrc.1
        have hn5 : n5 = rc.length := Ap.len ho5
        have hs5 : Hp.Sub τ'' σ224 := Ap.sub ho5
        have hro5 : RdS [.int .i64] σ224 A1 n1 out := hro.sub (hs2.trans (hs3.trans hs5))
        refine ⟨_, _, _, _, rfl, ?_⟩
        have hreach : rc[t.toNat]'(by omega) = ar[k]'(by omega) := by
          have et : ((t.toNat : Nat) : Int) = t := by omega
          rcases hrc.2 t.toNat (by omega) with ⟨q1, _⟩ | ⟨cc, q1, q2⟩
          · rw [et] at q1
            exact absurd q1 (hbi k hkl).nn
          · rw [et] at q1
            have q3 := (hbi k hkl).sn
            rw [q2]
            have q4 := Sn.uniq1 q1 q3
            rw [q4]
            show (AN ls[k]).rdy + (ar[k]'(by omega) - (AN ls[k]).rdy) = _
            omega
        refine Ag fun J229 h229 => Ag fun J235 h235 => ?_
        have k235 : J235 false σ224 := by
          rw [h235]
          clear h235
          intro _
          refine FC ?_
          rw [h229]
          clear h229
          intro _
          refine IU (fun et => ?_) (fun et => k210 _ _ hs5 fun e => by cases e)
          refine Qv (hjs.up (hs3.trans hs5)) (by omega) (by rw [Int.toNat_natCast]; omega) fun A7 n7 c7 hrj => ?_
          simp only [Int.toNat_natCast] at hrj
          refine k210 _ _ hs5 fun e => ⟨et, fun q1 e2 => ?_⟩
          have e3 := of_decide_eq_true e
          have e4 := hrj.lenJ
          rw [e2] at e4
          have e4 : n7 = 0 := e4
          omega
        clear h235 h229
        have q5 := hoi k hkl
        refine Bu (fun g => absurd rfl g) (fun _ => Bd (fun g => by omega) (fun _ => Bd (fun g => by omega) (fun _ => ?_)))
        refine EN hro5 (by omega) (by rw [Int.toNat_natCast]; omega) (EN (Ap.rd ho5) (by omega) (show t.toNat < rc.length by omega) ?_)
        simp only [Int.toNat_natCast]
        rw [hreach]
        refine Bd (fun g => by omega) (fun _ => Bd (fun hk0 => ?_) (fun _ => k235))
        refine EN hro5 (by omega) (by rw [Int.toNat_natCast]; omega) ?_
        simp only [Int.toNat_natCast]
        refine AT (by omega) ?_
        refine EN hro5 (by omega) (by omega) ?_
        obtain ⟨k0, rfl⟩ : ∃ k0, k = k0 + 1 := ⟨k - 1, by omega⟩
        have q6 := hgap k0 hkl
        have q7 := hoi k0 (by omega)
        have e2 : (((k0 + 1 : Nat) : Int) - 1).toNat = k0 := by omega
        simp only [e2]
        refine AT (by omega) ?_
        rw [decide_eq_false (by omega)]
        exact k235
      have e2 : (!decide (((n2 : Nat) : Int) = ((n : Nat) : Int))) = false := by
        rw [decide_eq_true (by omega)]
        rfl
      refine Bu (fun g => absurd (by omega) g) (fun _ => ?_)
      rw [e2]
      exact k253
    clear h18
    have kA : ∀ A42 n42 c42 σ43, Ap 27 sL τ A42 n42 c42 ls σ43 →
        cl Try.prog (.func (.func CJ) #[] #[]) #[w1.v, .slice A42 n42 c42, .int .i64 t, .int .i64 g] σ43 fun v44 σ45 => ∃ A46 : Option Addr, ∃ l46 : Nat, ∃ c46 : Nat, ∃ n47 : Int, (v44 = (.tuple #[(.slice A46 l46 c46), (.int .i64 n47)]) ∧ J18 A46 l46 c46 n47 σ45) := by
      intro A42 n42 c42 σ43 ho
      refine Bg E1 (MO (t := t) (g := g) (hmt.up (Ap.sub ho)) (by omega) (by omega) (Ap.rd ho) (by omega)) ?_
      rintro v σ45 ⟨hs45, A6, n6, c6, e6, js6, rfl, hr6, hp6⟩
      exact ⟨_, _, _, _, rfl, k18 _ _ _ _ js6 _ ((Ap.sub ho).trans hs45) hr6 hp6⟩
    have c1 : Ar τ A n w1.pA w1.pn w1.pc w1.rA w1.rn w1.rc t g J18 :=
      ⟨ls, hlt, Bh (by show 0 + ls.length ≤ _; omega) fun A42 n42 c42 σ43 ho => kA A42 n42 c42 σ43 ho⟩
    repeat' first | exact c1 | apply And.intro
  clear h13
  have kA : ∀ A42 n42 c42 σ43, Ap 27 sL σ8 A42 n42 c42 ls σ43 →
      cl Try.prog (.func (.func CY) #[] #[]) #[w1.v, .slice A42 n42 c42, .int .i64 t, .int .i64 g] σ43 fun v44 σ45 => ∃ A46 : Option Addr, ∃ l46 : Nat, ∃ c46 : Nat, ∃ n47 : Int, (v44 = (.tuple #[(.slice A46 l46 c46), (.int .i64 n47)]) ∧ J13 A46 l46 c46 n47 σ45) := by
    intro A42 n42 c42 σ43 ho
    refine Bg EV (Mk (t := t) (g := g) (hm1.up (Ap.sub ho)) (by omega) (by omega) (Ap.rd ho) (by omega)) ?_
    rintro v σ45 ⟨hs45, A6, n6, c6, e6, (out6 : List Int), rfl, hr6, hp6⟩
    exact ⟨_, _, _, _, rfl, k13 _ _ _ _ out6 _ ((Ap.sub ho).trans hs45) hr6 hp6⟩
  have c2 : As σ8 A n w1.pA w1.pn w1.pc w1.rA w1.rn w1.rc t g J13 :=
    ⟨ls, hl8, Bh (by show 0 + ls.length ≤ _; omega) fun A42 n42 c42 σ43 ho => kA A42 n42 c42 σ43 ho⟩
  repeat' first | exact c2 | apply And.intro
set_option maxRecDepth 100000 in
theorem LA (os : Os) (started : os.Started) (H : Type) (enc : TypeId × Value → H) :
    ReturnsInHanded {} Try.checked os Cj .any (Rows.convoyApartSpec.pre6 enc Try.prog Try.f15 Rows.convoyApartRow.domain false) (Rows.convoyApartSpec.post enc Try.prog Try.f15 false true false false) := by
  refine returnsInHanded_of_change (C := Try.checked) Try.own started (by kernel_rfl) Try.func15
    (ChangeSpec.witness6 (enc := enc) (C := Try.checked) false ⟨#[], #[.agg #[.slice none 0 0, .slice none 0 0], .slice none 0 0, .agg #[.int .i64 0, .int .i64 0]], []⟩ 8 (by kernel_rfl) (by kernel_rfl) (by kernel_rfl) (by kernel_rfl)) ?_
  intro W base args ds gs before hval0 hW _ _
  have hval : ∀ (j : Nat) t v, Try.f15.params[j]? = some t → args[j]? = some v → Value.okWide Try.prog W .any base t v := hval0
  have hW' := hW
  obtain ⟨p, q, hA0, hV, rfl, hfz, hnd⟩ := hW
  have hA : DataW.TrodAll enc Try.prog W 0 (fun _ => true) true Try.f15.params.toList args.toList ds p := hA0
  have hA1 := hA
  rw [Try.params15] at hA hval
  obtain ⟨v0, v1, v2, d0, d1, d2, p0, p1, p2, rfl, rfl, rfl, h0, h1, h2⟩ := trodAll_three hA
  obtain ⟨rfl, rfl⟩ := trodVars_none hV
  obtain ⟨w, m, rfl, hm⟩ := P0 (hval 0 25 v0 rfl rfl) h0
  obtain ⟨lA, ln, lc, ls, rfl, hlc, hl⟩ := LM (hval 1 29 v1 rfl rfl) h1
  obtain ⟨t, g, rfl⟩ := QU (hval 2 62 v2 rfl rfl) h2
  simp only [List.append_nil] at hW' hA1
  exact P9 Try.laidOut (by kernel_rfl) rfl Try.underlying4 rfl rfl hW' hA1 (PK hm hl hlc)
theorem convoyApart_holds : Rows.ConvoyApartSaid :=
  OpenClaim.holds_of_wide Cj Try.f15 rfl rfl rfl rfl rfl rfl rfl ⟨rfl, rfl, rfl, rfl, rfl⟩ rfl rfl rfl rfl rfl (by kernel_rfl) Try.func15 (by kernel_rfl)
    (of_decide_eq_true (by kernel_rfl)) (by unfold Func.isWrapper; rw [if_neg (of_decide_eq_false (by kernel_rfl))]; exact ⟨rfl, rfl⟩)
    (fun os started H enc _ => LA os started H enc)
end Go.Proofs.Ytkdjkkimngeloaa
