/- Trimmed by wip/trim.py to what this claim rests on. -/
import Derived.Test.YtecodlefcmjihaaGreatWTd2
import Derived.Test.YtecodlefcmjihaaGreatWTk5
import Derived.Test.YtecodlefcmjihaaGreatWQLTopSpend
namespace Go.Proofs.YtecodlefcmjihaaGreat
open Go.RowKit Go.ChangeShapes Go.WideShapes Go.Deep Go.Joins
theorem Xb {σ : Hp} {A : Option Addr} {n c : Nat} {xs : List Int} (h : RdS [.int .i64] σ A n xs) (hl : xs.length ≤ 4294967296) (hb : ∀ k : Nat, -1000000000000 ≤ AB (xs.take k) ∧ AB (xs.take k) ≤ 1000000000000) :
    Al Tryz.prog To #[.slice A n c] σ fun v σ' => v = .int .i64 (AB xs) ∧ σ' = σ := by
  refine Pt _ _ _ _ _ ?_
  unfold MA
  have hn : n = xs.length := h.1
  refine Aj fun J3 h3 => ?_
  refine ⟨fun m t i τ => ∃ k : Nat, m = xs.length - k ∧ t = AB (xs.take k) ∧ i = k ∧ k ≤ xs.length ∧ τ = σ, ⟨_, 0, rfl, by simp [AB], rfl, by omega, rfl⟩, ?_⟩
  rintro m t i τ ⟨k, rfl, rfl, rfl, hk, rfl⟩ _
  refine AK (fun hlt => ?_) (fun _ => ?_)
  · have hkl : k < xs.length := by omega
    have e : AB (xs.take (k + 1)) = AB (xs.take k) + gt xs k := by
      rw [List.take_succ_eq_append_getElem hkl, Cn, Cd hkl]
      simp [AB]
    have := hb (k + 1)
    refine Gr h (by omega) (by omega) (AJ (by omega) (AJ (by omega) (Bb _ (by omega) ⟨k + 1, rfl, e.symm, by omega, by omega, rfl⟩)))
  · have : k = xs.length := by omega
    subst this
    rw [List.take_length, h3]
    intro _
    exact Az ⟨rfl, rfl⟩
def DlR (σ0 : Hp) (A : Option Addr) (n c : Nat) (D : List Dl) (σ : Hp) : Prop := An 45 s5 σ0 A n c D σ
theorem DlR.sub {σ0 σ : Hp} {A : Option Addr} {n c : Nat} {D : List Dl} (h : DlR σ0 A n c D σ) : Hp.Sub σ0 σ := An.sub h
theorem DlR.add {σ0 σ : Hp} {A : Option Addr} {n c : Nat} {D : List Dl} (h : DlR σ0 A n c D σ) (hl : D.length ≤ 3000000) (d : Dl) {K : Option Addr → Nat → Nat → Hp → Prop} (hk : ∀ A n c τ, DlR σ0 A n c (D ++ [d]) τ → K A n c τ) :
    adp 45 [.int .i64, .int .i64, .int .i64, .int .i64, .int .i64] A n c σ (fun (xs : List (Int × Int × Int × Int × Int)) σ' => B1 (List.length xs + List.length ([d] : List (Int × Int × Int × Int × Int))) (exl 45 [.int .i64, .int .i64, .int .i64, .int .i64, .int .i64] (xs ++ ([d] : List (Int × Int × Int × Int × Int))) σ' K)) := by
  refine CA (ss := s5) (xs := D) h ?_
  refine BF ?_ fun A n c σ' ho => hk A n c σ' ho
  show D.length + 1 ≤ _
  omega
set_option maxRecDepth 100000 in
theorem PO {H : Type} {enc : TypeId × Value → H} {W : World} {sp : Nat → Bool} {hd : Bool} {v : Value} {d : DataW H} {p : List MemPlace} {b0 : Nat} (hv : Value.okWide Tryz.prog W .any b0 35 v) (h : DataW.Trod enc Tryz.prog W 0 sp hd 35 v d p) : ∃ (l : SL) (bs : List (Int × Int)), v = l.v ∧ RdS s2 (EB W) l.A l.n bs := by
  obtain ⟨n, h⟩ := Ny Tryz.underlying35 hv h
  have helt : NO Tryz.prog 40 s2 := NO.struct Tryz.underlying40 (by kernel_rfl) (by kernel_rfl) (by kernel_rfl)
  obtain ⟨A, n, c, xs, rfl, _, hr⟩ := Mf Tryz.underlying35 helt (by kernel_rfl) (by decide) h
  exact ⟨⟨A, n, c⟩, xs, rfl, hr⟩
theorem Tu {h : Nat → Int} {n : Nat} (hs : ∀ i, i < n → 0 ≤ h i ∧ h i ≤ 2000) (k : Nat) : 0 ≤ AB (((List.range n).map h).take k) ∧ AB (((List.range n).map h).take k) ≤ 2000 * (((List.range n).map h).take k).length := Hz fun x hx => by
  obtain ⟨i, hi, rfl⟩ := List.mem_map.1 (List.mem_of_mem_take hx)
  exact hs i (List.mem_range.1 hi)
theorem WE {bs : List (Int × Int)} (hb : ∀ b ∈ bs, bOK b) : ∀ {ms : List Int} (j : Nat), ms.length = bs.length → KJ ms → 0 ≤ vW Prod.fst (bs.take j) (ms.take j) ∧ vW Prod.fst (bs.take j) (ms.take j) ≤ vW Prod.fst bs ms := by
  induction bs with
  | nil => intro ms j _ _; cases ms <;> simp [vW]
  | cons b bs ih =>
    intro ms j hl h0
    cases ms with
    | nil => simp at hl
    | cons k ms =>
      have hk := h0 k (List.mem_cons_self ..)
      have hb1 := (hb b (List.mem_cons_self ..)).1.1
      have hkb : 0 ≤ k * b.1 := Int.mul_nonneg hk (by omega)
      have hb' : ∀ x ∈ bs, bOK x := fun x hx => hb x (List.mem_cons_of_mem _ hx)
      have h0' : KJ ms := fun x hx => h0 x (List.mem_cons_of_mem _ hx)
      have hl' : ms.length = bs.length := by simpa using hl
      cases j with
      | zero =>
        have := ih hb' 0 hl' h0'
        have e : vW Prod.fst (bs.take 0) (ms.take 0) = 0 := rfl
        rw [e] at this
        refine ⟨Int.le_refl _, ?_⟩
        show (0 : Int) ≤ k * b.1 + vW Prod.fst bs ms
        omega
      | succ j =>
        have := ih hb' j hl' h0'
        show 0 ≤ k * b.1 + vW Prod.fst (bs.take j) (ms.take j) ∧ k * b.1 + vW Prod.fst (bs.take j) (ms.take j) ≤ k * b.1 + vW Prod.fst bs ms
        omega
theorem Ww {bs : List (Int × Int)} (hb : ∀ b ∈ bs, bOK b) {n : Int} (h0 : 0 ≤ n) (h1 : n ≤ 1000) (hp : ¬ prc bs n = none60) {j : Nat} (hj : j < bs.length) : 0 ≤ gt (Cl bs n) j ∧ gt (Cl bs n) j ≤ 2000 ∧ 0 ≤ gt (Cl bs n) j * (bs.getD j (0, 0)).1 ∧ 0 ≤ vW Prod.fst (bs.take j) ((Cl bs n).take j) ∧ vW Prod.fst (bs.take (j + 1)) ((Cl bs n).take (j + 1)) ≤ 2000 := by
  obtain ⟨s1, _, s3, s4, _⟩ := HU hb h0 hp
  have hs := (L7 (bs := bs) h0).2
  have hl : (Cl bs n).length = bs.length := s4
  have hg : 0 ≤ gt (Cl bs n) j := by rw [Cd (show j < (Cl bs n).length by omega)]; exact s3 _ (List.getElem_mem _)
  have hbj := (hb bs[j] (List.getElem_mem hj)).1.1
  have eb : bs.getD j (0, 0) = bs[j] := by simp [List.getD, hj]
  have hm : gt (Cl bs n) j ≤ gt (Cl bs n) j * (bs.getD j (0, 0)).1 := by
    have := Int.mul_le_mul_of_nonneg_left hbj hg
    rw [eb]; omega
  have h2 := WE hb (ms := Cl bs n) j hl s3
  have h3 := WE hb (ms := Cl bs n) (j + 1) hl s3
  have h4 := PF (w := Prod.fst) hl hj
  have h5 : vW Prod.fst bs (Cl bs n) = sel bs n := (UA _ _).trans s1
  rw [h5] at h2 h3
  rw [h4] at h3 ⊢
  have e : gt (Cl bs n) j * Prod.fst (bs.getD j (0, 0)) = gt (Cl bs n) j * (bs.getD j (0, 0)).1 := rfl
  rw [e] at h3 ⊢
  omega
def QL (D F : List Dl) : Prop := D.length ≤ 201 ∧ (D = F ∨ 200 < D.length)
theorem QL.full {D F : List Dl} (h : QL D F) (hl : D.length ≤ 200) : D = F := h.2.resolve_right (by omega)
set_option maxRecDepth 20000 in
theorem TH {σ : Hp} {w : Int} {r l : SL} {B : List BthG} {ws : Nat → SL} {G : List Grp} {bl : SL} {bs : List (Int × Int)} (he : EvR σ r B l ws G) (hbs : RdS s2 σ bl.A bl.n bs) : Al Tryz.prog Fq #[.agg #[r.v, .int .i64 w], l.v, bl.v] σ fun v _ => v = .bool true := by
  refine KH _ _ _ _ _ _ _ _ _ _ _ _ ?_
  unfold Fg
  have hbn : bl.n = bs.length := hbs.1
  refine Aj fun J3 h3 => Aj fun J347 h347 => ?_
  have k347 : ∀ t : Bool, (t = false → R8 B G = false ∧ G.length ≤ 12 ∧ 1 ≤ G.length ∧ bs.length ≤ 10) → J347 t σ := by
    intro t ht
    rw [h347]
    intro _
    refine El (fun _ => IW (Az rfl)) (fun hf => ?_)
    obtain ⟨hf, hG12, hG1, hb10⟩ := ht hf
    obtain ⟨f1, f2, f3⟩ := Xw hf
    have fw : ∀ k, (h : k < G.length) → G[k].wants.length ≤ 4294967296 := fun k hk => by have := f3 k hk; omega
    rw [h3]
    intro _
    clear h3 h347 ht
    obtain ⟨V, tk, hd, hD, hpl⟩ := QQ w B G
    refine AM FI (Vy he (by omega)) ?_
    rintro v σ5 ⟨r', rfl, ho⟩
    refine ⟨_, _, _, _, rfl, ?_⟩
    have he5 := he.sub ho.sub
    refine AM C1 (KA he5 (by omega) fw) ?_
    rintro v σ9 ⟨l', ws', rfl, hs9, hl', hw'⟩
    refine ⟨_, _, _, rfl, ?_⟩
    have he' : EvR σ9 r' B l' ws' G := ⟨ho.rd.sub hs9, hl', hw'⟩
    refine AM Kh ((hpl σ9 r' l' ws' he').1) ?_
    rintro v σ12 ⟨s, rfl, hs12, hrd⟩
    refine ⟨_, _, _, _, rfl, ?_⟩
    have q12 : Hp.Sub σ σ12 := (ho.sub.trans hs9).trans hs12
    have he12 := he.sub q12
    clear he' he5
    refine AM FI (Vy he12 (by omega)) ?_
    rintro v σ16 ⟨r1, rfl, ho1⟩
    refine ⟨_, _, _, _, rfl, ?_⟩
    have he16 := he12.sub ho1.sub
    refine AM C1 (KA he16 (by omega) fw) ?_
    rintro v σ20 ⟨l1, ws1, rfl, hs20, hl1, hw1⟩
    refine ⟨_, _, _, rfl, ?_⟩
    have he1 : EvR σ20 r1 B l1 ws1 G := ⟨ho1.rd.sub hs20, hl1, hw1⟩
    refine AM JY ((hpl σ20 r1 l1 ws1 he1).2.2) ?_
    rintro v σ23 ⟨sd, rfl, hod⟩
    refine ⟨_, _, _, _, rfl, ?_⟩
    have q23 : Hp.Sub σ12 σ23 := (ho1.sub.trans hs20).trans hod.sub
    have he23 := he12.sub q23
    have hbs23 := hbs.sub (q12.trans q23)
    have hr23 := hrd.sub q23
    clear he1 he16 hl1 hw1 ho1 hs20 hl' hw' ho hs9 hs12 hrd
    refine Aj fun J28 h28 => Aj fun J340 h340 => ?_
    refine BA (fun hc => ?_) (fun hc => ?_)
    · rw [h340]
      intro _
      exact N9 (AK (fun _ => IW (Az rfl)) (fun h => absurd rfl h))
    rw [h340, decide_eq_true hc]
    intro _
    refine M8 ?_
    rw [h28]
    intro _
    clear h28 h340
    have hv := K5 hc
    rw [Xq hc] at hr23
    rw [RK hc] at hod
    obtain ⟨⟨hm, D⟩, M, Mg⟩ := hD hv
    clear hD
    have hdR23 : RdS [.int .i64] σ23 sd.A sd.n hd := hod.rd
    have hdn : sd.n = hd.length := hdR23.lenI
    have hlh := M.lh
    have hrn := he23.lenR
    have hln := he23.lenL
    have hsn : s.n = V.length := hr23.1
    have hVl := D.len
    have ht0 : ∀ i : Nat, i < G.length → 0 ≤ (gd G i).tokens ∧ (gd G i).tokens ≤ 10000 := fun i hi => (hv.gr (g := (i : Int)) (by omega) (by omega)).2.2.1
    have hneed : ∀ i : Nat, i < G.length → 0 ≤ Bh G hd i ∧ Bh G hd i ≤ 10000 := fun i hi => by
      have h1 := Mg.g i (by omega) (by omega)
      have h2 := (M.h i (by omega) (by omega)).1
      have h3 := ht0 i hi
      have hride : ∀ v ∈ V, 0 ≤ (bd B v.ride).price * (gd G v.1).size := fun v hv' => by
        obtain ⟨a1, a2, a3, _⟩ := D.vi v hv'
        have h1 : 0 ≤ v.ride ∧ v.ride < B.length := by rw [a3]; exact hv.want a2.1 a2.2
        have h2 := (hv.gr a1.1 a1.2).2.1
        exact Int.mul_nonneg (hv.bt h1.1 h1.2).2.1.1 (by omega)
      have h4 := (Si (B := B) (G := G) (V := V) (g := (i : Int)) hride).1
      unfold Bh
      omega
    clear hod
    refine Aj fun J31 h31 => ?_
    have k31 : ∀ (W : Oh) (b : Nat) (σ30 : Hp), Hp.Sub σ23 σ30 → GW W σ30 (spF G.length B.length bs) → σ30 b = some (.cells (B3 W (spF G.length B.length bs)) 37 (0, 0), true) → J31 (some ⟨b, 0, none⟩) σ30 := by
      intro W b σ30 hs30 hW hblk
      rw [h31]
      intro _
      have he30 := he23.sub hs30
      have hr30 := hr23.sub hs30
      have hdR := hdR23.sub hs30
      have hbs30 := hbs23.sub hs30
      have fair : ∀ {τ : Hp} {K : Int → Int → Option Addr → Nat → Nat → Option Addr → Nat → Nat → Option Addr → Nat → Nat → Int → Int → Int → Prop}, Hp.Sub σ30 τ → K G.length B.length W.s.A W.s.n W.s.c W.c.A W.c.n W.c.c W.b.A W.b.n W.b.c 0 0 1 →
          dr (some ⟨b, 0, none⟩) fun b o => ldI τ .i64 b o fun n1 => ldI τ .i64 b (o + 1) fun n2 => ldS τ b (o + 2) fun A1 l1 c1 => ldS τ b (o + 3) fun A2 l2 c2 => ldS τ b (o + 4) fun A3 l3 c3 => ldI τ .i64 b (o + 5) fun n3 => ldI τ .i64 b (o + 6) fun n4 => ldI τ .i64 b (o + 7) fun n5 => K n1 n2 A1 l1 c1 A2 l2 c2 A3 l3 c3 n3 n4 n5 := fun {τ K} hτ hk => by
        have hb := hτ _ _ hblk
        exact AD (Bl hb rfl (Bl hb rfl (Bi hb rfl (Bi hb rfl (Bi hb rfl (Bl hb rfl (Bl hb rfl (Bl hb rfl hk))))))))
      have efc : (#[.int .i64 (G.length : Int), .int .i64 (B.length : Int), .slice W.s.A W.s.n W.s.c, .slice W.c.A W.c.n W.c.c, .slice W.b.A W.b.n W.b.c, .int .i64 0, .int .i64 0, .int .i64 1] : Array Value) = B3 W (spF G.length B.length bs) := rfl
      refine Aj fun J35 h35 => Aj fun J302 h302 => ?_
      refine fair (Hp.Sub.refl _) ?_
      rw [efc]
      have hlF : (spF G.length B.length bs).stock.length ≤ 4294967296 ∧ (spF G.length B.length bs).cash.length ≤ 4294967296 ∧ (spF G.length B.length bs).bundles.length ≤ 4294967296 := ⟨by show 1 ≤ _; omega, by show 1 ≤ _; omega, by show bs.length ≤ _; omega⟩
      refine AM BI (II hW hlF) ?_
      rintro v σ318 ⟨hs318, ⟨rfl, hok⟩ | ⟨rfl, _⟩⟩
      rotate_left
      · refine ⟨_, rfl, BA (fun _ => ?_) (fun h => by cases h)⟩
        rw [h302]
        intro _
        exact N9 (AK (fun _ => IW (Az rfl)) (fun h => absurd (by omega) h))
      refine ⟨_, rfl, BA (fun h => absurd rfl h) (fun _ => ?_)⟩
      rw [h302, decide_eq_true (show ((sd.n : Nat) : Int) = ((l.n : Nat) : Int) by omega)]
      intro _
      refine M8 ?_
      rw [h35]
      intro _
      clear h35 h302
      have hbok : ∀ b ∈ bs, bOK b := hok.bOK
      have hb6 : bs.length ≤ 6 := hok.bl
      refine Aj fun J38 h38 => ?_
      have good : ∀ i : Nat, i < G.length → (Bh G hd i ≤ 1000 ∧ ¬ prc bs (Bh G hd i) = none60) → 0 ≤ sel bs (Bh G hd i) ∧ sel bs (Bh G hd i) ≤ 2000 ∧ Bh G hd i ≤ sel bs (Bh G hd i) ∧ 0 ≤ prc bs (Bh G hd i) ∧ prc bs (Bh G hd i) ≤ 2000000000 := fun i hi h => by
        have h1 := hneed i hi
        obtain ⟨_, _, _, _, s5, s6⟩ := HU hbok h1.1 h.2
        have h2 := L7 (bs := bs) h1.1
        omega
      have k38 : ∀ (A : Option Addr) (n c : Nat) (Ds : List Dl) (σ1 τ : Hp), Hp.Sub σ30 σ1 → DlR σ1 A n c Ds τ → QL Ds (spD bs G hd G.length) → (∀ i : Nat, i < G.length → Bh G hd i ≤ 1000 ∧ ¬ prc bs (Bh G hd i) = none60) →
          J38 A n c (BZ G hd G.length) ((List.range G.length).map fun i => sel bs (Bh G hd i)) (AB ((BZ G hd G.length).map (prc bs))) (AB (BZ G hd G.length)) τ := by
        intro A n c Ds σ1 τ hs1 hA hup hgd
        rw [h38]
        intro _
        obtain ⟨sp, hsp⟩ : ∃ sp, sp = BZ G hd G.length := ⟨_, rfl⟩
        obtain ⟨bo, hbo⟩ : ∃ bo, bo = (List.range G.length).map fun i => sel bs (Bh G hd i) := ⟨_, rfl⟩
        have hspl : sp.length = G.length := by rw [hsp]; unfold BZ; simp
        have hbol : bo.length = G.length := by rw [hbo]; simp
        have hspg : ∀ i : Nat, i < G.length → gt sp i = Bh G hd i := fun i hi => by rw [Cd (by omega)]; subst hsp; unfold BZ; simp
        have hbog : ∀ i : Nat, i < G.length → gt bo i = sel bs (Bh G hd i) := fun i hi => by rw [Cd (by omega)]; subst hbo; simp
        have hspx : ∀ n ∈ sp, 0 ≤ n ∧ n ≤ 1000 ∧ ¬ prc bs n = none60 := fun n hn => by
          rw [hsp] at hn
          obtain ⟨i, hi, rfl⟩ := List.mem_map.1 hn
          have hi := List.mem_range.1 hi
          exact ⟨(hneed i hi).1, (hgd i hi).1, (hgd i hi).2⟩
        have hbob : ∀ k, 0 ≤ AB (bo.take k) ∧ AB (bo.take k) ≤ 2000 * (bo.take k).length := fun k => by
          rw [hbo]
          exact Tu (fun i hi => ⟨(good i hi (hgd i hi)).1, (good i hi (hgd i hi)).2.1⟩) k
        rw [← hsp, ← hbo]
        refine Aj fun J46 h46 => ?_
        have k46 : ∀ (A : Option Addr) (n c : Nat) (Ds : List Dl) (σ1 τ : Hp), Hp.Sub σ30 σ1 → DlR σ1 A n c Ds τ → (Ds = spD bs G hd G.length ++ rid B G V ∨ 200 < Ds.length) → (∀ v ∈ V, v.on = true → v.left ≤ 1440) → J46 A n c τ := by
          intro A n c Ds σ1 τ hs1 hA hup hleft
          rw [h46]
          intro _
          have hAl : n = Ds.length := An.len hA
          refine Aj fun J50 h50 => ?_
          have k50 : ∀ (σ2 τ : Hp), Hp.Sub σ30 σ2 → DlR σ2 A n c (spD bs G hd G.length ++ rid B G V) τ → (spD bs G hd G.length ++ rid B G V).length ≤ 200 → AB bo ≤ 100000 → AB sp ≤ 1000 → J50 bo τ := by
            intro σ2 τ hs2 hA hle hsb hss
            rw [h50]
            intro _
            have hsτ : Hp.Sub σ30 τ := hs2.trans hA.sub
            have T := Yd (bs := bs) hv D M Mg hok (fun i hi => ⟨⟨(hneed i hi).1, (hgd i hi).1⟩, (hgd i hi).2⟩) (by rw [← hbo]; exact hsb) hleft
            refine fair hsτ ?_
            rw [efc]
            have hDr : RdS s5 τ A n (spD bs G hd G.length ++ rid B G V) := An.rd hA
            refine AM JG (VC (l := ⟨A, n, c⟩) (hW.sub hsτ) hok hDr hle T.pos) ?_
            rintro _ σ63 ⟨N, rfl, hN⟩
            refine ⟨_, _, _, _, _, _, _, _, _, _, _, _, _, _, rfl, ?_⟩
            obtain ⟨_, hNc, hNp, _⟩ := hN.rd
            have hlp := T.lp
            have hNn : N.p.n = G.length := hNp.1.trans ((List.length_map ..).trans T.lp)
            rw [T.c] at hNc
            refine Aj fun J72 h72 => ?_
            have k72 : ∀ τ' : Hp, Hp.Sub σ63 τ' → J72 τ' := by
              intro τ' hs'
              rw [h72]
              intro _
              have hp4 : ∀ k : Nat, k < G.length → ∀ K : Int → Prop, K (sel bs (Bh G hd k) - Bh G hd k) → ix N.p.A N.p.n k 2 fun b a => ldI τ' .i64 b a K := fun k hk K hK =>
                (A0.pix ⟨hN.m.up hs', hN.f⟩ (i := (k : Int)) (by omega) (by omega) fun b o c0 _ => Bs c0 (by rw [T.p k hk]; exact hK))
              have hsτ' : Hp.Sub σ30 τ' := (hsτ.trans hN.sub).trans hs'
              clear T hN hNc hNp
              refine Aj fun J75 h75 => ?_
              have k75 : J75 τ' := by
                rw [h75]
                intro _
                refine fair hsτ' ?_
                rw [efc]
                intro A86 l86 c86 σ87 o87
                refine AM I2 (U1 ((hW.sub hsτ').sub o87.sub) hok o87.rd hspx hss ⟨by omega, by omega⟩) ?_
                rintro _ σ89 ⟨hs89, rfl⟩
                obtain ⟨p1, p2⟩ := Lx hbok hspx (by omega)
                have hs0 := P8 (fun x hx => (hspx x hx).1) sp.length
                rw [List.take_length] at hs0
                have hpp := HU hbok hs0.1 p2
                refine ⟨_, _, _, rfl, AK (fun _ => AK (fun _ => AJ ?_ (AK (fun _ => IW (Az rfl)) (fun h => ?_))) (fun h => ?_)) (fun h => absurd rfl h)⟩
                · refine (show -9223372036854775808 ≤ prc bs (AB sp) + (-prc bs (AB sp) + AB (sp.map (prc bs))) ∧ prc bs (AB sp) + (-prc bs (AB sp) + AB (sp.map (prc bs))) ≤ 9223372036854775807 from ?_)
                  obtain ⟨_, _, _, _, _, _, q6, q7⟩ := Pz hbok sp hspx
                  omega
                · exfalso
                  apply h
                  show prc bs (AB sp) + (-prc bs (AB sp) + AB (sp.map (prc bs))) = AB (sp.map (prc bs))
                  omega
                · exfalso
                  apply h
                  show 0 ≤ -prc bs (AB sp) + AB (sp.map (prc bs))
                  omega
              refine ⟨fun n i τ => ∃ k : Nat, n = G.length - k ∧ i = k ∧ k ≤ G.length ∧ τ = τ', ⟨_, 0, rfl, rfl, by omega, rfl⟩, ?_⟩
              rintro n i τ2 ⟨k, rfl, rfl, hk, rfl⟩ _
              refine AK (fun hlt => ?_) (fun _ => k75)
              have hkl : k < G.length := by omega
              obtain ⟨g0, g1, g2, _⟩ := good k hkl (hgd k hkl)
              have hn0 := hneed k hkl
              refine Aj fun J104 h104 => Aj fun J110 h110 => ?_
              refine ⟨by omega, by omega, Pb (by omega) (by omega) ?_⟩
              refine ⟨by omega, by omega, Pb (by omega) (by omega) ?_⟩
              rw [hspg k hkl, hbog k hkl]
              refine AK (fun h => absurd h (by omega)) (fun _ => ?_)
              refine hp4 k hkl _ ?_
              refine ⟨by omega, by omega, Pb (by omega) (by omega) ?_⟩
              refine ⟨by omega, by omega, Pb (by omega) (by omega) ?_⟩
              rw [hspg k hkl, hbog k hkl]
              refine AJ (by omega) ?_
              rw [h110, decide_eq_true rfl]
              intro _
              refine M8 ?_
              rw [h104]
              intro _
              exact AJ (by omega) (Bb _ (by omega) ⟨k + 1, rfl, by omega, by omega, rfl⟩)
            refine Aj fun J122 h122 => ?_
            refine BA (fun h => absurd rfl h) (fun _ => BA (fun h => absurd (by omega) h) (fun _ => ?_))
            intro A124 l124 c124 σ125 o125
            refine clB Ew (MJ (hNc.sub o125.sub) o125.rd (by simp)) ?_
            rw [h122, decide_eq_true (by rw [hsp])]
            intro _
            exact M8 (k72 _ o125.sub)
          refine Aj fun J131 h131 => ?_
          have kT : ∀ (xs : List Int) (τ : Hp), J131 xs true τ := by
            intro xs τ
            rw [h131]
            intro _
            exact N9 (IW (Az rfl))
          refine AK (fun _ => kT _ _) (fun hle => ?_)
          have hDs : Ds = spD bs G hd G.length ++ rid B G V := hup.resolve_right (by omega)
          subst hDs
          intro A137 l137 c137 σ138 o138
          have b0 := hbob bo.length
          rw [List.take_length] at b0
          refine AM Ng (Xb o138.rd (by omega) fun k => ?_) ?_
          · have := hbob k
            have e : (bo.take k).length ≤ 12 := by rw [List.length_take]; omega
            omega
          rintro _ _ ⟨rfl, rfl⟩
          refine ⟨_, rfl, CA o138 ?_⟩
          refine AK (fun _ => kT _ _) (fun hsb => ?_)
          rw [h131]
          intro _
          exact AK (fun _ => IW (Az rfl)) (fun hss => k50 σ1 τ hs1 hA (by omega) (by omega) (by omega))
        obtain ⟨D0, hD0⟩ : ∃ D0, D0 = spD bs G hd G.length := ⟨_, rfl⟩
        rw [← hD0] at hup k46
        have hn0 : n = Ds.length := An.len hA
        refine ⟨fun m A n c i τ => ∃ (t : Nat) (D1 : List Dl), m = V.length - t ∧ i = t ∧ t ≤ V.length ∧ DlR σ1 A n c D1 τ ∧ D1.length ≤ 201 + t ∧ (D1 = D0 ++ rid B G (V.take t) ∨ 200 < D1.length) ∧ ∀ v ∈ V.take t, v.on = true → v.left ≤ 1440, ⟨_, 0, Ds, rfl, rfl, by omega, hA, by have := hup.1; omega, ?_, fun v hv => by cases hv⟩, ?_⟩
        · have e : D0 ++ rid B G (V.take 0) = D0 := List.append_nil _
          rw [e]
          exact hup.2
        rintro m A n c i τ ⟨t, D1, rfl, rfl, htl, hA, hlen, hD1, hleft⟩ _
        refine AK (fun hlt => ?_) (fun hlt => ?_)
        · have htl : t < V.length := by omega
          have eT : V.take (t + 1) = V.take t ++ [V[t]] := List.take_succ_eq_append_getElem htl
          refine Aj fun J152 h152 => ?_
          have k152 : ∀ A n c D1 τ, DlR σ1 A n c D1 τ → D1.length ≤ 201 + (t + 1) → (D1 = D0 ++ rid B G (V.take (t + 1)) ∨ 200 < D1.length) → (V[t].on = true → V[t].left ≤ 1440) → J152 A n c τ := by
            intro A n c D1 τ hA hlen hD1 hl
            rw [h152]
            intro _
            refine AJ (by omega) (Bb _ (by omega) ⟨t + 1, D1, rfl, by omega, by omega, hA, hlen, hD1, fun v hv hon => ?_⟩)
            rw [eT] at hv
            rcases List.mem_append.1 hv with h | h
            · exact hleft v h hon
            · rw [List.mem_singleton] at h
              subst h
              exact hl hon
          have hmem := List.getElem_mem htl
          rw [eT, Tf, ← List.append_assoc] at k152
          have hsτ : Hp.Sub σ30 τ := hs1.trans hA.sub
          have heτ := he30.sub hsτ
          refine (hr30.sub hsτ).vix htl rfl fun b o c0 c1 c2 c3 c4 c5 => Bs c0 (Bs c1 (Bs c2 (Xt c3 (Bs c4 (Bs c5 ?_)))))
          clear c0 c1 c2 c3 c4 c5 hlt eT
          generalize V[t] = v at *
          obtain ⟨⟨g0, g1⟩, ⟨w0, w1⟩, hr, _⟩ : (0 ≤ v.1 ∧ v.1 < G.length) ∧ (0 ≤ v.2.1 ∧ v.2.1 < (gd G v.1).wants.length) ∧ v.2.2.1 = gt (gd G v.1).wants v.2.1 ∧ True := by
            obtain ⟨a, b, c, _⟩ := D.vi v hmem
            exact ⟨a, b, c, trivial⟩
          have hrr : 0 ≤ v.2.2.1 ∧ v.2.2.1 < B.length := by rw [hr]; exact hv.want w0 w1
          have hbt := (hv.bt hrr.1 hrr.2).2.1
          have hgs := (hv.gr g0 g1).2.1
          have hpm : 0 ≤ (bd B v.2.2.1).price * (gd G v.1).size ∧ (bd B v.2.2.1).price * (gd G v.1).size ≤ 4000 := by
            refine ⟨Int.mul_nonneg hbt.1 (by omega), ?_⟩
            exact Int.le_trans (Int.mul_le_mul hbt.2 hgs.2 (by omega) (by omega)) (by omega)
          refine Aj fun J167 h167 => ?_
          have k167 : J167 τ := by
            rw [h167]
            intro _
            refine Aj fun J170 h170 => ?_
            have k170 : (v.2.2.2.1 = true → v.2.2.2.2.2 ≤ 1440) → J170 τ := by
              intro hl
              rw [h170]
              intro _
              refine El (fun hon => ?_) (fun hon => ?_)
              · refine heτ.rix hrr.1 hrr.2 fun b a _ d1 _ _ _ => Bs d1 ?_
                refine heτ.gix g0 g1 fun b a _ d1 _ _ _ => Bs d1 (AJ (by omega) ?_)
                refine hA.add (by omega) _ fun A n c τ' h' => k152 A n c _ τ' h' (by simp; omega) ?_ hl
                have e : rid B G [v] = [Vp B G v] := by rw [Li, if_pos (show v.on = true from hon)]; rfl
                rw [e]
                rcases hD1 with h | h
                · exact .inl (by rw [h]; rfl)
                · exact .inr (by simp; omega)
              · refine k152 A n c _ τ hA (by omega) ?_ hl
                have e : rid B G [v] = [] := by rw [Li, if_neg (by rw [show v.on = false from hon]; simp)]; rfl
                rw [e, List.append_nil]
                exact hD1
            refine Aj fun J184 h184 => ?_
            have k184 : ∀ b : Bool, (b = false → v.2.2.2.1 = true → v.2.2.2.2.2 ≤ 1440) → J184 b τ := by
              intro b hb
              rw [h184]
              intro _
              exact El (fun _ => IW (Az rfl)) (fun e => k170 (hb e))
            refine El (fun hon => k184 _ fun e _ => ?_) (fun hon => k184 _ fun _ e => ?_)
            · have := of_decide_eq_false e
              omega
            · rw [hon] at e; cases e
          refine Aj fun J191 h191 => ?_
          have k191 : J191 false τ := by
            rw [h191]
            intro _
            exact k167
          refine AK (fun h => absurd h (by omega)) (fun _ => ?_)
          refine AK (fun h => absurd h (by omega)) (fun _ => ?_)
          refine AK (fun h => absurd h (by omega)) (fun _ => ?_)
          rw [decide_eq_false (by omega)]
          exact k191
        · have : t = V.length := by omega
          subst this
          rw [List.take_length] at hD1 hleft
          exact k46 A n c D1 σ1 τ hs1 hA hD1 hleft
      refine ⟨fun m A n c xs ys a b i τ => ∃ (k : Nat) (Ds : List Dl) (σ1 : Hp), m = G.length - k ∧ i = k ∧ k ≤ G.length ∧ xs = BZ G hd k ∧ ys = (List.range k).map (fun i => sel bs (Bh G hd i)) ∧ a = AB ((BZ G hd k).map (prc bs)) ∧ b = AB (BZ G hd k) ∧ Hp.Sub σ30 σ1 ∧ DlR σ1 A n c Ds τ ∧ QL Ds (spD bs G hd k) ∧ ∀ i : Nat, i < k → Bh G hd i ≤ 1000 ∧ ¬ prc bs (Bh G hd i) = none60,
        ⟨_, Lw.2 (Lw.2 ⟨0, [], _, rfl, rfl, by omega, rfl, rfl, rfl, rfl, hs318, An.nil _ _ _, ⟨by simp, .inl rfl⟩, fun i hi => absurd hi (by omega)⟩)⟩, ?_⟩
      rintro m A n c xs ys a b' i τ ⟨k, Ds, σ1, rfl, rfl, hk, rfl, rfl, rfl, rfl, hs1, hA, hup, hgd⟩ _
      refine AK (fun hlt => ?_) (fun hlt => ?_)
      · have hkl : k < G.length := by omega
        have hsτ : Hp.Sub σ30 τ := hs1.trans hA.sub
        have heτ := he30.sub hsτ
        obtain ⟨n0, n1⟩ := hneed k hkl
        refine Aj fun J209 h209 => ?_
        have eg : G[k].tokens = (gd G k).tokens := by simp [gd, List.getD, hkl]
        obtain ⟨t0, t1⟩ := ht0 k hkl
        refine heτ.group hkl fun b o _ _ d2 _ _ => Bs d2 ?_
        clear d2
        rw [eg]
        refine Gr (hdR.sub hsτ) (by omega) (by omega) ?_
        have en : (gd G k).tokens - gt hd k = Bh G hd k := rfl
        refine AJ (by rw [en]; omega) ?_
        rw [en]
        refine AK (fun h => absurd h (by omega)) (fun _ => fair hsτ ?_)
        rw [efc]
        refine cl.own (AM Fv (V0 (n := Bh G hd k) (hW.sub hs1) hok) fun v σ' h => h) hA ?_
        rintro _ σ2 σ236 ⟨ms, p, e, rfl, hs2, hy, _⟩ hA
        refine ⟨_, _, _, _, _, rfl, BA (fun _ => IW (Az rfl)) (fun he0 => ?_)⟩
        obtain ⟨_, ⟨_, n2⟩, hpn, rfl, hms⟩ := hy he0
        have epb : prc (spF G.length B.length bs).bundles (Bh G hd k) = prc bs (Bh G hd k) := rfl
        obtain ⟨m1, m2, m3, m4, _⟩ := HU hbok n0 hpn
        have hmn : ms.n = bs.length := hms.lenI.trans m4
        have hs2 := hs1.trans hs2
        refine BA (fun h => absurd (by omega) h) (fun _ => ?_)
        obtain ⟨my, hmy⟩ : ∃ my, my = Cl bs (Bh G hd k) := ⟨_, rfl⟩
        have hms : RdS [.int .i64] σ2 ms.A ms.n my := by rw [hmy]; exact hms
        have hmyl : my.length = bs.length := by rw [hmy]; exact m4
        refine Aj fun J245 h245 => ?_
        have gsum : 0 ≤ AB (BZ G hd (k + 1)) ∧ AB (BZ G hd (k + 1)) ≤ 1000 * ((BZ G hd (k + 1)).length : Nat) := by
          have := Hz (xs := BZ G hd (k + 1)) (m := 1000) fun x hx => by
            obtain ⟨i, hi, rfl⟩ := List.mem_map.1 hx
            have hi := List.mem_range.1 hi
            by_cases c : i = k
            · subst c; exact ⟨n0, n2⟩
            · exact ⟨(hneed i (by omega)).1, (hgd i (by omega)).1⟩
          exact this
        have psum : 0 ≤ AB ((BZ G hd (k + 1)).map (prc bs)) ∧ AB ((BZ G hd (k + 1)).map (prc bs)) ≤ 2000000000 * (((BZ G hd (k + 1)).map (prc bs)).length : Nat) := by
          have := Hz (xs := (BZ G hd (k + 1)).map (prc bs)) (m := 2000000000) fun x hx => by
            obtain ⟨n, hn, rfl⟩ := List.mem_map.1 hx
            obtain ⟨i, hi, rfl⟩ := List.mem_map.1 hn
            have hi := List.mem_range.1 hi
            by_cases c : i = k
            · subst c
              have := good i hkl ⟨n2, hpn⟩
              omega
            · have := good i (by omega) (hgd i (by omega))
              omega
          exact this
        have nl : (BZ G hd (k + 1)).length = k + 1 := by unfold BZ; simp
        have nl' : (BZ G hd k).length = k := by unfold BZ; simp
        rw [List.length_map, nl] at psum
        rw [nl] at gsum
        have sapp : ∀ (xs : List Int) (y : Int), AB (xs ++ [y]) = AB xs + y := fun xs y => by rw [Cn]; simp [AB]
        rw [FG] at gsum
        rw [FG, List.map_append] at psum
        have gs2 := sapp (BZ G hd k) (Bh G hd k)
        have ps2 : AB ((BZ G hd k).map (prc bs) ++ [Bh G hd k].map (prc bs)) = AB ((BZ G hd k).map (prc bs)) + prc bs (Bh G hd k) := sapp _ _
        have k245 : ∀ A n c Ds τ, DlR σ2 A n c Ds τ → QL Ds (spD bs G hd (k + 1)) → J245 A n c (sel bs (Bh G hd k)) τ := by
          intro A n c Ds τ hA hup
          rw [h245]
          intro _
          refine BF (by rw [nl']; show k + 1 ≤ _; omega) (BF (by simp; omega) (AJ (by omega) (AJ (by omega) ?_)))
          rw [h209]
          intro _
          refine AJ (by omega) (Bb _ (by omega) ⟨k + 1, Ds, σ2, rfl, by omega, by omega, FG.symm, ?_, ?_, ?_, hs2, hA, hup, fun i hi => ?_⟩)
          · rw [List.range_succ, List.map_append]
            rfl
          · rw [FG, List.map_append, ps2, epb]
          · rw [FG, gs2]
          · by_cases c : i = k
            · subst c; exact ⟨n2, hpn⟩
            · exact hgd i (by omega)
        have e245 : spD bs G hd (k + 1) = spD bs G hd k ++ spK k my bs.length := by rw [hmy]; rfl
        rw [e245] at k245
        obtain ⟨D0, hD0⟩ : ∃ D0, D0 = spD bs G hd k := ⟨_, rfl⟩
        rw [← hD0] at k245 hup
        have hsel : sel bs (Bh G hd k) = vW Prod.fst (bs.take bs.length) (my.take bs.length) := by
          have e2 : my.take bs.length = my := List.take_of_length_le (by omega)
          rw [List.take_length, e2, UA, hmy]
          exact m1.symm
        rw [hsel] at k245
        have hbd : ∀ j : Nat, j < bs.length → 0 ≤ gt my j ∧ gt my j ≤ 2000 ∧ 0 ≤ gt my j * (bs.getD j (0, 0)).1 ∧ 0 ≤ vW Prod.fst (bs.take j) (my.take j) ∧ vW Prod.fst (bs.take (j + 1)) (my.take (j + 1)) ≤ 2000 := fun j hj => by
          rw [hmy]
          exact Ww hbok n0 n2 hpn hj
        clear hmy
        refine ⟨fun m A n c a i τ => ∃ (j : Nat) (Ds : List Dl), m = bs.length - j ∧ i = j ∧ j ≤ bs.length ∧ a = vW Prod.fst (bs.take j) (my.take j) ∧ DlR σ2 A n c Ds τ ∧ QL Ds (D0 ++ spK k my j), ⟨_, 0, Ds, rfl, rfl, by omega, rfl, hA, ?_⟩, ?_⟩
        · have e : D0 ++ spK k my 0 = D0 := List.append_nil _
          rw [e]
          exact hup
        rintro m A n c a i τ ⟨j, Ds, rfl, rfl, hj, rfl, hA, hup⟩ _
        refine AK (fun hlt => ?_) (fun hlt => ?_)
        · have hjl : j < bs.length := by omega
          obtain ⟨c1, c2, c3, c4, c5⟩ := hbd j hjl
          have hvt := PF (w := Prod.fst) hmyl hjl
          refine Aj fun J259 h259 => Aj fun J267 h267 => ?_
          have k267 : ∀ A n c Ds τ, DlR σ2 A n c Ds τ → QL Ds (D0 ++ spK k my (j + 1)) → J267 A n c τ := by
            intro A n c Ds τ hA hup
            rw [h267]
            intro _
            have hsτ := hA.sub
            refine Gr (hms.sub hsτ) (by omega) (by omega) ?_
            have hx := (hbs30.sub hs2).sub hsτ
            have ebj : bs.getD j (0, 0) = bs[j] := by simp [List.getD, hjl]
            refine Qu hx hjl fun b o d0 _ => Bs d0 ?_
            rw [← ebj]
            have hvt' : vW Prod.fst (bs.take (j + 1)) (my.take (j + 1)) = vW Prod.fst (bs.take j) (my.take j) + gt my j * (bs.getD j (0, 0)).1 := hvt
            refine AJ (by omega) (AJ (by omega) ?_)
            rw [h259]
            intro _
            exact AJ (by omega) (Bb _ (by omega) ⟨j + 1, Ds, rfl, by omega, by omega, hvt'.symm, hA, hup⟩)
          refine ⟨fun m A n c i τ => ∃ (q : Nat) (Ds : List Dl), m = (gt my j).toNat - q ∧ i = q ∧ q ≤ (gt my j).toNat ∧ DlR σ2 A n c Ds τ ∧ QL Ds (D0 ++ spK k my j ++ List.replicate q (((0 : Int), (1 : Int), (0 : Int), (k : Int), (j : Int)) : Dl)), ⟨_, 0, Ds, rfl, rfl, by omega, hA, by rw [List.replicate_zero, List.append_nil]; exact hup⟩, ?_⟩
          rintro m A n c i τ ⟨q, Ds, rfl, rfl, hq, hA, hup⟩ _
          refine Aj fun J285 h285 => Aj fun J295 h295 => ?_
          have hAl : n = Ds.length := An.len hA
          have out : (q = (gt my j).toNat ∨ 200 < Ds.length) → J295 false τ := by
            intro ho
            rw [h295]
            intro _
            refine M8 (k267 A n c Ds τ hA ⟨hup.1, ?_⟩)
            rcases ho with ho | ho
            · rcases hup.2 with h | h
              · left
                rw [h, ho, List.append_assoc]
                rfl
              · exact .inr h
            · exact .inr ho
          refine Gr (hms.sub hA.sub) (by omega) (by omega) ?_
          refine AK (fun hql => ?_) (fun hql => out (.inl (by omega)))
          by_cases hl2 : Ds.length ≤ 200
          · rw [h295, decide_eq_true (show ((n : Nat) : Int) ≤ 200 by omega)]
            intro _
            refine N9 ?_
            rw [h285]
            intro _
            refine CA (ss := s5) (xs := Ds) hA ?_
            refine BF (by show Ds.length + 1 ≤ _; omega) (AJ (by omega) (Bb _ (show (gt my j).toNat - (q + 1) < _ by omega) ?_))
            intro A2 n2 c2 σ3 o3
            refine ⟨q + 1, Ds ++ [_], rfl, by omega, by omega, o3, ⟨by simp; omega, .inl ?_⟩⟩
            rw [hup.full hl2, List.replicate_succ', ← List.append_assoc]
          · rw [decide_eq_false (show ¬ ((n : Nat) : Int) ≤ 200 by omega)]
            exact out (.inr (by omega))
        · have : j = bs.length := by omega
          subst this
          exact k245 A n c Ds τ hA hup
      · have : k = G.length := by omega
        subst this
        exact k38 A n c Ds σ1 τ hs1 hA hup hgd
    have key : ∃ ys : List (Int × Int), RdS s2 σ23 bl.A bl.n ys ∧ B1 (List.length ([] : List (Int × Int)) + List.length ys) (exl 3 [.int .i64] ([100000] : List Int) σ23 fun A1 l1 c1 τ1 => exl 3 [.int .i64] ([0] : List Int) τ1 fun A2 l2 c2 τ2 => exl 40 [.int .i64, .int .i64] (([] : List (Int × Int)) ++ ys) τ2 fun A3 l3 c3 τ3 =>
        bx τ3 (.cells #[.int .i64 ((l.n : Nat) : Int), .int .i64 ((r.n : Nat) : Int), .slice A1 l1 c1, .slice A2 l2 c2, .slice A3 l3 c3, .int .i64 0, .int .i64 0, .int .i64 1] 37) fun b τ4 => J31 (some ⟨b, 0, none⟩) τ4) := by
      refine ⟨bs, hbs23, BF (by show 0 + bs.length ≤ _; omega) ?_⟩
      intro A1 l1 c1 τ1 o1 A2 l2 c2 τ2 o2 A3 l3 c3 τ3 o3 b nb
      have hs3 : Hp.Sub σ23 τ3 := o1.sub.trans (o2.sub.trans o3.sub)
      have hsb : Hp.Sub τ3 (τ3.ins b (.cells #[.int .i64 ((l.n : Nat) : Int), .int .i64 ((r.n : Nat) : Int), .slice A1 l1 c1, .slice A2 l2 c2, .slice A3 l3 c3, .int .i64 0, .int .i64 0, .int .i64 1] 37 (0, 0))) := Hp.Sub.ins _ nb
      refine k31 ⟨⟨A1, l1, c1⟩, ⟨A2, l2, c2⟩, ⟨A3, l3, c3⟩⟩ b _ (hs3.trans hsb) ⟨(o1.rd.sub (o2.sub.trans o3.sub)).sub hsb, (o2.rd.sub o3.sub).sub hsb, ?_⟩ ?_
      · exact RdS.sub (show RdS s2 τ3 A3 l3 bs from o3.rd) hsb
      · have e1 : ((l.n : Nat) : Int) = (G.length : Int) := by omega
        have e2 : ((r.n : Nat) : Int) = (B.length : Int) := by omega
        rw [e1, e2]
        exact Hp.ins_same ..
    exact ⟨key, key⟩
  refine clB Lg (XP he) (El (fun _ => k347 true fun h => by cases h) (fun hf => ?_))
  refine AK (fun _ => k347 true fun h => by cases h) (fun h12 => ?_)
  have hln := he.lenL
  refine AK (fun _ => k347 true fun h => by cases h) (fun h0 => k347 _ fun h => ⟨hf, by omega, by omega, ?_⟩)
  have h := of_decide_eq_false h
  omega
set_option maxRecDepth 100000 in
theorem PR (os : Os) (started : os.Started) (H : Type) (enc : TypeId × Value → H) :
    ReturnsInHanded {} Tryz.checked os Fq .any (Rows.topSpendSpec.pre6 enc Tryz.prog Tryz.f4 Rows.topSpendRow.domain false) (Rows.topSpendSpec.post enc Tryz.prog Tryz.f4 false true false false) := by
  refine returnsInHanded_of_change (C := Tryz.checked) Tryz.own started (by kernel_rfl) Tryz.func4
    (ChangeSpec.witness6 (enc := enc) (C := Tryz.checked) false ⟨#[], #[.agg #[.slice none 0 0, .int .i64 0], .slice none 0 0, .slice none 0 0], []⟩ 8 (by kernel_rfl) (by kernel_rfl) (by kernel_rfl) (by kernel_rfl)) ?_
  intro W base args ds gs before hval0 hW _ _
  have hval : ∀ (j : Nat) t v, Tryz.f4.params[j]? = some t → args[j]? = some v → Value.okWide Tryz.prog W .any base t v := hval0
  have hW' := hW
  obtain ⟨p, q, hA0, hV, rfl, hfz, hnd⟩ := hW
  have hA : DataW.TrodAll enc Tryz.prog W 0 (fun _ => true) true Tryz.f4.params.toList args.toList ds p := hA0
  have hA1 := hA
  rw [Tryz.params4] at hA hval
  obtain ⟨v0, v1, v2, d0, d1, d2, p0, p1, p2, rfl, rfl, rfl, h0, h1, h2⟩ := trodAll_three hA
  obtain ⟨rfl, rfl⟩ := trodVars_none hV
  obtain ⟨r, w, B, rfl, hr⟩ := P0 (hval 0 24 v0 rfl rfl) h0
  obtain ⟨l, ws, G, rfl, hl, hw⟩ := Qi (hval 1 25 v1 rfl rfl) h1
  obtain ⟨bl, bs, rfl, hbs⟩ := PO (hval 2 35 v2 rfl rfl) h2
  simp only [List.append_nil] at hW' hA1
  exact Vf Tryz.laidOut (by kernel_rfl) rfl Tryz.underlying4 rfl rfl hW' hA1 (TH ⟨hr, hl, hw⟩ hbs)
theorem topSpend_holds : Rows.TopSpendSaid :=
  OpenClaim.holds_of_wide Fq Tryz.f4 rfl rfl rfl rfl rfl rfl rfl ⟨rfl, rfl, rfl, rfl, rfl⟩ rfl rfl rfl rfl rfl (by kernel_rfl) Tryz.func4 (by kernel_rfl)
    (of_decide_eq_true (by kernel_rfl)) (by unfold Func.isWrapper; rw [if_neg (of_decide_eq_false (by kernel_rfl))]; exact ⟨rfl, rfl⟩)
    (fun os started H enc _ => PR os started H enc)
end Go.Proofs.YtecodlefcmjihaaGreat
