/- Trimmed by wip/trim.py to what this claim rests on. -/
import Derived.Test.YtecodlefcmjihaaGreatWSe0
import Derived.Test.YtecodlefcmjihaaGreatWT5
namespace Go.Proofs.YtecodlefcmjihaaGreat
open Go.RowKit
section
variable {σ : Hp}
def zr (m : Nat) : List Int := List.replicate m none60
theorem Sq {m : Nat} : (zr m).length = m := List.length_replicate
theorem Vz {m : Nat} {t : Int} (h0 : 0 ≤ t) (h1 : t < m) : gt ((zr m).set 0 0) t = if t = 0 then 0 else none60 := by
  rw [AQ (by rw [Sq]; omega) h0]
  by_cases c : t = 0
  · rw [if_pos (by omega), if_pos c]
  · rw [if_neg (by omega), if_neg c]
    exact Ft h0 h1
set_option maxRecDepth 20000 in
theorem WV {A : Option Addr} {ac : Nat} : Al Tryz.prog KX #[.slice A 0 ac, .int .i64 0] σ fun v σ' => ∃ b, v = .tuple #[.slice (some ⟨b, 0, none⟩) 0 0, .int .i64 0] ∧ Hp.Sub σ σ' := by
  refine L9 _ _ _ _ _ _ ?_
  unfold GD
  refine AJ (by omega) (AJ (by omega) ⟨by omega, Int.le_refl _, by omega, ?_⟩)
  have en2 : (((0 : Nat) : Int) + 1).toNat = 1 := rfl
  rw [en2]
  intro b3 n3
  have hz : M1 (.slice none 0 0) 1 = #[.slice none 0 0] := by kernel_rfl
  rw [hz]
  have ho : An 34 [.slc] σ (some ⟨b3, 0, none⟩) 1 1 (List.replicate 1 (none, 0, 0) : List (Option Addr × Nat × Nat)) (σ.ins b3 (.cells #[.slice none 0 0] 34 (0, 0))) := by
    refine .inr ⟨b3, 0, #[.slice none 0 0], rfl, rfl, Nat.le_refl _, n3, rfl, Nat.le_refl _, fun i j h hj => ?_⟩
    have hi : i < 1 := h
    have hj : j < 1 := hj
    obtain rfl : i = 0 := by omega
    obtain rfl : j = 0 := by omega
    rfl
  have hR0 := BM.init (s := ⟨some ⟨b3, 0, none⟩, 1, 1⟩) ho
  generalize σ.ins b3 (.cells #[.slice none 0 0] 34 (0, 0)) = σ4 at hR0 ⊢
  refine Aj fun J7 h7 => ?_
  have k7 : ∀ τ, BM ⟨some ⟨b3, 0, none⟩, 1, 1⟩ [zr 1001] σ τ → J7 τ := by
    intro τ hR
    rw [h7]
    intro _
    obtain ⟨s', q1, q2, q3⟩ := hR.st (r := 0) (t := 0) (v := 0) (by simp) (by omega) (by show (0 : Int) < ((zr 1001).length : Int); rw [Sq]; omega)
    refine q1 _ (q3 _ fun τ hR => ?_)
    clear q1 q2 q3
    have hR : BM ⟨some ⟨b3, 0, none⟩, 1, 1⟩ [(zr 1001).set 0 0] σ τ := hR
    have get0 : ∀ {t : Int} {K : Int → Prop}, 0 ≤ t → t < 1001 → K (if t = 0 then 0 else none60) → ix (some ⟨b3, 0, none⟩) 1 0 1 fun b a => ldS τ b a fun A n _ => ix A n t 1 fun b a => ldI τ .i64 b a K := fun {t K} t0 t1 hk =>
      hR.get (r := 0) (by simp) t0 (by show t < (((zr 1001).set 0 0).length : Int); rw [List.length_set, Sq]; exact t1) (by show K (gt ((zr 1001).set 0 0) t); rw [Vz t0 t1]; exact hk)
    have hsub := hR.sub
    refine Aj fun J16 h16 => ?_
    have k16 : J16 τ := by
      rw [h16]
      intro _
      refine Aj fun J19 h19 => ?_
      have k19 : J19 0 τ := by
        rw [h19]
        intro _
        refine get0 (by omega) (by omega) (AK (fun h => absurd h (by decide)) (fun _ => ⟨by omega, Int.le_refl _, by omega, ?_⟩))
        intro b27 n27
        refine Aj fun J31 h31 => ?_
        refine ⟨fun q t i τ' => i = 0 ∧ τ' = τ.ins b27 (.cells (M1 (.int .i64 0) (((0 : Nat) : Int)).toNat) 3), ⟨0, rfl, rfl⟩, ?_⟩
        rintro q t i τ' ⟨rfl, rfl⟩ _
        refine AK (fun h => absurd h (by omega)) (fun _ => ?_)
        rw [h31]
        intro _
        exact Az ⟨b27, rfl, hsub.trans (Hp.Sub.ins _ n27)⟩
      refine ⟨fun q t i τ' => ∃ k : Nat, q = 1001 - k ∧ t = 0 ∧ i = k ∧ k ≤ 1001 ∧ τ' = τ, ⟨_, 0, rfl, rfl, rfl, by omega, rfl⟩, ?_⟩
      rintro q t i τ' ⟨k, rfl, rfl, rfl, hk, rfl⟩ _
      refine AK (fun hlt => ?_) (fun _ => k19)
      refine Aj fun J107 h107 => ?_
      refine get0 (by omega) (by omega) (get0 (by omega) (by omega) (AK (fun h => ?_) (fun _ => ?_)))
      · exfalso
        rw [if_pos rfl] at h
        split at h
        · omega
        · revert h; decide
      · rw [h107]
        intro _
        exact AJ (by omega) (Bb _ (by omega) ⟨k + 1, rfl, rfl, by omega, by omega, rfl⟩)
    refine AJ (by omega) ?_
    refine ⟨fun q i τ' => i = -1 ∧ τ' = τ, ⟨0, rfl, rfl⟩, ?_⟩
    rintro q i τ' ⟨rfl, rfl⟩ _
    exact AK (fun h => absurd h (by omega)) (fun _ => k16)
  refine ⟨fun q i τ => ∃ k : Nat, q = 1 - k ∧ i = k ∧ k ≤ 1 ∧ BM ⟨some ⟨b3, 0, none⟩, 1, 1⟩ (if k = 0 then [[]] else [zr 1001]) σ τ, ⟨_, 0, rfl, rfl, by omega, hR0⟩, ?_⟩
  rintro q i τ ⟨k, rfl, rfl, hk, hR⟩ _
  refine AK (fun hlt => AJ (by omega) ?_) (fun hge => ?_)
  · have hk0 : k = 0 := by omega
    subst hk0
    intro A207 l207 c207 σ208 ho
    have hl1 : l207 = 1 := ho.len
    subst hl1
    refine AM CS (Lb (a := none60) ho.rd ⟨by omega, by omega⟩) ?_
    rintro v σ210 ⟨A, l, c, rfl, ho2⟩
    refine ⟨_, _, _, rfl, CA ho2 ?_⟩
    have em : ((0 : Int) + 1000 + 1).toNat = 1001 := rfl
    rw [em]
    have hR : BM ⟨some ⟨b3, 0, none⟩, 1, 1⟩ [[]] σ τ := hR
    refine Rg rfl (by omega) (by omega) ?_
    intro A216 l216 c216 σ217 ho3
    obtain ⟨b', off', hA', _, w1, w2⟩ := hR.new ho.sub (r := 0) (by simp) (s'' := ⟨A216, l216, c216⟩) (xs := (zr 1001 : List Int)) ho3
    cases hA'
    exact ⟨w1, AJ (by omega) (Bb _ (by omega) ⟨1, rfl, rfl, by omega, w2⟩)⟩
  · have hk1 : k = 1 := by omega
    subst hk1
    exact k7 τ hR
end
theorem VY {n : Int} (h0 : 0 ≤ n) (hp : ¬ prc [] n = none60) : n = 0 := by
  have hs := L7 (bs := []) h0
  have e : prc [] n = gt ((List.replicate (n + 1001).toNat none60).set 0 0) (sel [] n) := rfl
  rw [e, AQ (by rw [List.length_replicate]; omega) (by omega)] at hp
  by_cases c : sel [] n = ((0 : Nat) : Int)
  · omega
  · rw [if_neg c, Ft (by omega) (by omega)] at hp
    exact absurd rfl hp
theorem VE : sel [] 0 = 0 ∧ prc [] 0 = 0 := by
  have key : ∀ k : Nat, k ≤ 1001 → BW (Aw 1001 []) 0 k = 0 := by
    intro k
    induction k with
    | zero => intro _; rfl
    | succ k ih =>
      intro hk
      have ih := ih (by omega)
      show (if gt (Aw 1001 []) (0 + (k : Int)) < gt (Aw 1001 []) (BW (Aw 1001 []) 0 k) then 0 + (k : Int) else BW (Aw 1001 []) 0 k) = 0
      rw [ih]
      have e : ∀ t : Int, 0 ≤ t → t < 1001 → gt (Aw 1001 []) t = if t = 0 then 0 else none60 := fun t t0 t1 => Vz t0 t1
      rw [e _ (by omega) (by omega), e 0 (by omega) (by omega), if_pos rfl]
      by_cases c : (0 : Int) + k = 0
      · rw [if_pos c, if_neg (by omega)]
      · rw [if_neg c, if_neg (by decide)]
  have h : sel [] 0 = 0 := key 1001 (Nat.le_refl _)
  refine ⟨h, ?_⟩
  show gt (Aw 1001 []) (sel [] 0) = 0
  rw [h]
  exact Vz (m := 1001) (Int.le_refl _) (by omega)
def XD (σ : Hp) (F : Fai) (n : Int) : Value → Hp → Prop := fun v σ' => ∃ (s : SL) (p e : Int), v = .tuple #[s.v, .int .i64 p, .int .i64 e] ∧ Hp.Sub σ σ' ∧
  (e = 0 → FOK F ∧ (0 ≤ n ∧ n ≤ 1000) ∧ ¬ prc F.bundles n = none60 ∧ p = prc F.bundles n ∧ RdS [.int .i64] σ' s.A s.n (Bk (n + 1001).toNat F.bundles (sel F.bundles n))) ∧
  (FOK F → (0 ≤ n ∧ n ≤ 1000) → ¬ prc F.bundles n = none60 → e = 0)
section
variable {σ : Hp} {W : Oh} {F : Fai}
theorem N0 {n : Int} (hF : GW W σ F) (hok : FOK F) (hn : 0 ≤ n ∧ n ≤ 1000) : Al Tryz.prog EO #[.agg (B3 W F), .int .i64 n] σ (XD σ F n) := by
  by_cases hb : F.bundles = []
  · by_cases hz : n = 0
    · subst hz
      have h0 : W.b.n = 0 := by rw [hF.b.1, hb]; rfl
      refine Fx _ _ _ _ _ _ _ _ _ _ _ _ _ _ _ _ _ ?_
      unfold Da
      rw [h0]
      refine AM FU WV ?_
      rintro v σ2 ⟨b, rfl, hs⟩
      obtain ⟨s1, s2⟩ := VE
      refine ⟨_, _, _, _, rfl, M8 (Az ⟨⟨some ⟨b, 0, none⟩, 0, 0⟩, 0, 0, rfl, hs, fun _ => ⟨hok, hn, ?_, ?_, ?_⟩, fun _ _ _ => rfl⟩)⟩
      · rw [hb, s2]; decide
      · rw [hb, s2]
      · rw [hb]; exact ⟨rfl, .inl rfl⟩
    · refine (LX hF hok hn).mono ?_
      rintro v σ' ⟨s, p, e, rfl, hs, h1, h2⟩
      exact ⟨s, p, e, rfl, hs, h1, fun _ _ hp => absurd (VY hn.1 (by rw [hb] at hp; exact hp)) hz⟩
  · refine (LX hF hok hn).mono ?_
    rintro v σ' ⟨s, p, e, rfl, hs, h1, h2⟩
    exact ⟨s, p, e, rfl, hs, h1, fun a b c => h2 a b c hb⟩
theorem V0 {n : Int} (hF : GW W σ F) (hok : FOK F) : Al Tryz.prog E8 #[.agg (B3 W F), .int .i64 n] σ (XD σ F n) := by
  refine HY _ _ _ _ _ _ _ _ _ _ _ _ _ _ _ _ _ ?_
  unfold E6
  have f1 := hok.sl
  have f2 := hok.cl
  have f3 := hok.bl
  refine AM BI (II hF ⟨by omega, by omega, by omega⟩) ?_
  rintro v σ2 ⟨hs, ⟨rfl, hok⟩ | ⟨rfl, hno⟩⟩
  · refine ⟨_, rfl, ?_⟩
    refine BA (fun h => absurd rfl h) (fun _ => DY (BA (fun h => Az ⟨⟨none, 0, 0⟩, 0, 1, rfl, hs, fun h => (by cases h), fun _ h' _ => absurd h' h⟩) (fun hn => ?_)))
    refine AM Cu (N0 (hF.sub hs) hok hn) ?_
    rintro v σ8 ⟨s, p, e, rfl, hs8, h1, h2⟩
    exact ⟨_, _, _, _, _, rfl, Az ⟨s, p, e, rfl, hs.trans hs8, h1, h2⟩⟩
  · exact absurd hok hno
theorem OS {n : Int} (hF : GW W σ F) (hok : FOK F) (hn : 0 ≤ n ∧ n ≤ 1000) (hp : ¬ prc F.bundles n = none60) {K : Option Addr → Nat → Nat → Int → Int → Hp → Prop} (hk : ∀ A l c τ, Hp.Sub σ τ → K A l c (prc F.bundles n) 0 τ) :
    cl Tryz.prog (.func (.func EO) #[] #[]) #[.agg (B3 W F), .int .i64 n] σ fun v σ' => ∃ A : Option Addr, ∃ l : Nat, ∃ c : Nat, ∃ p : Int, ∃ e : Int, (v = .tuple #[.slice A l c, .int .i64 p, .int .i64 e] ∧ K A l c p e σ') := by
  refine AM Cu (N0 hF hok hn) ?_
  rintro v σ' ⟨s, p, e, rfl, hs, h1, h2⟩
  have he := h2 hok hn hp
  subst he
  obtain ⟨_, _, _, rfl, _⟩ := h1 rfl
  exact ⟨_, _, _, _, _, rfl, hk _ _ _ _ hs⟩
theorem P8 {xs : List Int} (h : ∀ x ∈ xs, 0 ≤ x) (k : Nat) : 0 ≤ AB (xs.take k) ∧ AB (xs.take k) ≤ AB xs := by
  have pos : ∀ ys : List Int, (∀ y ∈ ys, 0 ≤ y) → 0 ≤ AB ys := by
    intro ys
    induction ys with
    | nil => intro _; exact Int.le_refl _
    | cons y ys ih =>
      intro h
      have := ih fun z hz => h z (List.mem_cons_of_mem _ hz)
      have := h y (List.mem_cons_self ..)
      show 0 ≤ y + AB ys
      omega
  have e : AB xs = AB (xs.take k) + AB (xs.drop k) := by
    conv => lhs; rw [← List.take_append_drop k xs]
    rw [Cn]
  have h1 := pos (xs.take k) fun y hy => h y (List.mem_of_mem_take hy)
  have h2 := pos (xs.drop k) fun y hy => h y (List.mem_of_mem_drop hy)
  omega
theorem S4 {xs : List Int} {k : Nat} (h : k < xs.length) : AB (xs.take (k + 1)) = AB (xs.take k) + gt xs k := by
  rw [List.take_succ_eq_append_getElem h, Cn, Cd h]
  simp [AB]
theorem UO {A : Option Addr} {n c : Nat} {xs : List Int} (h : RdS [.int .i64] σ A n xs) (hx : ∀ x ∈ xs, 0 ≤ x ∧ x ≤ 1000) (hs : AB xs ≤ 1000) (hl : xs.length ≤ 1000) : Al Tryz.prog NP #[.slice A n c] σ fun v σ' => v = .tuple #[.int .i64 (AB xs), .bool true] ∧ σ' = σ := by
  refine KN _ _ _ _ _ ?_
  unfold FV
  have hn : n = xs.length := h.1
  have hb := P8 fun x hx' => (hx x hx').1
  refine Aj fun J3 h3 => ?_
  refine ⟨fun m t i τ => ∃ k : Nat, m = xs.length - k ∧ t = AB (xs.take k) ∧ i = k ∧ k ≤ xs.length ∧ τ = σ, ⟨_, 0, rfl, by simp [AB], rfl, by omega, rfl⟩, ?_⟩
  rintro m t i τ ⟨k, rfl, rfl, rfl, hk, rfl⟩ _
  refine AK (fun hlt => ?_) (fun _ => ?_)
  · have hkl : k < xs.length := by omega
    have e := S4 hkl
    have b1 := hb k
    have b2 := hb (k + 1)
    refine Gr h (by omega) (by omega) (DY ?_)
    have hg := hx xs[k] (List.getElem_mem hkl)
    rw [← Cd hkl] at hg
    rw [decide_eq_true hg]
    exact M8 (AJ (by omega) (AJ (by omega) (Bb _ (by omega) ⟨k + 1, rfl, e.symm, by omega, by omega, rfl⟩)))
  · have : k = xs.length := by omega
    subst this
    rw [List.take_length, h3]
    intro _
    rw [decide_eq_true (show AB xs ≤ 1000 from hs)]
    exact Az ⟨rfl, rfl⟩
theorem U1 {ns : List Int} {A : Option Addr} {l c : Nat} (hF : GW W σ F) (hok : FOK F) (h : RdS [.int .i64] σ A l ns) (hx : ∀ n ∈ ns, 0 ≤ n ∧ n ≤ 1000 ∧ ¬ prc F.bundles n = none60) (hs : AB ns ≤ 1000) (hl : 1 ≤ ns.length ∧ ns.length ≤ 20) :
    Al Tryz.prog On #[.agg (B3 W F), .slice A l c] σ fun v σ' => Hp.Sub σ σ' ∧ v = .tuple #[.int .i64 (prc F.bundles (AB ns)), .int .i64 (-(prc F.bundles (AB ns)) + AB (ns.map (prc F.bundles))), .int .i64 0] := by
  refine Lo _ _ _ _ _ _ _ _ _ _ _ _ _ _ _ _ _ _ _ ?_
  unfold Fk
  have f1 := hok.sl
  have f2 := hok.cl
  have f3 := hok.bl
  have hln : l = ns.length := h.1
  have hb := hok.bOK
  have h0 : ∀ x ∈ ns, 0 ≤ x := fun x hx' => (hx x hx').1
  have hs0 := P8 h0 ns.length
  rw [List.take_length] at hs0
  obtain ⟨p1, p2⟩ := Lx hb hx (by omega)
  have hpp := HU hb hs0.1 p2
  have hpx : ∀ x ∈ ns.map (prc F.bundles), 0 ≤ x ∧ x ≤ 2000000000 := fun x hx' => by
    obtain ⟨n, hn, rfl⟩ := List.mem_map.1 hx'
    obtain ⟨q1, q2, q3⟩ := hx n hn
    have := HU hb q1 q3
    omega
  have hpl : (ns.map (prc F.bundles)).length = ns.length := List.length_map ..
  have hps : ∀ k, 0 ≤ AB ((ns.map (prc F.bundles)).take k) ∧ AB ((ns.map (prc F.bundles)).take k) ≤ 2000000000 * (((ns.map (prc F.bundles)).take k).length : Nat) := fun k => Hz fun x hx' => hpx x (List.mem_of_mem_take hx')
  refine AM BI (II hF ⟨by omega, by omega, by omega⟩) ?_
  rintro v σ2 ⟨hs2, ⟨rfl, _⟩ | ⟨rfl, hno⟩⟩
  · refine ⟨_, rfl, BA (fun h => absurd rfl h) (fun _ => ?_)⟩
    refine AM I3 (UO (h.sub hs2) (fun x hx' => ⟨(hx x hx').1, (hx x hx').2.1⟩) hs (by omega)) ?_
    rintro v σ5 ⟨rfl, rfl⟩
    refine ⟨_, _, rfl, Aj fun J10 h10 => ?_⟩
    have k10 : J10 σ5 := by
      rw [h10]
      intro _
      refine OS (hF.sub hs2) hok ⟨hs0.1, hs⟩ p2 fun A13 l13 c13 σ12 hs12 => ?_
      refine BA (fun h => absurd rfl h) (fun _ => AJ (by omega) (Aj fun J19 h19 => ?_))
      have hs12 := hs2.trans hs12
      refine ⟨fun q a b i τ => ∃ k : Nat, q = ns.length - k ∧ a = prc F.bundles (AB ns) ∧ b = 0 - prc F.bundles (AB ns) + AB ((ns.map (prc F.bundles)).take k) ∧ i = k ∧ k ≤ ns.length ∧ Hp.Sub σ τ, ⟨_, 0, rfl, rfl, by simp [AB], rfl, by omega, hs12⟩, ?_⟩
      rintro q a b i τ ⟨k, rfl, rfl, rfl, rfl, hk, hsτ⟩ _
      refine AK (fun hlt => ?_) (fun _ => ?_)
      · have hkl : k < ns.length := by omega
        have e := S4 (xs := ns.map (prc F.bundles)) (k := k) (by omega)
        have hg := hx ns[k] (List.getElem_mem hkl)
        have eg : gt (ns.map (prc F.bundles)) k = prc F.bundles ns[k] := by rw [Cd (by omega), List.getElem_map]
        have b2 := hps (k + 1)
        have l2 : ((ns.map (prc F.bundles)).take (k + 1)).length ≤ 20 := by rw [List.length_take]; omega
        rw [e, eg] at b2
        have b1 := hps k
        have l1 : ((ns.map (prc F.bundles)).take k).length ≤ 20 := by rw [List.length_take]; omega
        refine Gr (h.sub hsτ) (by omega) (by omega) ?_
        rw [Cd hkl]
        refine OS (hF.sub hsτ) hok ⟨hg.1, hg.2.1⟩ hg.2.2 fun A34 l34 c34 σ33 hs33 => ?_
        refine BA (fun h => absurd rfl h) (fun _ => AJ (by omega) (AJ (by omega) (Bb _ (by omega) ⟨k + 1, rfl, rfl, ?_, by omega, by omega, hsτ.trans hs33⟩)))
        rw [e, eg]; omega
      · have : k = ns.length := by omega
        subst this
        rw [h19]
        intro _
        refine Az ⟨hsτ, ?_⟩
        have e : (ns.map (prc F.bundles)).take ns.length = ns.map (prc F.bundles) := List.take_of_length_le (by omega)
        rw [e, show (0 : Int) - prc F.bundles (AB ns) = -prc F.bundles (AB ns) by omega]
    refine Aj fun J43 h43 => ?_
    refine M8 (DY ?_)
    rw [decide_eq_true (show (1 : Int) ≤ (l : Nat) ∧ ((l : Nat) : Int) ≤ 20 by omega), h43]
    intro _
    exact M8 k10
  · exact absurd hok hno
end
end Go.Proofs.YtecodlefcmjihaaGreat
