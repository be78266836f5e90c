/- Trimmed by wip/trim.py to what this claim rests on. -/
import Derived.Test.YtecodlefcmjihaaGreatWTk4
namespace Go.Proofs.YtecodlefcmjihaaGreat
open Go.RowKit
theorem JB {b : Int × Int} (hb : 1 ≤ b.1) {P : List Int} {t : Nat} (ht : t < P.length) : gt (M7 b P) t = GB b P (M7 b P) t := by
  have h1 := SG (b := b) (P := P) (t + 1) (by omega) t (by omega) (by omega)
  rw [if_pos (by omega)] at h1
  rw [← h1]
  show gt ((Ee b P t).set t _) t = _
  rw [AQ (by rw [Cm]; omega) (by omega), if_pos rfl]
  unfold GB
  by_cases c : 0 ≤ (t : Int) - b.1
  · have h2 := SG (b := b) (P := P) t (by omega) ((t : Int) - b.1) c (by omega)
    rw [if_pos (by omega)] at h2
    rw [h2]
  · rw [if_neg (fun h => c h.1), if_neg (fun h => c h.1)]
theorem Ql {m : Nat} : ∀ bs : List (Int × Int), (∀ b ∈ bs, bOK b ∧ 1000 * b.1 ≤ 6 * b.2) → m ≤ 3000 → ∀ t : Nat, t < m → 1000 * (t : Int) ≤ 6 * gt (Aw m bs) t
  | [], _, hm => fun t ht => by
    show 1000 * (t : Int) ≤ 6 * gt ((List.replicate m none60).set 0 0) t
    rw [AQ (by rw [List.length_replicate]; omega) (by omega)]
    split
    · omega
    · rw [Ft (by omega) (by omega)]
      have : none60 = 1152921504606846976 := rfl
      omega
  | b :: bs, hb, hm => fun t => by
    have ih := Ql (m := m) bs (fun x hx => hb x (List.mem_cons_of_mem _ hx)) hm
    obtain ⟨hb1, hb2⟩ := hb b (List.mem_cons_self ..)
    have hl := Ba (m := m) bs
    induction t using Nat.strongRecOn with
    | _ t iht =>
      intro ht
      have h1 := ih t ht
      show 1000 * (t : Int) ≤ 6 * gt (M7 b (Aw m bs)) t
      rw [JB hb1.1.1 (by omega)]
      unfold GB
      split
      · rename_i c
        obtain ⟨u, hu⟩ : ∃ u : Nat, (u : Int) = (t : Int) - b.1 := ⟨((t : Int) - b.1).toNat, by omega⟩
        have h2 := iht u (by have := hb1.1.1; omega) (by have := hb1.1.1; omega)
        have h2 : 1000 * (u : Int) ≤ 6 * gt (M7 b (Aw m bs)) u := h2
        rw [hu] at h2
        split <;> omega
      · exact h1
def Uu : List (Int × Int) := [(1, 200), (6, 1000)]
def Be (k : Nat) : List Int := Aw 1008 (Uu.drop k)
theorem RE {t : Nat} (h : t < 1008) : gt (Be 2) t = if t = 0 then 0 else none60 := by
  show gt ((List.replicate 1008 none60).set 0 0) t = _
  rw [AQ (by rw [List.length_replicate]; omega) (by omega)]
  by_cases c : t = 0
  · subst c; rfl
  · rw [if_neg (by omega), if_neg c]
    exact Ft (by omega) (by omega)
theorem RS {t : Nat} (h : t < 1008) : gt (Be 1) t = GB (6, 1000) (Be 2) (Be 1) t := JB (b := (6, 1000)) (by decide) (by have := Ba (m := 1008) ([] : List (Int × Int)); omega)
theorem UX {t : Nat} (h : t < 1008) : gt (Be 0) t = GB (1, 200) (Be 1) (Be 0) t := JB (b := (1, 200)) (by decide) (by have := Ba (m := 1008) [(6, 1000)]; omega)
theorem XM : gt (Be 1) 0 = 0 ∧ gt (Be 1) 1 = none60 ∧ gt (Be 1) 2 = none60 ∧ gt (Be 1) 3 = none60 ∧ gt (Be 1) 4 = none60 ∧ gt (Be 1) 5 = none60 ∧ gt (Be 1) 6 = 1000 ∧ gt (Be 1) 7 = none60 := by
  have small : ∀ t : Nat, t < 6 → gt (Be 1) t = if t = 0 then 0 else none60 := fun t ht => by
    rw [RS (by omega)]
    unfold GB
    rw [if_neg (by intro h; have := h.1; omega), RE (by omega)]
  have h0 := small 0 (by omega)
  have h1 := small 1 (by omega)
  have h2 := small 2 (by omega)
  have h3 := small 3 (by omega)
  have h4 := small 4 (by omega)
  have h5 := small 5 (by omega)
  have h6 : gt (Be 1) ((6 : Nat) : Int) = 1000 := by
    rw [RS (by omega)]
    unfold GB
    have e : ((6 : Nat) : Int) - (6, 1000).1 = ((0 : Nat) : Int) := by decide
    rw [e, h0, RE (by omega)]
    decide
  have h7 : gt (Be 1) ((7 : Nat) : Int) = none60 := by
    rw [RS (by omega)]
    unfold GB
    have e : ((7 : Nat) : Int) - (6, 1000).1 = ((1 : Nat) : Int) := by decide
    rw [e, h1, RE (by omega)]
    decide
  exact ⟨h0, h1, h2, h3, h4, h5, h6, h7⟩
theorem V2 : gt (Be 0) 5 = 1000 ∧ gt (Be 0) 6 = 1000 ∧ gt (Be 0) 7 = 1200 := by
  obtain ⟨a0, a1, a2, a3, a4, a5, a6, a7⟩ := XM
  have step : ∀ (t : Nat) (p q r : Int), t + 1 < 1008 → gt (Be 0) (t : Nat) = p → gt (Be 1) ((t + 1 : Nat) : Int) = q → p < none60 → r = (if p + 200 < q then p + 200 else q) → gt (Be 0) ((t + 1 : Nat) : Int) = r := fun t p q r ht h1 h2 h3 h4 => by
    rw [UX ht]
    unfold GB
    have e : ((t + 1 : Nat) : Int) - (1, 200).1 = (t : Int) := by show ((t + 1 : Nat) : Int) - 1 = _; omega
    rw [e, h1, h2, if_pos ⟨by omega, h3⟩, h4]
  have b0 : gt (Be 0) ((0 : Nat) : Int) = 0 := by
    rw [UX (by omega)]
    unfold GB
    rw [if_neg (by intro h; have := h.1; revert this; decide)]
    exact a0
  have b1 := step 0 0 none60 200 (by omega) b0 a1 (by decide) (by decide)
  have b2 := step 1 200 none60 400 (by omega) b1 a2 (by decide) (by decide)
  have b3 := step 2 400 none60 600 (by omega) b2 a3 (by decide) (by decide)
  have b4 := step 3 600 none60 800 (by omega) b3 a4 (by decide) (by decide)
  have b5 := step 4 800 none60 1000 (by omega) b4 a5 (by decide) (by decide)
  have b6 := step 5 1000 1000 1000 (by omega) b5 a6 (by decide) (by decide)
  have b7 := step 6 1000 none60 1200 (by omega) b6 a7 (by decide) (by decide)
  exact ⟨b5, b6, b7⟩
theorem WF : ∀ k : Nat, k ≤ 1001 → BW (Be 0) 7 k = 7
  | 0, _ => rfl
  | k + 1, hk => by
    have ih := WF k (by omega)
    have hlow := Ql (m := 1008) Uu (fun b hb => by
      rcases List.mem_cons.1 hb with rfl | hb
      · exact ⟨⟨by decide, by decide⟩, by decide⟩
      · rw [List.mem_singleton] at hb
        subst hb
        exact ⟨⟨by decide, by decide⟩, by decide⟩) (by omega)
    unfold BW
    rw [ih, V2.2.2]
    have e : (7 : Int) + (k : Int) = ((7 + k : Nat) : Int) := by omega
    rw [e]
    rcases Nat.eq_zero_or_pos k with h | h
    · subst h
      rw [if_neg]
      have := V2.2.2
      show ¬ gt (Be 0) 7 < 1200
      omega
    · have h1 : 1000 * ((7 + k : Nat) : Int) ≤ 6 * gt (Be 0) ((7 + k : Nat) : Int) := hlow (7 + k) (by omega)
      rw [if_neg (by omega)]
theorem WK : Bk 1008 Uu 7 = [1, 1] := by
  obtain ⟨a0, a1, a2, a3, a4, a5, a6, a7⟩ := XM
  obtain ⟨b5, b6, b7⟩ := V2
  have t1 : AR (Be 0) (1, 200) (7 : Int).toNat 7 = (6, 1) := by
    rw [Jk (by decide) ⟨by decide, by show gt (Be 0) 6 < none60; rw [b6]; decide, by show gt (Be 0) 6 + 200 = gt (Be 0) 7; rw [b6, b7]; decide⟩]
    have e : (7 : Int) - (1, 200).1 = 6 := rfl
    rw [e, IS (by
      intro h
      have h3 : gt (Be 0) 5 + 200 = gt (Be 0) 6 := h.2.2
      rw [b5, b6] at h3
      revert h3
      decide)]
    rfl
  have t2 : AR (Be 1) (6, 1000) (6 : Int).toNat 6 = (0, 1) := by
    rw [Jk (by decide) ⟨by decide, by show gt (Be 1) 0 < none60; rw [a0]; decide, by show gt (Be 1) 0 + 1000 = gt (Be 1) 6; rw [a0, a6]; decide⟩]
    have e : (6 : Int) - (6, 1000).1 = 0 := rfl
    rw [e, IS (by
      intro h
      have h3 : (6 : Int) ≤ 0 := h.1
      omega)]
    rfl
  have e1 : Bk 1008 Uu 7 = (AR (Be 0) (1, 200) (7 : Int).toNat 7).2 :: Bk 1008 [(6, 1000)] (AR (Be 0) (1, 200) (7 : Int).toNat 7).1 := rfl
  have e2 : Bk 1008 [(6, 1000)] 6 = [(AR (Be 1) (6, 1000) (6 : Int).toNat 6).2] := rfl
  rw [e1, t1, e2, t2]
section
variable {σ : Hp}
theorem Wd {W : Oh} {F : Fai} {n tk p : Int} {m : Nat} {ms : List Int} (hF : GW W σ F) (hl : F.stock.length ≤ 4294967296 ∧ F.cash.length ≤ 4294967296 ∧ F.bundles.length ≤ 4294967296) (hok : FOK F) (hn : 0 ≤ n ∧ n ≤ 1000) (hne : F.bundles ≠ [])
    (hm : (n + 1001).toNat = m) (hs : BW (Aw m F.bundles) n 1001 = tk) (hp : gt (Aw m F.bundles) tk = p) (hp' : ¬ p = none60) (hms : Bk m F.bundles tk = ms) :
    Al Tryz.prog E8 #[.agg (B3 W F), .int .i64 n] σ fun v σ' => ∃ s : SL, v = .tuple #[s.v, .int .i64 p, .int .i64 0] ∧ Hp.Sub σ σ' ∧ RdS [.int .i64] σ' s.A s.n ms := by
  subst hm hs hp hms
  refine (Xc hF hl).mono ?_
  rintro v σ' ⟨s, p, e, rfl, hs, h1, h2⟩
  have he := h2 hok hn hp' hne
  obtain ⟨_, _, _, h3, h4⟩ := h1 he
  subst he h3
  exact ⟨s, rfl, hs, h4⟩
def exF : Fai := ⟨0, 0, [5], [0], Uu, 0, 0, 1⟩
theorem W8 : FOK exF := by
  refine ⟨by decide, by decide, by decide, by decide, by decide, by decide, by decide, by decide, by decide, by decide, ?_⟩
  intro k hk
  have hk : k < 2 := hk
  match k, hk with
  | 0, _ => exact ⟨by decide, by decide, by decide⟩
  | 1, _ => exact ⟨by decide, by decide, by decide⟩
theorem XJ : exF.bundles ≠ [] := by intro h; cases h
theorem XQ : ¬ (1200 : Int) = none60 := by decide
theorem X5 : exF.stock.length ≤ 4294967296 ∧ exF.cash.length ≤ 4294967296 ∧ exF.bundles.length ≤ 4294967296 := ⟨by decide, by decide, by decide⟩
theorem XT : ((7 : Int) + 1001).toNat = 1008 := by decide
theorem XZ : BW (Aw 1008 exF.bundles) 7 1001 = 7 := WF 1001 (by omega)
theorem XC : gt (Aw 1008 exF.bundles) 7 = 1200 := V2.2.2
theorem XG : Bk 1008 exF.bundles 7 = [1, 1] := WK
theorem WU {W : Oh} (hF : GW W σ exF) : Al Tryz.prog E8 #[.agg (B3 W exF), .int .i64 7] σ fun v σ' => ∃ s : SL, v = .tuple #[s.v, .int .i64 1200, .int .i64 0] ∧ Hp.Sub σ σ' ∧ RdS [.int .i64] σ' s.A s.n ([1, 1] : List Int) := by
  have h7 : (0 : Int) ≤ 7 ∧ (7 : Int) ≤ 1000 := by decide
  have := @Wd σ W exF 7 7 1200 1008 ([1, 1] : List Int) hF X5 W8 h7 XJ XT XZ XC XQ XG
  exact this
theorem Xj : Al Tryz.prog ND #[] σ fun v σ' => v = .bool true ∧ σ' = σ := by
  refine Oy _ _ ?_
  unfold Ky
  intro A1 l1 c1 σ2 o2 A3 l3 c3 σ4 o4 A5 l5 c5 σ6 o6
  have hF : GW ⟨⟨A1, l1, c1⟩, ⟨A3, l3, c3⟩, ⟨A5, l5, c5⟩⟩ σ6 exF := ⟨o2.rd.sub (o4.sub.trans o6.sub), o4.rd.sub o6.sub, o6.rd⟩
  have hs6 : Hp.Sub σ σ6 := o2.sub.trans (o4.sub.trans o6.sub)
  have hcall := WU (W := ⟨⟨A1, l1, c1⟩, ⟨A3, l3, c3⟩, ⟨A5, l5, c5⟩⟩) hF
  have e1 : (#[.int .i64 0, .int .i64 0, .slice A1 l1 c1, .slice A3 l3 c3, .slice A5 l5 c5, .int .i64 0, .int .i64 0, .int .i64 1] : Array Value) = B3 ⟨⟨A1, l1, c1⟩, ⟨A3, l3, c3⟩, ⟨A5, l5, c5⟩⟩ exF := by unfold B3 exF; rfl
  rw [e1]
  refine AM Fv hcall ?_
  rintro v σ8 ⟨s, rfl, hs, hrd⟩
  refine ⟨_, _, _, _, _, rfl, AK (fun _ => AK (fun _ => ?_) (fun h => absurd rfl h)) (fun h => absurd rfl h)⟩
  intro A12 l12 c12 σ13 o13
  refine clB Ew (MJ (xs := [1, 1]) (ys := [1, 1]) (hrd.sub o13.sub) o13.rd (by decide)) ?_
  exact Ms (hs6.trans (hs.trans o13.sub)) ⟨rfl, rfl⟩
theorem IW {K : Bool → Hp → Prop} (h : K true σ) : cl Tryz.prog (.func (.func ND) #[] #[]) #[] σ fun v σ' => ∃ t : Bool, (v = .bool t ∧ K t σ') := clB Mp Xj h
end
end Go.Proofs.YtecodlefcmjihaaGreat
