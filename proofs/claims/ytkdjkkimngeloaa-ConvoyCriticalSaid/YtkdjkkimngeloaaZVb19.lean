/- Trimmed by wip/trim.py to what this claim rests on. -/
import Derived.Test.YtkdjkkimngeloaaZVb18
namespace Go.Proofs.Ytkdjkkimngeloaa
open Go.RowKit
theorem Lg {z : Array Value} {n : Nat} : (Builtin.zeroCells z n).size = n * z.size := by
  unfold Builtin.zeroCells
  simp
set_option maxRecDepth 20000 in
theorem Sr {P : Program} {t0 t1 ty e : TypeId} {ie : TypeInfo} {z : Value} {ss : List Sh} {σ : Hp} {n : Int} {K : Option Addr → Nat → Nat → Hp → Prop}
    (hund : P.underlying t0 = some (.slice e)) (hd : P.underlying t1 = some (.int .i64)) (hie : P.info? e = some ie) (hz : ie.zero = some z) (hzs : z.cells.size = ss.length) (hsz : ie.size = ss.length) (h0' : 0 < ss.length) (hb : ie.bytes ≤ 4096) (h0 : 0 < n) (h1 : n ≤ 1000000)
    (hk : ∀ A c σ', Au e ss σ A 0 c [] σ' → K A n.toNat c σ') : apr P #[t0, t1] ty #[.slice none 0 0, .int .i64 n] σ K := by
  unfold apr Builtin.append_
  simp only [List.getElem?_toArray, List.getElem?_cons_zero, List.getElem?_cons_succ]
  refine EB hund ?_
  simp only
  refine GS hie ?_
  refine EB hd ?_
  refine AE (P := P) (pure _) _ _ _ ?_
  refine Ew (y := true) rfl ?_
  simp only [if_true, Bool.not_true, Bool.false_eq_true, if_false]
  refine AE (P := P) (asInt _) _ _ _ ?_
  refine Ew (y := n) rfl ?_
  rw [NJ (by omega), if_neg (by omega)]
  refine Cp hie ?_
  have hmul0 : n * (ie.bytes : Int) ≤ 1000000 * 4096 := by
    have h2 : n * (ie.bytes : Int) ≤ n * 4096 := Int.mul_le_mul_of_nonneg_left (by omega) (by omega)
    omega
  rw [if_neg (by omega)]
  refine AE (P := P) (pure _) _ _ _ ?_
  refine Ew (y := n.toNat) rfl ?_
  rw [if_neg (by omega)]
  refine Cp hie ?_
  rw [if_neg (by
    have : IntKind.i64.max = 9223372036854775807 := by decide
    rw [this]
    omega)]
  refine Cp hie ?_
  have hle := Ga (n := 0 + n.toNat) (c := 0) (by omega)
  have hmul : Builtin.nextslicecap (0 + n.toNat) 0 * ie.bytes ≤ (2 * (0 + n.toNat) + 384) * 4096 := Nat.mul_le_mul hle hb
  rw [if_neg (by omega)]
  refine AE _ _ _ _ ?_
  intro t
  have hf : (Question.appendCap (0 + n.toNat) 0 e).forced = false := rfl
  rw [hf]
  simp only [Bool.false_eq_true, if_false]
  have hcut : 0 + n.toNat ≤ (Question.appendCap (0 + n.toNat) 0 e).cut t := Nat.le_add_right _ _
  generalize (Question.appendCap (0 + n.toNat) 0 e).cut t = newCap at hcut
  show swp P _ _ σ
  refine Cp hie ?_
  refine AE _ _ _ _ ?_
  have hroom' : ∀ {K : Unit → Hp → Prop}, K () σ → swp P (askRoom (newCap * ie.bytes)) K σ := by
    intro K hk
    unfold askRoom
    split
    · exact hk
    · exact hk
  refine hroom' ?_
  refine AE _ _ _ _ ?_
  refine CO (vs := []) (.inl rfl) (by simp) (fun _ => rfl) ?_
  have hns : n.toNat * ie.size ≠ 0 := by
    rw [hsz]
    exact Nat.mul_ne_zero (by omega) (by omega)
  rw [if_neg hns]
  refine AE _ _ _ _ ?_
  refine Fo hie hz ?_
  refine Fo hie hz ?_
  intro b hb'
  refine ⟨_, _, _, rfl, ?_⟩
  rw [Nat.zero_add]
  refine hk _ newCap _ (.inr ⟨b, 0, _, rfl, rfl, Nat.zero_le _, hb', rfl, ?_, fun i j hi => absurd hi (Nat.not_lt_zero _)⟩)
  simp only [Array.size_append, Lg, hzs, List.size_toArray, List.length_nil]
  have : newCap = n.toNat + (newCap - n.toNat) := by omega
  have e2 : newCap * ss.length = n.toNat * ss.length + (newCap - n.toNat) * ss.length := by rw [← Nat.add_mul, ← this]
  omega
theorem Uw : ∃ ie z, Try.prog.info? 51 = some ie ∧ ie.zero = some z ∧ z.cells.size = 5 ∧ ie.size = 5 ∧ ie.bytes ≤ 4096 := by
  have h : (Try.prog.info? 51).map (fun ie => (ie.zero.map (fun z => z.cells.size), ie.size, ie.bytes)) = some (some 5, 5, 40) := by kernel_rfl
  obtain ⟨ie, h1, h2⟩ := Option.map_eq_some_iff.1 h
  have h3 : ie.zero.map (fun z => z.cells.size) = some 5 := congrArg Prod.fst h2
  have h4 : ie.size = 5 := congrArg (fun x => x.2.1) h2
  have h5 : ie.bytes = 40 := congrArg (fun x => x.2.2) h2
  obtain ⟨z, h6, h7⟩ := Option.map_eq_some_iff.1 h3
  exact ⟨ie, z, h1, h6, h7, h4, by omega⟩
section
variable {σ : Hp}
set_option maxRecDepth 100000 in
theorem Tm {n : Int} (h0 : 0 ≤ n) (h1 : n ≤ 1000000) : Ah Try.prog Fw #[.slice none 0 0, .int .i64 n] σ fun v σ' => ∃ A c, v = .slice A 0 c ∧ Au 51 sR σ A 0 c [] σ' := by
  refine Ef _ _ _ _ _ _ ?_
  unfold BT
  refine Ag fun J3 h3 => AX (fun g => absurd g (by omega)) (fun _ => ?_)
  rw [h3]
  intro _
  refine Ag fun J6 h6 => ?_
  have k6 : ∀ A c τ, Au 51 sR σ A 0 c [] τ → J6 A 0 c τ := by
    intro A c τ ho
    rw [h6]
    intro _
    exact Ay ⟨A, c, rfl, ho⟩
  refine AN (by omega) (AN (by omega) (AX (fun g => ⟨by omega, by omega, ?_⟩) (fun _ => k6 _ _ _ (Au.nil ..))))
  obtain ⟨ie, z, i1, i2, i3, i4, i5⟩ := Uw
  refine Sr (ss := sR) Try.underlying23 Try.underlying3 i1 i2 i3 i4 (by decide) i5 g (by omega) fun A c σ' ho => ⟨by omega, by omega, k6 A c σ' ho⟩
def TC (σ : Hp) (A : Option Addr) (n : Nat) (rss : List (List Rdt)) : Prop := ∃ ss : List (Option Addr × Nat × Nat), RdS [.slc] σ A n ss ∧ ss.length = rss.length ∧ ∀ i (h1 : i < ss.length) (h2 : i < rss.length), RdS sR σ ss[i].1 ss[i].2.1 rss[i]
theorem Ub {A : Option Addr} {n : Nat} {rss : List (List Rdt)} {i : Int} {K : Option Addr → Nat → Nat → Prop} (h : TC σ A n rss) (hi : 0 ≤ i) (hn : i.toNat < rss.length) (hk : ∀ A n c, RdS sR σ A n rss[i.toNat] → K A n c) : ix A n i 1 fun b a => ldS σ b a K := by
  obtain ⟨ss, h1, h2, h3⟩ := h
  exact Tc h1 hi (by omega) (hk _ _ _ (h3 _ (by omega) hn))
set_option maxRecDepth 100000 in
theorem Rn {A : Option Addr} {n c : Nat} {rss : List (List Rdt)} (h : TC σ A n rss) (hl : rss.flatten.length ≤ 1000000) (hl2 : rss.length ≤ 1000000) : Ah Try.prog EF #[.slice A n c] σ fun v σ' => ∃ A' n' c', v = .slice A' n' c' ∧ Au 51 sR σ A' n' c' rss.flatten σ' := by
  refine DH _ _ _ _ _ ?_
  unfold BJ
  have hn : n = rss.length := by
    obtain ⟨ss, h1, h2, _⟩ := h
    rw [h1.lenS, h2]
  have hpre : ∀ k, (rss.take k).flatten.length ≤ rss.flatten.length := fun k => by
    have : rss.flatten.length = (rss.take k).flatten.length + (rss.drop k).flatten.length := by rw [← List.length_append, ← List.flatten_append, List.take_append_drop]
    omega
  have hnx : ∀ k (hk : k < rss.length), (rss.take (k + 1)).flatten = (rss.take k).flatten ++ rss[k] := fun k hk => by
    rw [List.take_succ_eq_append_getElem hk, List.flatten_append]
    simp
  refine Ag fun J3 h3 => ?_
  have k3 : J3 rss.flatten.length σ := by
    rw [h3]
    clear h3 J3
    intro _
    refine AY Dx (Tm (by omega) (by omega)) ?_
    rintro v σ6 ⟨A7, c7, rfl, ho⟩
    refine ⟨_, _, _, rfl, ?_⟩
    refine Ag fun J10 h10 => ?_
    refine ⟨fun q A n c i τ => ∃ k : Nat, q = rss.length - k ∧ i = k ∧ k ≤ rss.length ∧ Au 51 sR σ A n c (rss.take k).flatten τ, ⟨_, 0, rfl, rfl, Nat.zero_le _, ho⟩, ?_⟩
    rintro q A2 n2 c2 i τ ⟨k, rfl, rfl, hk, ho⟩ _
    refine AX (fun hlt => ?_) (fun hge => ?_)
    · have hkl : k < rss.length := by omega
      obtain ⟨ss, g1, g2, g3⟩ := h
      refine Tc (g1.sub (Au.sub ho)) (by omega) (by simp; omega) ?_
      simp only [Int.toNat_natCast]
      have h5 := hpre (k + 1)
      rw [hnx k hkl, List.length_append] at h5
      refine ⟨(rss.take k).flatten, σ, ho, rss[k], g3 k (by omega) hkl, BP (by omega) (AN (by omega) (Bu _ (by omega) fun A' n' c' τ' ho' => ⟨k + 1, rfl, rfl, by omega, ?_⟩))⟩
      rw [hnx k hkl]
      exact ho'
    · have hkp : k = rss.length := by omega
      subst hkp
      rw [List.take_length] at ho
      rw [h10]
      intro _
      exact Ay ⟨_, _, _, rfl, ho⟩
  refine ⟨fun q s i τ => ∃ k : Nat, q = rss.length - k ∧ i = k ∧ k ≤ rss.length ∧ s = ((rss.take k).flatten.length : Nat) ∧ τ = σ, ⟨_, 0, rfl, rfl, Nat.zero_le _, rfl, rfl⟩, ?_⟩
  rintro q s i τ ⟨k, rfl, rfl, hk, rfl, rfl⟩ _
  refine AX (fun hlt => ?_) (fun hge => ?_)
  · have hkl : k < rss.length := by omega
    refine Ag fun J37 h37 => ?_
    refine Ub h (by omega) (by simpa using hkl) fun A3 n3 c3 hr => ?_
    simp only [Int.toNat_natCast] at hr
    have hn3 : n3 = rss[k].length := hr.1
    have e1 : (rss.take (k + 1)).flatten.length = (rss.take k).flatten.length + n3 := by rw [hnx k hkl, List.length_append, hn3]
    have h5 := hpre (k + 1)
    refine AN (by omega) (AX (fun g => absurd g (by omega)) (fun _ => ?_))
    rw [h37]
    intro _
    exact AN (by omega) (Bu _ (by omega) ⟨k + 1, rfl, rfl, by omega, by omega, rfl⟩)
  · have hkp : k = rss.length := by omega
    subst hkp
    rw [List.take_length]
    exact k3
end
end Go.Proofs.Ytkdjkkimngeloaa
