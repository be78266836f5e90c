/- Trimmed by wip/trim.py to what this claim rests on. -/
import Derived.Test.YtkdjkkimngeloaaZVb2
import Derived.Test.YtkdjkkimngeloaaZR1
namespace Go.Proofs.Ytkdjkkimngeloaa
open Go.RowKit
section
variable {σ : Hp}
theorem VM {n lo hi : Int} : Ag Try.prog Kh #[.int .i64 n, .int .i64 lo, .int .i64 hi] σ fun v σ' => v = .bool (decide (lo ≤ n ∧ n ≤ hi)) ∧ σ' = σ := by
  refine Lo _ _ _ _ _ ?_
  unfold Gg
  refine AK (fun h => Av ⟨?_, rfl⟩) (fun h => Av ⟨?_, rfl⟩)
  · simp [h]
  · simp [h]
theorem EP {n lo hi : Int} {K : Bool → Hp → Prop} (h1 : lo ≤ n ∧ n ≤ hi → K true σ) (h2 : ¬ (lo ≤ n ∧ n ≤ hi) → K false σ) : cl Try.prog (.func (.func Kh) #[] #[]) #[.int .i64 n, .int .i64 lo, .int .i64 hi] σ fun v σ' => ∃ t : Bool, (v = .bool t ∧ K t σ') :=
  clB Jn VM (by by_cases h : lo ≤ n ∧ n ≤ hi <;> simp only [h] <;> first | exact h1 h | exact h2 h)
theorem UZ {w : MW} {n : Int} (hw : w.pn ≤ 4294967296) : Ag Try.prog Kg #[w.v, .int .i64 n] σ fun v σ' => v = .bool (decide (0 ≤ n ∧ n < w.pn)) ∧ σ' = σ := by
  refine Lx _ _ _ _ _ _ _ _ _ ?_
  unfold GD
  refine AL (by omega) (EP (fun h => Av ⟨?_, rfl⟩) (fun h => Av ⟨?_, rfl⟩))
  · rw [decide_eq_true (by omega)]
  · rw [decide_eq_false (by omega)]
theorem LR {w : MW} {n : Int} {K : Bool → Hp → Prop} (hw : w.pn ≤ 4294967296) (h1 : 0 ≤ n ∧ n < w.pn → K true σ) (h2 : ¬ (0 ≤ n ∧ n < w.pn) → K false σ) : cl Try.prog (.func (.func Kg) #[] #[]) #[w.v, .int .i64 n] σ fun v σ' => ∃ t : Bool, (v = .bool t ∧ K t σ') :=
  clB Jh (UZ hw) (by by_cases h : 0 ≤ n ∧ n < (w.pn : Int) <;> simp only [h] <;> first | exact h1 h | exact h2 h)
theorem Qi {w : MW} {m : Mp} (h : MIn σ w m) (hp : m.pk.length ≤ 4294967296) (hr : m.rs.length ≤ 4294967296) :
    Ag Try.prog K1 #[w.v] σ fun v σ' => v = .int .i64 (eM m) ∧ σ' = σ := by
  refine IC _ _ _ _ _ _ _ _ ?_
  unfold DD
  have hpn := h.pn
  have hrn := h.rn
  have bad : ¬ MpS m → eM m = 90 := fun hn => by unfold eM; rw [if_neg fun ho => hn (Mp.okB_iff.1 ho)]
  refine Ad fun J3 h3 => Ad fun J46 h46 => ?_
  have kbad : ¬ MpS m → J46 true σ := fun hn => by
    rw [h46]
    intro _
    exact Ef (Av ⟨by rw [bad hn], rfl⟩)
  refine EP (fun g1 => BX ?_) (fun g1 => BW (kbad fun hm => g1 (by have := hm.n; omega)))
  by_cases g2 : (30 : Int) < (w.rn : Int)
  · rw [decide_eq_true g2]
    exact kbad fun hm => by have := hm.k; omega
  rw [decide_eq_false g2, h46]
  intro _
  refine Dw ?_
  rw [h3]
  clear h3 J3 h46 kbad J46
  intro _
  refine Ad fun J6 h6 => ?_
  refine ⟨fun q i τ => ∃ k : Nat, q = m.rs.length - k ∧ i = k ∧ k ≤ m.rs.length ∧ τ = σ ∧ ∀ j, (h : j < m.rs.length) → j < k → Nk m.pk.length m.rs[j], ⟨_, 0, rfl, rfl, by omega, rfl, fun j _ h => by omega⟩, ?_⟩
  rintro q i τ ⟨k, rfl, rfl, hk, rfl, hj⟩ _
  refine AK (fun hlt => ?_) (fun hge => ?_)
  · have hkl : k < m.rs.length := by omega
    refine Ad fun J14 h14 => ?_
    refine Ob h.r (by omega) (by simpa using hkl) fun r hr => ?_
    simp only [Int.toNat_natCast] at hr
    refine Ad fun J27 h27 => ?_
    have kb : ¬ Nk m.pk.length r → J27 true τ := fun hn => by
      rw [h27]
      intro _
      exact Ef (Av ⟨by rw [bad fun hm => hn (by rw [← hr]; exact hm.r _ (List.getElem_mem hkl))], rfl⟩)
    refine LR (w := w) (by omega) (fun x1 => BX ?_) (fun x1 => BW (kb fun g => x1 (by rw [hpn]; exact g.1)))
    refine LR (w := w) (by omega) (fun x2 => BX ?_) (fun x2 => BW (kb fun g => x2 (by rw [hpn]; exact g.2.1)))
    refine AK (fun x3 => kb fun g => g.2.2.1 x3) (fun x3 => ?_)
    refine EP (fun x4 => BX ?_) (fun x4 => BW (kb fun g => x4 g.2.2.2.1))
    refine EP (fun x5 => BX ?_) (fun x5 => BW (kb fun g => x5 g.2.2.2.2.1))
    refine EP (fun x6 => ?_) (fun x6 => kb fun g => x6 g.2.2.2.2.2)
    rw [h27]
    intro _
    refine Dw ?_
    rw [h14]
    intro _
    refine AL (by omega) (Bf _ (by omega) ⟨k + 1, rfl, rfl, by omega, rfl, fun j h' hjk => ?_⟩)
    rcases Nat.lt_or_ge j k with a | a
    · exact hj j h' a
    · obtain rfl : j = k := by omega
      rw [hr]
      rw [hpn] at x1 x2
      exact ⟨x1, x2, x3, x4, x5, x6⟩
  · rw [h6]
    intro _
    refine Av ⟨?_, rfl⟩
    unfold eM
    rw [if_pos]
    refine Mp.okB_iff.2 ⟨by omega, by omega, fun r hr1 => ?_⟩
    obtain ⟨j, hjl, rfl⟩ := List.mem_iff_getElem.1 hr1
    exact hj j hjl (by omega)
theorem NR {w : MW} {m : Mp} {l : Lry} (h : MIn σ w m) (hp : m.pk.length ≤ 4294967296) :
    Ag Try.prog I5 #[w.v, l.v] σ fun v σ' => v = .int .i64 (eL m l) ∧ σ' = σ := by
  refine G7 _ _ _ _ _ _ _ _ _ _ _ _ _ _ ?_
  unfold CZ
  have hpn := h.pn
  refine Ad fun J3 h3 => Ad fun J6 h6 => ?_
  have kb : ¬ Bi m l → J6 true σ := fun hn => by
    rw [h6]
    intro _
    refine Ef (Av ⟨?_, rfl⟩)
    unfold eL
    rw [if_neg fun g => hn (Kk.1 g)]
  refine EP (fun g1 => BX ?_) (fun g1 => BW (kb fun g => g1 g.h))
  refine EP (fun g2 => BX ?_) (fun g2 => BW (kb fun g => g2 g.w))
  refine LR (w := w) (by omega) (fun g3 => BX ?_) (fun g3 => BW (kb fun g => g3 (by rw [hpn]; exact g.f)))
  refine EP (fun g4 => BX ?_) (fun g4 => BW (kb fun g => g4 g.y))
  refine EP (fun g5 => BX ?_) (fun g5 => BW (kb fun g => g5 g.d))
  refine EP (fun g6 => ?_) (fun g6 => kb fun g => g6 g.s)
  rw [h6]
  intro _
  refine Dw ?_
  rw [h3]
  intro _
  refine Av ⟨?_, rfl⟩
  unfold eL
  rw [hpn] at g3
  rw [if_pos (Kk.2 ⟨g1, g2, g3, g4, g5, g6⟩)]
theorem Uk {r : Rdt} {l : Lry} : Ag Try.prog GF #[l.v, rdV r] σ fun v σ' => v = .bool (decide (Ft l r)) ∧ σ' = σ := by
  refine LE _ _ _ _ _ _ _ _ _ _ _ _ _ ?_
  unfold Gk Ft
  refine AK (fun h => Av ⟨?_, rfl⟩) (fun h => Av ⟨?_, rfl⟩)
  · simp [h]
  · simp [h]
theorem UY {r : Rdt} {l : Lry} {K : Bool → Hp → Prop} (h1 : Ft l r → K true σ) (h2 : ¬ Ft l r → K false σ) : cl Try.prog (.func (.func GF) #[] #[]) #[l.v, rdV r] σ fun v σ' => ∃ t : Bool, (v = .bool t ∧ K t σ') :=
  clB Ja Uk (by by_cases h : Ft l r <;> simp only [h] <;> first | exact h1 h | exact h2 h)
theorem Qh {A : Option Addr} {n : Nat} {xs : List Leg} {i : Int} {K : Int → Prop} (h : RdS sJ σ A n xs) (hi : 0 ≤ i) (hn : i.toNat < xs.length) (hk : K xs[i.toNat].1) : ix A n i 2 fun b a => ldI σ .i64 b a K := by
  refine HU (ss := sJ) h rfl hi hn fun b o hc => ?_
  exact Br (hc 0 (by decide)) hk
theorem QQ {A : Option Addr} {n : Nat} {xs : List Leg} {i : Int} {K : Int → Prop} (h : RdS sJ σ A n xs) (hi : 0 ≤ i) (hn : i.toNat < xs.length) (hk : K xs[i.toNat].2) : ix A n i 2 fun b a => ldI σ .i64 b (a + 1) K := by
  refine HU (ss := sJ) h rfl hi hn fun b o hc => ?_
  exact Br (hc 1 (by decide)) hk
abbrev sdV (s : Std) : Value := .agg #[.int .i64 s.tn, .int .i64 s.sn, .int .i64 s.dv]
set_option maxRecDepth 20000 in
theorem Wj {w : MW} {m : Mp} {l : Lry} {s : Std} {x : Leg} (h : MIn σ w m) (hm : BE m) (hx : IK m x) (ht : 0 ≤ s.tn ∧ s.tn < m.pk.length) (hn : 0 ≤ s.sn ∧ s.sn ≤ 1000000000000) (hd : 0 ≤ s.dv ∧ s.dv ≤ 1000000000000) (h2 : 0 ≤ x.2 ∧ x.2 ≤ 1000000000000) :
    Ag Try.prog PD #[w.v, l.v, sdV s, .agg #[.int .i64 x.1, .int .i64 x.2]] σ fun v σ' => ∃ s1 b, v = .tuple #[sdV s1, .bool b] ∧ σ' = σ ∧ (b = true → go1 m l s x = some s1) ∧ (b = false → go1 m l s x = none) := by
  refine Mm _ _ _ _ _ _ _ _ _ _ _ _ _ _ _ _ _ _ _ ?_
  unfold HM
  have hpn := h.pn
  have hk : x.1.toNat < m.rs.length := by have := hx.1; have := hx.2; omega
  have hrd := hm.rd hx
  refine Ob h.r hx.1 hk fun r hr => ?_
  rw [← NS hk] at hr
  rw [hr] at hrd
  obtain ⟨⟨a0, a1⟩, ⟨b0, b1⟩, hab, ⟨g0, g1⟩, _⟩ := hrd
  have hn12 := hm.n
  refine Ad fun J10 h10 => Ad fun J36 h36 => ?_
  have kbad : go1 m l s x = none → J36 true σ := fun hg => by
    rw [h36]
    intro _
    exact Ef (Av ⟨s, false, rfl, rfl, fun e => (by cases e), fun _ => hg⟩)
  have k36 : (s.tn = r.1 ∨ s.tn = r.2.1) → Ft l r → J36 (decide (x.2 < s.sn)) σ := by
    intro c1 c2
    by_cases c3 : x.2 < s.sn
    · rw [decide_eq_true c3]
      refine kbad ?_
      unfold go1
      rw [if_neg fun g => by have := g.2.2; omega]
    rw [decide_eq_false c3, h36]
    intro _
    refine Dw ?_
    rw [h10]
    clear h10 J10 h36 kbad J36
    intro _
    refine Ad fun J16 h16 => ?_
    have k16 : ∀ d, d = AW m l s x → J16 d σ := by
      intro d e
      have hd1 : 0 ≤ d ∧ d ≤ 1000000000000 := by
        rw [e]
        unfold AW
        split <;> omega
      rw [h16]
      intro _
      refine AL (by omega) (AL (by omega) (AL (by omega) (AL (by omega) ?_)))
      have fin : rt σ (fun v σ' => ∃ s1 b, v = .tuple #[sdV s1, .bool b] ∧ σ' = σ ∧ (b = true → go1 m l s x = some s1) ∧ (b = false → go1 m l s x = none)) (.tuple #[.agg #[.int .i64 (r.1 + r.2.1 - s.tn), .int .i64 (x.2 + r.2.2.1), .int .i64 (d + r.2.2.1)], .bool (decide (d + r.2.2.1 ≤ l.dr))]) := by
        refine Av ⟨⟨r.1 + r.2.1 - s.tn, x.2 + r.2.2.1, d + r.2.2.1⟩, _, rfl, rfl, fun hb => ?_, fun hb => ?_⟩
        · have hb := of_decide_eq_true hb
          unfold go1
          rw [hr, if_pos ⟨c1, c2, by omega⟩, ← e, if_pos hb]
        · have hb := of_decide_eq_false hb
          unfold go1
          rw [hr, if_pos ⟨c1, c2, by omega⟩, ← e, if_neg hb]
      exact ⟨AL (by omega) ⟨fin, fin⟩, ⟨AL (by omega) fin, AL (by omega) fin⟩, AL (by omega) fin⟩
    refine Ad fun J28 h28 => ?_
    have k28 : ∀ t, (t = true ↔ gbp m.pk s.tn = true ∧ l.rst ≤ x.2 - s.sn) → J28 t σ := by
      intro t e
      rw [h28]
      intro _
      refine I2 (fun et => k16 _ ?_) (fun et => k16 _ ?_)
      · unfold AW
        rw [if_pos (e.1 et)]
      · unfold AW
        rw [if_neg fun g => by rw [e.2 g] at et; cases et]
    refine RJ h.p (by omega) (by omega) ?_
    refine I2 (fun g => AL (by omega) (k28 _ ?_)) (fun g => k28 _ ?_)
    · rw [g]; simp
    · rw [g]; simp
  have kf : (s.tn = r.1 ∨ s.tn = r.2.1) → cl Try.prog (.func (.func GF) #[] #[]) #[l.v, rdV r] σ fun v σ39 => ∃ t : Bool, (v = .bool t ∧ bc (!t) (J36 true σ39) (J36 (decide (x.2 < s.sn)) σ39)) := fun c1 =>
    UY (fun c2 => BX (k36 c1 c2)) (fun c2 => BW (kbad (by unfold go1; rw [hr, if_neg fun g => c2 g.2.1])))
  refine Bj (fun c1 => Bj (fun c2 => kbad ?_) (fun c2 => kf (.inr c2))) (fun c1 => kf (.inl c1))
  unfold go1
  rw [hr, if_neg fun g => g.1.elim c1 c2]
end
end Go.Proofs.Ytkdjkkimngeloaa
