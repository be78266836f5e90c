/- Trimmed by wip/trim.py to what this claim rests on. -/
import Derived.Test.YtkdjkkimngeloaaXVb2
import Derived.Test.YtkdjkkimngeloaaXR1
namespace Go.Proofs.Ytkdjkkimngeloaa
open Go.RowKit
section
variable {σ : Hp}
theorem R1 {n lo hi : Int} : Ag Try.prog Ia #[.int .i64 n, .int .i64 lo, .int .i64 hi] σ fun v σ' => v = .bool (decide (lo ≤ n ∧ n ≤ hi)) ∧ σ' = σ := by
  refine Jn _ _ _ _ _ ?_
  unfold FC
  refine Bm (fun h => Aw ⟨?_, rfl⟩) (fun h => Aw ⟨?_, rfl⟩)
  · simp [h]
  · simp [h]
theorem Dk {n lo hi : Int} {K : Bool → Hp → Prop} (h1 : lo ≤ n ∧ n ≤ hi → K true σ) (h2 : ¬ (lo ≤ n ∧ n ≤ hi) → K false σ) : cl Try.prog (.func (.func Ia) #[] #[]) #[.int .i64 n, .int .i64 lo, .int .i64 hi] σ fun v σ' => ∃ t : Bool, (v = .bool t ∧ K t σ') :=
  clB HC R1 (by by_cases h : lo ≤ n ∧ n ≤ hi <;> simp only [h] <;> first | exact h1 h | exact h2 h)
theorem Rj {w : MW} {n : Int} (hw : w.pn ≤ 4294967296) : Ag Try.prog Ij #[w.v, .int .i64 n] σ fun v σ' => v = .bool (decide (0 ≤ n ∧ n < w.pn)) ∧ σ' = σ := by
  refine Jt _ _ _ _ _ _ _ _ _ ?_
  unfold Fc
  refine AU (by omega) (Dk (fun h => Aw ⟨?_, rfl⟩) (fun h => Aw ⟨?_, rfl⟩))
  · rw [decide_eq_true (by omega)]
  · rw [decide_eq_false (by omega)]
theorem JL {w : MW} {n : Int} {K : Bool → Hp → Prop} (hw : w.pn ≤ 4294967296) (h1 : 0 ≤ n ∧ n < w.pn → K true σ) (h2 : ¬ (0 ≤ n ∧ n < w.pn) → K false σ) : cl Try.prog (.func (.func Ij) #[] #[]) #[w.v, .int .i64 n] σ fun v σ' => ∃ t : Bool, (v = .bool t ∧ K t σ') :=
  clB Hu (Rj hw) (by by_cases h : 0 ≤ n ∧ n < (w.pn : Int) <;> simp only [h] <;> first | exact h1 h | exact h2 h)
theorem Kd {w : MW} {m : Mp} (h : MIn σ w m) (hp : m.pk.length ≤ 4294967296) (hr : m.rs.length ≤ 4294967296) :
    Ag Try.prog IA #[w.v] σ fun v σ' => v = .int .i64 (eM m) ∧ σ' = σ := by
  refine GZ _ _ _ _ _ _ _ _ ?_
  unfold C9
  have hpn := h.pn
  have hrn := h.rn
  have bad : ¬ MpS m → eM m = 90 := fun hn => by unfold eM; rw [if_neg fun ho => hn (Mp.okB_iff.1 ho)]
  refine Ah fun J3 h3 => Ah fun J46 h46 => ?_
  have kbad : ¬ MpS m → J46 true σ := fun hn => by
    rw [h46]
    intro _
    exact FM (Aw ⟨by rw [bad hn], rfl⟩)
  refine Dk (fun g1 => BB ?_) (fun g1 => Bw (kbad fun hm => g1 (by have := hm.n; omega)))
  by_cases g2 : (30 : Int) < (w.rn : Int)
  · rw [decide_eq_true g2]
    exact kbad fun hm => by have := hm.k; omega
  rw [decide_eq_false g2, h46]
  intro _
  refine En ?_
  rw [h3]
  clear h3 J3 h46 kbad J46
  intro _
  refine Ah fun J6 h6 => ?_
  refine ⟨fun q i τ => ∃ k : Nat, q = m.rs.length - k ∧ i = k ∧ k ≤ m.rs.length ∧ τ = σ ∧ ∀ j, (h : j < m.rs.length) → j < k → KQ m.pk.length m.rs[j], ⟨_, 0, rfl, rfl, by omega, rfl, fun j _ h => by omega⟩, ?_⟩
  rintro q i τ ⟨k, rfl, rfl, hk, rfl, hj⟩ _
  refine Bm (fun hlt => ?_) (fun hge => ?_)
  · have hkl : k < m.rs.length := by omega
    refine Ah fun J14 h14 => ?_
    refine Kz h.r (by omega) (by simpa using hkl) fun r hr => ?_
    simp only [Int.toNat_natCast] at hr
    refine Ah fun J27 h27 => ?_
    have kb : ¬ KQ m.pk.length r → J27 true τ := fun hn => by
      rw [h27]
      intro _
      exact FM (Aw ⟨by rw [bad fun hm => hn (by rw [← hr]; exact hm.r _ (List.getElem_mem hkl))], rfl⟩)
    refine JL (w := w) (by omega) (fun x1 => BB ?_) (fun x1 => Bw (kb fun g => x1 (by rw [hpn]; exact g.1)))
    refine JL (w := w) (by omega) (fun x2 => BB ?_) (fun x2 => Bw (kb fun g => x2 (by rw [hpn]; exact g.2.1)))
    refine Bm (fun x3 => kb fun g => g.2.2.1 x3) (fun x3 => ?_)
    refine Dk (fun x4 => BB ?_) (fun x4 => Bw (kb fun g => x4 g.2.2.2.1))
    refine Dk (fun x5 => BB ?_) (fun x5 => Bw (kb fun g => x5 g.2.2.2.2.1))
    refine Dk (fun x6 => ?_) (fun x6 => kb fun g => x6 g.2.2.2.2.2)
    rw [h27]
    intro _
    refine En ?_
    rw [h14]
    intro _
    refine AU (by omega) (Cf _ (by omega) ⟨k + 1, rfl, rfl, by omega, rfl, fun j h' hjk => ?_⟩)
    rcases Nat.lt_or_ge j k with a | a
    · exact hj j h' a
    · obtain rfl : j = k := by omega
      rw [hr]
      rw [hpn] at x1 x2
      exact ⟨x1, x2, x3, x4, x5, x6⟩
  · rw [h6]
    intro _
    refine Aw ⟨?_, rfl⟩
    unfold eM
    rw [if_pos]
    refine Mp.okB_iff.2 ⟨by omega, by omega, fun r hr1 => ?_⟩
    obtain ⟨j, hjl, rfl⟩ := List.mem_iff_getElem.1 hr1
    exact hj j hjl (by omega)
theorem HL {w : MW} {m : Mp} {l : Lry} (h : MIn σ w m) (hp : m.pk.length ≤ 4294967296) :
    Ag Try.prog Hq #[w.v, l.v] σ fun v σ' => v = .int .i64 (eL m l) ∧ σ' = σ := by
  refine FX _ _ _ _ _ _ _ _ _ _ _ _ _ _ ?_
  unfold CF
  have hpn := h.pn
  refine Ah fun J3 h3 => Ah fun J6 h6 => ?_
  have kb : ¬ BC m l → J6 true σ := fun hn => by
    rw [h6]
    intro _
    refine FM (Aw ⟨?_, rfl⟩)
    unfold eL
    rw [if_neg fun g => hn (GE.1 g)]
  refine Dk (fun g1 => BB ?_) (fun g1 => Bw (kb fun g => g1 g.h))
  refine Dk (fun g2 => BB ?_) (fun g2 => Bw (kb fun g => g2 g.w))
  refine JL (w := w) (by omega) (fun g3 => BB ?_) (fun g3 => Bw (kb fun g => g3 (by rw [hpn]; exact g.f)))
  refine Dk (fun g4 => BB ?_) (fun g4 => Bw (kb fun g => g4 g.y))
  refine Dk (fun g5 => BB ?_) (fun g5 => Bw (kb fun g => g5 g.d))
  refine Dk (fun g6 => ?_) (fun g6 => kb fun g => g6 g.s)
  rw [h6]
  intro _
  refine En ?_
  rw [h3]
  intro _
  refine Aw ⟨?_, rfl⟩
  unfold eL
  rw [hpn] at g3
  rw [if_pos (GE.2 ⟨g1, g2, g3, g4, g5, g6⟩)]
theorem RJ {m : Mp} {l : Lry} : eC m [l] = if eM m = 0 then eL m l else eM m := by
  unfold eC eM eL
  by_cases h1 : m.okB = true
  · rw [if_pos h1, if_pos h1, if_pos rfl]
    simp
  · rw [if_neg h1, if_neg h1]
    rfl
theorem Q9 {m : Mp} {l : Lry} (h : eC m [l] = 0) : MpS m ∧ BC m l := by
  unfold eC at h
  split at h
  · rename_i h1
    split at h
    · rename_i h2
      refine ⟨Mp.okB_iff.1 h1, GE.1 (by simpa using h2)⟩
    · cases h
  · cases h
theorem Qy {w : MW} {m : Mp} {l : Lry} (h : MIn σ w m) (hp : m.pk.length ≤ 4294967296) (hr : m.rs.length ≤ 4294967296) :
    Ag Try.prog KW #[w.v, l.v] σ fun v σ' => v = .int .i64 (eC m [l]) ∧ σ' = σ := by
  refine IU _ _ _ _ _ _ _ _ _ _ _ _ _ _ ?_
  unfold ED
  rw [RJ]
  refine clI CY (Kd h hp hr) (Bz (fun e => Aw ⟨by rw [if_neg e], rfl⟩) (fun e => ?_))
  exact clI Cv (HL h hp) (Aw ⟨by rw [if_pos e], rfl⟩)
theorem Rg {r : Rdt} {l : Lry} : Ag Try.prog Fa #[l.v, rdV r] σ fun v σ' => v = .bool (decide (DO l r)) ∧ σ' = σ := by
  refine JA _ _ _ _ _ _ _ _ _ _ _ _ _ ?_
  unfold Fv DO
  refine Bm (fun h => Aw ⟨?_, rfl⟩) (fun h => Aw ⟨?_, rfl⟩)
  · simp [h]
  · simp [h]
theorem Ro {r : Rdt} {l : Lry} {K : Bool → Hp → Prop} (h1 : DO l r → K true σ) (h2 : ¬ DO l r → K false σ) : cl Try.prog (.func (.func Fa) #[] #[]) #[l.v, rdV r] σ fun v σ' => ∃ t : Bool, (v = .bool t ∧ K t σ') :=
  clB Hz Rg (by by_cases h : DO l r <;> simp only [h] <;> first | exact h1 h | exact h2 h)
theorem RL {A : Option Addr} {n : Nat} {xs : List Leg} {i : Int} {K : Int → Prop} (h : RdS sJ σ A n xs) (hi : 0 ≤ i) (hn : i.toNat < xs.length) (hk : K xs[i.toNat].1) : ix A n i 2 fun b a => ldI σ .i64 b a K := by
  refine Jc (ss := sJ) h rfl hi hn fun b o hc => ?_
  exact BL (hc 0 (by decide)) hk
theorem Sa {A : Option Addr} {n : Nat} {xs : List Leg} {i : Int} {K : Int → Prop} (h : RdS sJ σ A n xs) (hi : 0 ≤ i) (hn : i.toNat < xs.length) (hk : K xs[i.toNat].2) : ix A n i 2 fun b a => ldI σ .i64 b (a + 1) K := by
  refine Jc (ss := sJ) h rfl hi hn fun b o hc => ?_
  exact BL (hc 1 (by decide)) hk
abbrev sdV (s : Std) : Value := .agg #[.int .i64 s.tn, .int .i64 s.sn, .int .i64 s.dv]
set_option maxRecDepth 20000 in
theorem SE {w : MW} {m : Mp} {l : Lry} {s : Std} {x : Leg} (h : MIn σ w m) (hm : Cm m) (hx : KJ m x) (ht : 0 ≤ s.tn ∧ s.tn < m.pk.length) (hn : 0 ≤ s.sn ∧ s.sn ≤ 1000000000000) (hd : 0 ≤ s.dv ∧ s.dv ≤ 1000000000000) (h2 : 0 ≤ x.2 ∧ x.2 ≤ 1000000000000) :
    Ag Try.prog Mk #[w.v, l.v, sdV s, .agg #[.int .i64 x.1, .int .i64 x.2]] σ fun v σ' => ∃ s1 b, v = .tuple #[sdV s1, .bool b] ∧ σ' = σ ∧ (b = true → go1 m l s x = some s1) ∧ (b = false → go1 m l s x = none) := by
  refine KI _ _ _ _ _ _ _ _ _ _ _ _ _ _ _ _ _ _ _ ?_
  unfold Gj
  have hpn := h.pn
  have hk : x.1.toNat < m.rs.length := by have := hx.1; have := hx.2; omega
  have hrd := hm.rd hx
  refine Kz h.r hx.1 hk fun r hr => ?_
  rw [← Lm hk] at hr
  rw [hr] at hrd
  obtain ⟨⟨a0, a1⟩, ⟨b0, b1⟩, hab, ⟨g0, g1⟩, _⟩ := hrd
  have hn12 := hm.n
  refine Ah fun J10 h10 => Ah fun J36 h36 => ?_
  have kbad : go1 m l s x = none → J36 true σ := fun hg => by
    rw [h36]
    intro _
    exact FM (Aw ⟨s, false, rfl, rfl, fun e => (by cases e), fun _ => hg⟩)
  have k36 : (s.tn = r.1 ∨ s.tn = r.2.1) → DO l r → J36 (decide (x.2 < s.sn)) σ := by
    intro c1 c2
    by_cases c3 : x.2 < s.sn
    · rw [decide_eq_true c3]
      refine kbad ?_
      unfold go1
      rw [if_neg fun g => by have := g.2.2; omega]
    rw [decide_eq_false c3, h36]
    intro _
    refine En ?_
    rw [h10]
    clear h10 J10 h36 kbad J36
    intro _
    refine Ah fun J16 h16 => ?_
    have k16 : ∀ d, d = DU m l s x → J16 d σ := by
      intro d e
      have hd1 : 0 ≤ d ∧ d ≤ 1000000000000 := by
        rw [e]
        unfold DU
        split <;> omega
      rw [h16]
      intro _
      refine AU (by omega) (AU (by omega) (AU (by omega) (AU (by omega) ?_)))
      have fin : rt σ (fun v σ' => ∃ s1 b, v = .tuple #[sdV s1, .bool b] ∧ σ' = σ ∧ (b = true → go1 m l s x = some s1) ∧ (b = false → go1 m l s x = none)) (.tuple #[.agg #[.int .i64 (r.1 + r.2.1 - s.tn), .int .i64 (x.2 + r.2.2.1), .int .i64 (d + r.2.2.1)], .bool (decide (d + r.2.2.1 ≤ l.dr))]) := by
        refine Aw ⟨⟨r.1 + r.2.1 - s.tn, x.2 + r.2.2.1, d + r.2.2.1⟩, _, rfl, rfl, fun hb => ?_, fun hb => ?_⟩
        · have hb := of_decide_eq_true hb
          unfold go1
          rw [hr, if_pos ⟨c1, c2, by omega⟩, ← e, if_pos hb]
        · have hb := of_decide_eq_false hb
          unfold go1
          rw [hr, if_pos ⟨c1, c2, by omega⟩, ← e, if_neg hb]
      exact ⟨AU (by omega) ⟨fin, fin⟩, ⟨AU (by omega) fin, AU (by omega) fin⟩, AU (by omega) fin⟩
    refine Ah fun J28 h28 => ?_
    have k28 : ∀ t, (t = true ↔ gbp m.pk s.tn = true ∧ l.rst ≤ x.2 - s.sn) → J28 t σ := by
      intro t e
      rw [h28]
      intro _
      refine Hv (fun et => k16 _ ?_) (fun et => k16 _ ?_)
      · unfold DU
        rw [if_pos (e.1 et)]
      · unfold DU
        rw [if_neg fun g => by rw [e.2 g] at et; cases et]
    refine L6 h.p (by omega) (by omega) ?_
    refine Hv (fun g => AU (by omega) (k28 _ ?_)) (fun g => k28 _ ?_)
    · rw [g]; simp
    · rw [g]; simp
  have kf : (s.tn = r.1 ∨ s.tn = r.2.1) → cl Try.prog (.func (.func Fa) #[] #[]) #[l.v, rdV r] σ fun v σ39 => ∃ t : Bool, (v = .bool t ∧ bc (!t) (J36 true σ39) (J36 (decide (x.2 < s.sn)) σ39)) := fun c1 =>
    Ro (fun c2 => BB (k36 c1 c2)) (fun c2 => Bw (kbad (by unfold go1; rw [hr, if_neg fun g => c2 g.2.1])))
  refine Bz (fun c1 => Bz (fun c2 => kbad ?_) (fun c2 => kf (.inr c2))) (fun c1 => kf (.inl c1))
  unfold go1
  rw [hr, if_neg fun g => g.1.elim c1 c2]
abbrev sdO (s : Std) : Obj := .cells #[.int .i64 s.tn, .int .i64 s.sn, .int .i64 s.dv] 88 (0, 0)
set_option maxRecDepth 20000 in
theorem Ju {w : MW} {m : Mp} {l : Lry} {A : Option Addr} {n c : Nat} {j : List Leg} (h : MIn σ w m) (hp : m.pk.length ≤ 4294967296) (hr : m.rs.length ≤ 4294967296) (hj : RdS sJ σ A n j) (hjl : j.length ≤ 4294967296) :
    Ag Try.prog Gv #[w.v, l.v, .slice A n c] σ fun v σ' => v = qV (Pf m l j) ∧ σ' = σ := by
  refine E2 _ _ _ _ _ _ _ _ _ _ _ _ _ _ _ _ _ ?_
  unfold Cj
  have hn := hj.lenJ
  have hrn := h.rn
  refine clI G0 (Qy h hp hr) (Bz (fun e => Aw ⟨?_, rfl⟩) (fun e0 => ?_))
  · unfold Pf
    rw [if_neg e]
  obtain ⟨hm, hl⟩ := Q9 e0
  have hc : Pf m l j = jrn m l j := by unfold Pf; rw [if_pos e0]
  rw [hc]
  have hk30 := hm.k
  refine Bm (fun h60 => Aw ⟨?_, rfl⟩) (fun h60 => ?_)
  · unfold jrn; rw [if_pos (by omega)]
  refine Ah fun J6 h6 => ?_
  have k6 : (∀ i (_ : i < j.length), CH m j[i] = false) → J6 σ := by
    intro hgood
    have hjr : jrn m l j = wlk m l (bgn l) 0 j := by
      unfold jrn
      rw [if_neg (by omega), I2 hgood]
      rfl
    rw [h6]
    intro _
    refine Ah fun J9 h9 => ?_
    refine ⟨fun q i a b d τ => ∃ (k : Nat) (s : Std), q = j.length - k ∧ i = k ∧ k ≤ j.length ∧ a = s.tn ∧ b = s.sn ∧ d = s.dv ∧ τ = σ ∧ wlk m l (bgn l) 0 j = wlk m l s k (j.drop k) ∧ LN m l s ∧ s.sn ≤ 200000, ⟨_, 0, bgn l, rfl, rfl, by omega, rfl, rfl, rfl, rfl, rfl, hl.bgn, by have := hl.y; show l.rdy ≤ 200000; omega⟩, ?_⟩
    rintro q i a b d τ ⟨k, s, rfl, rfl, hk, rfl, rfl, rfl, rfl, hw, hs, hs2⟩ _
    refine Bm (fun hlt => ?_) (fun hge => ?_)
    · have hkl : k < j.length := by omega
      obtain ⟨hx1, hx2⟩ := Kc (hgood k hkl)
      have hdrop : j.drop k = j[k] :: j.drop (k + 1) := List.drop_eq_getElem_cons hkl
      refine Ah fun J23 h23 => ?_
      refine Ll hj (by omega) (by simpa using hkl) fun x hx => ?_
      simp only [Int.toNat_natCast] at hx
      rw [hx] at hx1 hx2 hdrop
      have hd := hs.d
      have hsn := hs.n
      have hy := hl.y
      have hdr := hl.d
      have one : ∀ (s1 : Std) (b : Bool), (b = true → go1 m l s x = some s1) → (b = false → go1 m l s x = none) → ∀ bb, τ bb = none → J23 (some ⟨bb, 0, none⟩) b (τ.ins bb (sdO s1)) := by
        intro s1 b h1 h2 bb nb
        have hB : Blk bb (sdO s1) τ (τ.ins bb (sdO s1)) := ⟨nb, rfl⟩
        generalize τ.ins bb (sdO s1) = τ1 at hB ⊢
        rw [h23]
        intro _
        refine KG (fun eb => ?_) (fun eb => ?_)
        · refine BU hB.sub ⟨?_, rfl⟩
          rw [hjr, hw, hdrop]
          show _ = qV (match go1 m l s x with | some s1 => wlk m l s1 (k + 1) (j.drop (k + 1)) | none => (0, 0, (k : Int), 92))
          rw [h2 eb]
        · have hg := h1 eb
          obtain ⟨ok, _, esn⟩ := hs.go hm.ok (x := x) hx1 hg
          obtain ⟨_, _, _, ⟨_, g4⟩, _⟩ := hm.ok.rd (x := x) hx1
          refine AL (AZ hB.get rfl (AZ hB.get rfl (AZ hB.get rfl (AU (by omega) (Ls _ (by omega) hB.sub ⟨k + 1, s1, rfl, rfl, by omega, rfl, rfl, rfl, rfl, ?_, ok, by omega⟩)))))
          rw [hw, hdrop]
          show (match go1 m l s x with | some s1 => wlk m l s1 (k + 1) (j.drop (k + 1)) | none => (0, 0, (k : Int), 92)) = _
          rw [hg]
          rfl
      have cg := SE (l := l) h hm.ok (x := x) hx1 hs.t ⟨by omega, by omega⟩ ⟨hd.1, by omega⟩ ⟨hx2.1, by omega⟩
      constructor
      · refine BN El cg ?_
        rintro v σ' ⟨s1, b, rfl, rfl, h1, h2⟩
        exact ⟨_, _, _, _, rfl, fun bb nb => one s1 b h1 h2 bb nb⟩
      · refine BN El cg ?_
        rintro v σ' ⟨s1, b, rfl, rfl, h1, h2⟩
        exact ⟨_, _, _, _, rfl, fun bb nb => one s1 b h1 h2 bb nb⟩
    · rw [h9]
      intro _
      refine Aw ⟨?_, rfl⟩
      have : k = j.length := by omega
      subst this
      rw [hjr, hw, List.drop_length]
      rfl
  refine ⟨fun q i τ => ∃ k : Nat, q = j.length - k ∧ i = k ∧ k ≤ j.length ∧ τ = σ ∧ ∀ i, (h : i < j.length) → i < k → CH m j[i] = false, ⟨_, 0, rfl, rfl, by omega, rfl, fun j _ h => by omega⟩, ?_⟩
  rintro q i τ ⟨k, rfl, rfl, hk, rfl, hg⟩ _
  refine Bm (fun hlt => ?_) (fun hge => k6 fun i hi => hg i hi (by omega))
  have hkl : k < j.length := by omega
  refine Ah fun J61 h61 => Ah fun J67 h67 => ?_
  have kbad : ¬ ((0 ≤ j[k].1 ∧ j[k].1 < m.rs.length) ∧ (0 ≤ j[k].2 ∧ j[k].2 ≤ 100000)) → J67 true τ := fun hb => by
    rw [h67]
    intro _
    refine FM (Aw ⟨?_, rfl⟩)
    have hf : Kw (CH m) j = k := Mc hkl (by unfold CH; rw [decide_eq_false hb]; rfl) hg
    unfold jrn
    rw [if_neg (by omega), hf, if_pos (by omega)]
  refine RL hj (by omega) (by simpa using hkl) ?_
  simp only [Int.toNat_natCast]
  refine AU (by omega) (Dk (fun g1 => BB ?_) (fun g1 => Bw (kbad fun g => g1 (by have := g.1; omega))))
  refine Sa hj (by omega) (by simpa using hkl) ?_
  simp only [Int.toNat_natCast]
  refine Dk (fun g2 => ?_) (fun g2 => kbad fun g => g2 g.2)
  rw [h67]
  intro _
  refine En ?_
  rw [h61]
  intro _
  refine AU (by omega) (Cf _ (by omega) ⟨k + 1, rfl, rfl, by omega, rfl, fun i h' hik => ?_⟩)
  rcases Nat.lt_or_ge i k with hlt | hge
  · exact hg i h' hlt
  · obtain rfl : i = k := by omega
    unfold CH
    rw [decide_eq_true ⟨⟨g1.1, by omega⟩, g2⟩]
    rfl
end
end Go.Proofs.Ytkdjkkimngeloaa
