/- Trimmed by wip/trim.py to what this claim rests on. -/
import Derived.Test.YtkdjkkimngeloaaYVb5
import Derived.Test.YtkdjkkimngeloaaYR1
namespace Go.Proofs.Ytkdjkkimngeloaa
open Go.RowKit
section
variable {σ : Hp}
theorem RC {n lo hi : Int} : Ag Try.prog Hs #[.int .i64 n, .int .i64 lo, .int .i64 hi] σ fun v σ' => v = .bool (decide (lo ≤ n ∧ n ≤ hi)) ∧ σ' = σ := by
  refine IZ _ _ _ _ _ ?_
  unfold Fa
  refine Br (fun h => Ax ⟨?_, rfl⟩) (fun h => Ax ⟨?_, rfl⟩)
  · simp [h]
  · simp [h]
theorem C8 {n lo hi : Int} {K : Bool → Hp → Prop} (h1 : lo ≤ n ∧ n ≤ hi → K true σ) (h2 : ¬ (lo ≤ n ∧ n ≤ hi) → K false σ) : cl Try.prog (.func (.func Hs) #[] #[]) #[.int .i64 n, .int .i64 lo, .int .i64 hi] σ fun v σ' => ∃ t : Bool, (v = .bool t ∧ K t σ') :=
  clB GV RC (by by_cases h : lo ≤ n ∧ n ≤ hi <;> simp only [h] <;> first | exact h1 h | exact h2 h)
theorem QL {w : MW} {n : Int} (hw : w.pn ≤ 4294967296) : Ag Try.prog HC #[w.v, .int .i64 n] σ fun v σ' => v = .bool (decide (0 ≤ n ∧ n < w.pn)) ∧ σ' = σ := by
  refine IN _ _ _ _ _ _ _ _ _ ?_
  unfold EZ
  refine AR (by omega) (C8 (fun h => Ax ⟨?_, rfl⟩) (fun h => Ax ⟨?_, rfl⟩))
  · rw [decide_eq_true (by omega)]
  · rw [decide_eq_false (by omega)]
theorem La {w : MW} {n : Int} {K : Bool → Hp → Prop} (hw : w.pn ≤ 4294967296) (h1 : 0 ≤ n ∧ n < w.pn → K true σ) (h2 : ¬ (0 ≤ n ∧ n < w.pn) → K false σ) : cl Try.prog (.func (.func HC) #[] #[]) #[w.v, .int .i64 n] σ fun v σ' => ∃ t : Bool, (v = .bool t ∧ K t σ') :=
  clB GG (QL hw) (by by_cases h : 0 ≤ n ∧ n < (w.pn : Int) <;> simp only [h] <;> first | exact h1 h | exact h2 h)
theorem M8 {w : MW} {m : Mp} (h : MIn σ w m) (hp : m.pk.length ≤ 4294967296) (hr : m.rs.length ≤ 4294967296) :
    Ag Try.prog Ir #[w.v] σ fun v σ' => v = .int .i64 (eM m) ∧ σ' = σ := by
  refine Gv _ _ _ _ _ _ _ _ ?_
  unfold CP
  have hpn := h.pn
  have hrn := h.rn
  have bad : ¬ MpS m → eM m = 90 := fun hn => by unfold eM; rw [if_neg fun ho => hn (Mp.okB_iff.1 ho)]
  refine Al fun J3 h3 => Al fun J46 h46 => ?_
  have kbad : ¬ MpS m → J46 true σ := fun hn => by
    rw [h46]
    intro _
    exact FJ (Ax ⟨by rw [bad hn], rfl⟩)
  refine C8 (fun g1 => Bm ?_) (fun g1 => Bj (kbad fun hm => g1 (by have := hm.n; omega)))
  by_cases g2 : (30 : Int) < (w.rn : Int)
  · rw [decide_eq_true g2]
    exact kbad fun hm => by have := hm.k; omega
  rw [decide_eq_false g2, h46]
  intro _
  refine E0 ?_
  rw [h3]
  clear h3 J3 h46 kbad J46
  intro _
  refine Al fun J6 h6 => ?_
  refine ⟨fun q i τ => ∃ k : Nat, q = m.rs.length - k ∧ i = k ∧ k ≤ m.rs.length ∧ τ = σ ∧ ∀ j, (h : j < m.rs.length) → j < k → Kh m.pk.length m.rs[j], ⟨_, 0, rfl, rfl, by omega, rfl, fun j _ h => by omega⟩, ?_⟩
  rintro q i τ ⟨k, rfl, rfl, hk, rfl, hj⟩ _
  refine Br (fun hlt => ?_) (fun hge => ?_)
  · have hkl : k < m.rs.length := by omega
    refine Al fun J14 h14 => ?_
    refine JZ h.r (by omega) (by simpa using hkl) fun r hr => ?_
    simp only [Int.toNat_natCast] at hr
    refine Al fun J27 h27 => ?_
    have kb : ¬ Kh m.pk.length r → J27 true τ := fun hn => by
      rw [h27]
      intro _
      exact FJ (Ax ⟨by rw [bad fun hm => hn (by rw [← hr]; exact hm.r _ (List.getElem_mem hkl))], rfl⟩)
    refine La (w := w) (by omega) (fun x1 => Bm ?_) (fun x1 => Bj (kb fun g => x1 (by rw [hpn]; exact g.1)))
    refine La (w := w) (by omega) (fun x2 => Bm ?_) (fun x2 => Bj (kb fun g => x2 (by rw [hpn]; exact g.2.1)))
    refine Br (fun x3 => kb fun g => g.2.2.1 x3) (fun x3 => ?_)
    refine C8 (fun x4 => Bm ?_) (fun x4 => Bj (kb fun g => x4 g.2.2.2.1))
    refine C8 (fun x5 => Bm ?_) (fun x5 => Bj (kb fun g => x5 g.2.2.2.2.1))
    refine C8 (fun x6 => ?_) (fun x6 => kb fun g => x6 g.2.2.2.2.2)
    rw [h27]
    intro _
    refine E0 ?_
    rw [h14]
    intro _
    refine AR (by omega) (CE _ (by omega) ⟨k + 1, rfl, rfl, by omega, rfl, fun j h' hjk => ?_⟩)
    rcases Nat.lt_or_ge j k with a | a
    · exact hj j h' a
    · obtain rfl : j = k := by omega
      rw [hr]
      rw [hpn] at x1 x2
      exact ⟨x1, x2, x3, x4, x5, x6⟩
  · rw [h6]
    intro _
    refine Ax ⟨?_, rfl⟩
    unfold eM
    rw [if_pos]
    refine Mp.okB_iff.2 ⟨by omega, by omega, fun r hr1 => ?_⟩
    obtain ⟨j, hjl, rfl⟩ := List.mem_iff_getElem.1 hr1
    exact hj j hjl (by omega)
theorem KT {w : MW} {m : Mp} {l : Lry} (h : MIn σ w m) (hp : m.pk.length ≤ 4294967296) :
    Ag Try.prog GQ #[w.v, l.v] σ fun v σ' => v = .int .i64 (eL m l) ∧ σ' = σ := by
  refine Fr _ _ _ _ _ _ _ _ _ _ _ _ _ _ ?_
  unfold Ch
  have hpn := h.pn
  refine Al fun J3 h3 => Al fun J6 h6 => ?_
  have kb : ¬ Bn m l → J6 true σ := fun hn => by
    rw [h6]
    intro _
    refine FJ (Ax ⟨?_, rfl⟩)
    unfold eL
    rw [if_neg fun g => hn (Gl.1 g)]
  refine C8 (fun g1 => Bm ?_) (fun g1 => Bj (kb fun g => g1 g.h))
  refine C8 (fun g2 => Bm ?_) (fun g2 => Bj (kb fun g => g2 g.w))
  refine La (w := w) (by omega) (fun g3 => Bm ?_) (fun g3 => Bj (kb fun g => g3 (by rw [hpn]; exact g.f)))
  refine C8 (fun g4 => Bm ?_) (fun g4 => Bj (kb fun g => g4 g.y))
  refine C8 (fun g5 => Bm ?_) (fun g5 => Bj (kb fun g => g5 g.d))
  refine C8 (fun g6 => ?_) (fun g6 => kb fun g => g6 g.s)
  rw [h6]
  intro _
  refine E0 ?_
  rw [h3]
  intro _
  refine Ax ⟨?_, rfl⟩
  unfold eL
  rw [hpn] at g3
  rw [if_pos (Gl.2 ⟨g1, g2, g3, g4, g5, g6⟩)]
theorem Rm {m : Mp} {l : Lry} : eC m [l] = if eM m = 0 then eL m l else eM m := by
  unfold eC eM eL
  by_cases h1 : m.okB = true
  · rw [if_pos h1, if_pos h1, if_pos rfl]
    simp
  · rw [if_neg h1, if_neg h1]
    rfl
theorem QI {m : Mp} {l : Lry} (h : eC m [l] = 0) : MpS m ∧ Bn m l := by
  unfold eC at h
  split at h
  · rename_i h1
    split at h
    · rename_i h2
      refine ⟨Mp.okB_iff.1 h1, Gl.1 (by simpa using h2)⟩
    · cases h
  · cases h
theorem P7 {w : MW} {m : Mp} {l : Lry} (h : MIn σ w m) (hp : m.pk.length ≤ 4294967296) (hr : m.rs.length ≤ 4294967296) :
    Ag Try.prog J2 #[w.v, l.v] σ fun v σ' => v = .int .i64 (eC m [l]) ∧ σ' = σ := by
  refine Iq _ _ _ _ _ _ _ _ _ _ _ _ _ _ ?_
  unfold Ek
  rw [Rm]
  refine clI ES (M8 h hp hr) (B1 (fun e => Ax ⟨by rw [if_neg e], rfl⟩) (fun e => ?_))
  exact clI D6 (KT h hp) (Ax ⟨by rw [if_pos e], rfl⟩)
theorem Qs {r : Rdt} {l : Lry} : Ag Try.prog EN #[l.v, rdV r] σ fun v σ' => v = .bool (decide (DA l r)) ∧ σ' = σ := by
  refine IL _ _ _ _ _ _ _ _ _ _ _ _ _ ?_
  unfold Fi DA
  refine Br (fun h => Ax ⟨?_, rfl⟩) (fun h => Ax ⟨?_, rfl⟩)
  · simp [h]
  · simp [h]
theorem Qq {r : Rdt} {l : Lry} {K : Bool → Hp → Prop} (h1 : DA l r → K true σ) (h2 : ¬ DA l r → K false σ) : cl Try.prog (.func (.func EN) #[] #[]) #[l.v, rdV r] σ fun v σ' => ∃ t : Bool, (v = .bool t ∧ K t σ') :=
  clB GZ Qs (by by_cases h : DA l r <;> simp only [h] <;> first | exact h1 h | exact h2 h)
theorem Rh {A : Option Addr} {n : Nat} {xs : List Leg} {i : Int} {K : Int → Prop} (h : RdS sJ σ A n xs) (hi : 0 ≤ i) (hn : i.toNat < xs.length) (hk : K xs[i.toNat].1) : ix A n i 2 fun b a => ldI σ .i64 b a K := by
  refine JU (ss := sJ) h rfl hi hn fun b o hc => ?_
  exact Bq (hc 0 (by decide)) hk
theorem Rb {A : Option Addr} {n : Nat} {xs : List Leg} {i : Int} {K : Int → Prop} (h : RdS sJ σ A n xs) (hi : 0 ≤ i) (hn : i.toNat < xs.length) (hk : K xs[i.toNat].2) : ix A n i 2 fun b a => ldI σ .i64 b (a + 1) K := by
  refine JU (ss := sJ) h rfl hi hn fun b o hc => ?_
  exact Bq (hc 1 (by decide)) hk
abbrev sdV (s : Std) : Value := .agg #[.int .i64 s.tn, .int .i64 s.sn, .int .i64 s.dv]
set_option maxRecDepth 20000 in
theorem RJ {w : MW} {m : Mp} {l : Lry} {s : Std} {x : Leg} (h : MIn σ w m) (hm : B9 m) (hx : KA m x) (ht : 0 ≤ s.tn ∧ s.tn < m.pk.length) (hn : 0 ≤ s.sn ∧ s.sn ≤ 1000000000000) (hd : 0 ≤ s.dv ∧ s.dv ≤ 1000000000000) (h2 : 0 ≤ x.2 ∧ x.2 ≤ 1000000000000) :
    Ag Try.prog Lu #[w.v, l.v, sdV s, .agg #[.int .i64 x.1, .int .i64 x.2]] σ fun v σ' => ∃ s1 b, v = .tuple #[sdV s1, .bool b] ∧ σ' = σ ∧ (b = true → go1 m l s x = some s1) ∧ (b = false → go1 m l s x = none) := by
  refine JG _ _ _ _ _ _ _ _ _ _ _ _ _ _ _ _ _ _ _ ?_
  unfold FU
  have hpn := h.pn
  have hk : x.1.toNat < m.rs.length := by have := hx.1; have := hx.2; omega
  have hrd := hm.rd hx
  refine JZ h.r hx.1 hk fun r hr => ?_
  rw [← Li hk] at hr
  rw [hr] at hrd
  obtain ⟨⟨a0, a1⟩, ⟨b0, b1⟩, hab, ⟨g0, g1⟩, _⟩ := hrd
  have hn12 := hm.n
  refine Al fun J10 h10 => Al fun J36 h36 => ?_
  have kbad : go1 m l s x = none → J36 true σ := fun hg => by
    rw [h36]
    intro _
    exact FJ (Ax ⟨s, false, rfl, rfl, fun e => (by cases e), fun _ => hg⟩)
  have k36 : (s.tn = r.1 ∨ s.tn = r.2.1) → DA l r → J36 (decide (x.2 < s.sn)) σ := by
    intro c1 c2
    by_cases c3 : x.2 < s.sn
    · rw [decide_eq_true c3]
      refine kbad ?_
      unfold go1
      rw [if_neg fun g => by have := g.2.2; omega]
    rw [decide_eq_false c3, h36]
    intro _
    refine E0 ?_
    rw [h10]
    clear h10 J10 h36 kbad J36
    intro _
    refine Al fun J16 h16 => ?_
    have k16 : ∀ d, d = Dq m l s x → J16 d σ := by
      intro d e
      have hd1 : 0 ≤ d ∧ d ≤ 1000000000000 := by
        rw [e]
        unfold Dq
        split <;> omega
      rw [h16]
      intro _
      refine AR (by omega) (AR (by omega) (AR (by omega) (AR (by omega) ?_)))
      have fin : rt σ (fun v σ' => ∃ s1 b, v = .tuple #[sdV s1, .bool b] ∧ σ' = σ ∧ (b = true → go1 m l s x = some s1) ∧ (b = false → go1 m l s x = none)) (.tuple #[.agg #[.int .i64 (r.1 + r.2.1 - s.tn), .int .i64 (x.2 + r.2.2.1), .int .i64 (d + r.2.2.1)], .bool (decide (d + r.2.2.1 ≤ l.dr))]) := by
        refine Ax ⟨⟨r.1 + r.2.1 - s.tn, x.2 + r.2.2.1, d + r.2.2.1⟩, _, rfl, rfl, fun hb => ?_, fun hb => ?_⟩
        · have hb := of_decide_eq_true hb
          unfold go1
          rw [hr, if_pos ⟨c1, c2, by omega⟩, ← e, if_pos hb]
        · have hb := of_decide_eq_false hb
          unfold go1
          rw [hr, if_pos ⟨c1, c2, by omega⟩, ← e, if_neg hb]
      exact ⟨AR (by omega) ⟨fin, fin⟩, ⟨AR (by omega) fin, AR (by omega) fin⟩, AR (by omega) fin⟩
    refine Al fun J28 h28 => ?_
    have k28 : ∀ t, (t = true ↔ gbp m.pk s.tn = true ∧ l.rst ≤ x.2 - s.sn) → J28 t σ := by
      intro t e
      rw [h28]
      intro _
      refine H2 (fun et => k16 _ ?_) (fun et => k16 _ ?_)
      · unfold Dq
        rw [if_pos (e.1 et)]
      · unfold Dq
        rw [if_neg fun g => by rw [e.2 g] at et; cases et]
    refine Lf h.p (by omega) (by omega) ?_
    refine H2 (fun g => AR (by omega) (k28 _ ?_)) (fun g => k28 _ ?_)
    · rw [g]; simp
    · rw [g]; simp
  have kf : (s.tn = r.1 ∨ s.tn = r.2.1) → cl Try.prog (.func (.func EN) #[] #[]) #[l.v, rdV r] σ fun v σ39 => ∃ t : Bool, (v = .bool t ∧ bc (!t) (J36 true σ39) (J36 (decide (x.2 < s.sn)) σ39)) := fun c1 =>
    Qq (fun c2 => Bm (k36 c1 c2)) (fun c2 => Bj (kbad (by unfold go1; rw [hr, if_neg fun g => c2 g.2.1])))
  refine B1 (fun c1 => B1 (fun c2 => kbad ?_) (fun c2 => kf (.inr c2))) (fun c1 => kf (.inl c1))
  unfold go1
  rw [hr, if_neg fun g => g.1.elim c1 c2]
abbrev sdO (s : Std) : Obj := .cells #[.int .i64 s.tn, .int .i64 s.sn, .int .i64 s.dv] 88 (0, 0)
set_option maxRecDepth 20000 in
theorem IQ {w : MW} {m : Mp} {l : Lry} {A : Option Addr} {n c : Nat} {j : List Leg} (h : MIn σ w m) (hp : m.pk.length ≤ 4294967296) (hr : m.rs.length ≤ 4294967296) (hj : RdS sJ σ A n j) (hjl : j.length ≤ 4294967296) :
    Ag Try.prog FG #[w.v, l.v, .slice A n c] σ fun v σ' => v = qV (M3 m l j) ∧ σ' = σ := by
  refine Er _ _ _ _ _ _ _ _ _ _ _ _ _ _ _ _ _ ?_
  unfold BS
  have hn := hj.lenJ
  have hrn := h.rn
  refine clI Gs (P7 h hp hr) (B1 (fun e => Ax ⟨?_, rfl⟩) (fun e0 => ?_))
  · unfold M3
    rw [if_neg e]
  obtain ⟨hm, hl⟩ := QI e0
  have hc : M3 m l j = jrn m l j := by unfold M3; rw [if_pos e0]
  rw [hc]
  have hk30 := hm.k
  refine Br (fun h60 => Ax ⟨?_, rfl⟩) (fun h60 => ?_)
  · unfold jrn; rw [if_pos (by omega)]
  refine Al fun J6 h6 => ?_
  have k6 : (∀ i (_ : i < j.length), CA m j[i] = false) → J6 σ := by
    intro hgood
    have hjr : jrn m l j = wlk m l (bgn l) 0 j := by
      unfold jrn
      rw [if_neg (by omega), Ik hgood]
      rfl
    rw [h6]
    intro _
    refine Al fun J9 h9 => ?_
    refine ⟨fun q i a b d τ => ∃ (k : Nat) (s : Std), q = j.length - k ∧ i = k ∧ k ≤ j.length ∧ a = s.tn ∧ b = s.sn ∧ d = s.dv ∧ τ = σ ∧ wlk m l (bgn l) 0 j = wlk m l s k (j.drop k) ∧ L8 m l s ∧ s.sn ≤ 200000, ⟨_, 0, bgn l, rfl, rfl, by omega, rfl, rfl, rfl, rfl, rfl, hl.bgn, by have := hl.y; show l.rdy ≤ 200000; omega⟩, ?_⟩
    rintro q i a b d τ ⟨k, s, rfl, rfl, hk, rfl, rfl, rfl, rfl, hw, hs, hs2⟩ _
    refine Br (fun hlt => ?_) (fun hge => ?_)
    · have hkl : k < j.length := by omega
      obtain ⟨hx1, hx2⟩ := Mj (hgood k hkl)
      have hdrop : j.drop k = j[k] :: j.drop (k + 1) := List.drop_eq_getElem_cons hkl
      refine Al fun J23 h23 => ?_
      refine Ln hj (by omega) (by simpa using hkl) fun x hx => ?_
      simp only [Int.toNat_natCast] at hx
      rw [hx] at hx1 hx2 hdrop
      have hd := hs.d
      have hsn := hs.n
      have hy := hl.y
      have hdr := hl.d
      have one : ∀ (s1 : Std) (b : Bool), (b = true → go1 m l s x = some s1) → (b = false → go1 m l s x = none) → ∀ bb, τ bb = none → J23 (some ⟨bb, 0, none⟩) b (τ.ins bb (sdO s1)) := by
        intro s1 b h1 h2 bb nb
        have hB : Blk bb (sdO s1) τ (τ.ins bb (sdO s1)) := ⟨nb, rfl⟩
        generalize τ.ins bb (sdO s1) = τ1 at hB ⊢
        rw [h23]
        intro _
        refine JF (fun eb => ?_) (fun eb => ?_)
        · refine Bu hB.sub ⟨?_, rfl⟩
          rw [hjr, hw, hdrop]
          show _ = qV (match go1 m l s x with | some s1 => wlk m l s1 (k + 1) (j.drop (k + 1)) | none => (0, 0, (k : Int), 92))
          rw [h2 eb]
        · have hg := h1 eb
          obtain ⟨ok, _, esn⟩ := hs.go hm.ok (x := x) hx1 hg
          obtain ⟨_, _, _, ⟨_, g4⟩, _⟩ := hm.ok.rd (x := x) hx1
          refine AK (AW hB.get rfl (AW hB.get rfl (AW hB.get rfl (AR (by omega) (KU _ (by omega) hB.sub ⟨k + 1, s1, rfl, rfl, by omega, rfl, rfl, rfl, rfl, ?_, ok, by omega⟩)))))
          rw [hw, hdrop]
          show (match go1 m l s x with | some s1 => wlk m l s1 (k + 1) (j.drop (k + 1)) | none => (0, 0, (k : Int), 92)) = _
          rw [hg]
          rfl
      have cg := RJ (l := l) h hm.ok (x := x) hx1 hs.t ⟨by omega, by omega⟩ ⟨hd.1, by omega⟩ ⟨hx2.1, by omega⟩
      constructor
      · refine Bx DW cg ?_
        rintro v σ' ⟨s1, b, rfl, rfl, h1, h2⟩
        exact ⟨_, _, _, _, rfl, fun bb nb => one s1 b h1 h2 bb nb⟩
      · refine Bx DW cg ?_
        rintro v σ' ⟨s1, b, rfl, rfl, h1, h2⟩
        exact ⟨_, _, _, _, rfl, fun bb nb => one s1 b h1 h2 bb nb⟩
    · rw [h9]
      intro _
      refine Ax ⟨?_, rfl⟩
      have : k = j.length := by omega
      subst this
      rw [hjr, hw, List.drop_length]
      rfl
  refine ⟨fun q i τ => ∃ k : Nat, q = j.length - k ∧ i = k ∧ k ≤ j.length ∧ τ = σ ∧ ∀ i, (h : i < j.length) → i < k → CA m j[i] = false, ⟨_, 0, rfl, rfl, by omega, rfl, fun j _ h => by omega⟩, ?_⟩
  rintro q i τ ⟨k, rfl, rfl, hk, rfl, hg⟩ _
  refine Br (fun hlt => ?_) (fun hge => k6 fun i hi => hg i hi (by omega))
  have hkl : k < j.length := by omega
  refine Al fun J61 h61 => Al fun J67 h67 => ?_
  have kbad : ¬ ((0 ≤ j[k].1 ∧ j[k].1 < m.rs.length) ∧ (0 ≤ j[k].2 ∧ j[k].2 ≤ 100000)) → J67 true τ := fun hb => by
    rw [h67]
    intro _
    refine FJ (Ax ⟨?_, rfl⟩)
    have hf : JH (CA m) j = k := Lk hkl (by unfold CA; rw [decide_eq_false hb]; rfl) hg
    unfold jrn
    rw [if_neg (by omega), hf, if_pos (by omega)]
  refine Rh hj (by omega) (by simpa using hkl) ?_
  simp only [Int.toNat_natCast]
  refine AR (by omega) (C8 (fun g1 => Bm ?_) (fun g1 => Bj (kbad fun g => g1 (by have := g.1; omega))))
  refine Rb hj (by omega) (by simpa using hkl) ?_
  simp only [Int.toNat_natCast]
  refine C8 (fun g2 => ?_) (fun g2 => kbad fun g => g2 g.2)
  rw [h67]
  intro _
  refine E0 ?_
  rw [h61]
  intro _
  refine AR (by omega) (CE _ (by omega) ⟨k + 1, rfl, rfl, by omega, rfl, fun i h' hik => ?_⟩)
  rcases Nat.lt_or_ge i k with hlt | hge
  · exact hg i h' hlt
  · obtain rfl : i = k := by omega
    unfold CA
    rw [decide_eq_true ⟨⟨g1.1, by omega⟩, g2⟩]
    rfl
end
end Go.Proofs.Ytkdjkkimngeloaa
