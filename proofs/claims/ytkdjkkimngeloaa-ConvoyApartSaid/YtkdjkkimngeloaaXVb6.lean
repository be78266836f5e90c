/- Trimmed by wip/trim.py to what this claim rests on. -/
import Derived.Test.YtkdjkkimngeloaaXVb1
import Derived.Test.YtkdjkkimngeloaaXB13
import Derived.Test.YtkdjkkimngeloaaXC2
import Derived.Test.YtkdjkkimngeloaaXC3
namespace Go.Proofs.Ytkdjkkimngeloaa
open Go.RowKit
def LO (c d : Cst) : Int := if c.1 - d.1 = 0 then c.2 - d.2 else c.1 - d.1
theorem Fd {c d : Cst} : LO c d < 0 ↔ clt c d := by unfold LO clt; split <;> omega
theorem OI {c d : Cst} : LO c d ≤ 0 ↔ ¬ clt d c := by unfold LO clt; split <;> omega
def cOK (c : Cst) : Prop := (0 ≤ c.1 ∧ c.1 ≤ 1000000000) ∧ (0 ≤ c.2 ∧ c.2 ≤ 1000000000)
abbrev AS (c : Cst) : Value := .agg #[.int .i64 c.1, .int .i64 c.2]
section
variable {σ : Hp}
theorem Tx {A : Option Addr} {n c : Nat} {x y : Int} (h : RdS [.int .i64] σ A n [x, y]) : Af Try.prog LR #[.slice A n c] σ fun v σ' => v = .int .i64 (if x = 0 then y else x) ∧ σ' = σ := by
  refine Jt _ _ _ _ _ ?_
  unfold FG
  have hn : n = 2 := h.lenI
  subst hn
  refine Ag fun J3 h3 => ?_
  refine ⟨fun q i τ => ∃ k : Nat, q = 2 - k ∧ i = k ∧ k ≤ 2 ∧ τ = σ ∧ (0 < k → x = 0) ∧ (1 < k → y = 0), ⟨2, 0, rfl, rfl, by omega, rfl, by omega, by omega⟩, ?_⟩
  rintro q i τ ⟨k, rfl, rfl, hk, rfl, hx, hy⟩ _
  refine Bd (fun hlt => ?_) (fun hge => ?_)
  · refine EN h (by omega) (show (k : Int).toNat < 2 by omega) ?_
    obtain rfl | rfl : k = 0 ∨ k = 1 := by omega
    · show bc (!decide (x = 0)) _ _
      refine Bu (fun c => AC ⟨by rw [if_neg c]; rfl, rfl⟩) (fun c => AT (by omega) (BP 1 (by omega) ⟨1, rfl, rfl, by omega, rfl, fun _ => c, by omega⟩))
    · show bc (!decide (y = 0)) _ _
      refine Bu (fun c => AC ⟨by rw [if_pos (hx (by omega))]; rfl, rfl⟩) (fun c => AT (by omega) (BP 0 (by omega) ⟨2, rfl, rfl, by omega, rfl, fun _ => hx (by omega), fun _ => c⟩))
  · rw [h3]
    intro _
    obtain rfl : k = 2 := by omega
    exact AC ⟨by rw [if_pos (hx (by omega)), hy (by omega)], rfl⟩
theorem Pr {c d : Cst} (hc : cOK c) (hd : cOK d) : Af Try.prog C2 #[AS c, AS d] σ fun v σ' => v = .int .i64 (LO c d) ∧ σ' = σ := by
  refine EI _ _ _ _ _ _ ?_
  unfold B2
  unfold cOK at hc hd
  refine AT (by omega) (AT (by omega) ?_)
  intro A l cc σ4 ho
  refine clI Hl (Tx ho.rd) (BN ho.sub ⟨rfl, rfl⟩)
theorem Da {c d : Cst} {K : Int → Hp → Prop} (hc : cOK c) (hd : cOK d) (hk : K (LO c d) σ) : cl Try.prog (.func (.func C2) #[] #[]) #[AS c, AS d] σ fun v σ' => ∃ t : Int, (v = .int .i64 t ∧ K t σ') :=
  clI DP (Pr hc hd) hk
abbrev s4 : List Sh := [.int .i64, .int .i64, .int .i64, .int .i64]
abbrev stV (x : Stp) : Value := .agg #[.int .i64 x.1, .int .i64 x.2.1, .int .i64 x.2.2.1, .int .i64 x.2.2.2]
theorem NT {A : Option Addr} {n : Nat} {xs : List Stp} {i : Int} {K : Int → Int → Int → Int → Prop} (h : RdS s4 σ A n xs) (hi : 0 ≤ i) (hn : i.toNat < xs.length) (hk : K (gs xs i.toNat).1 (gs xs i.toNat).2.1 (gs xs i.toNat).2.2.1 (gs xs i.toNat).2.2.2) :
    ix A n i 4 fun b a => ldI σ .i64 b a fun x1 => ldI σ .i64 b (a + 1) fun x2 => ldI σ .i64 b (a + 2) fun x3 => ldI σ .i64 b (a + 3) fun x4 => K x1 x2 x3 x4 := by
  rw [DD hn] at hk
  refine Hd (ss := s4) h rfl hi hn fun b o hc => ?_
  exact BA (hc 0 (by decide)) (BA (hc 1 (by decide)) (BA (hc 2 (by decide)) (BA (hc 3 (by decide)) hk)))
theorem Rk {A : Option Addr} {n : Nat} {xs : List Stp} {i : Int} {K : Int → Int → Prop} (h : RdS s4 σ A n xs) (hi : 0 ≤ i) (hn : i.toNat < xs.length) (hk : K (gs xs i.toNat).2.2.1 (gs xs i.toNat).2.2.2) :
    ix A n i 4 fun b a => ldI σ .i64 b (a + 2) fun x3 => ldI σ .i64 b ((a + 2) + 1) fun x4 => K x3 x4 := by
  rw [DD hn] at hk
  refine Hd (ss := s4) h rfl hi hn fun b o hc => ?_
  exact BA (hc 2 (by decide)) (BA (hc 3 (by decide)) hk)
theorem Ap.ix_st4 {e : TypeId} {σ' τ : Hp} {A : Option Addr} {n c : Nat} {xs : List Stp} {i : Int} {v : Stp} {K : Hp → Prop} (h : Ap e s4 σ A n c xs σ') (hs : Hp.Sub σ' τ) (hi : 0 ≤ i) (hn : i.toNat < xs.length)
    (hk : ∀ σ2 τ2, Ap e s4 σ A n c (xs.set i.toNat v) σ2 → Hp.Sub σ2 τ2 → K τ2) : ix A n i 4 fun b a => st τ b a (.int .i64 v.1) fun τ1 => st τ1 b (a + 1) (.int .i64 v.2.1) fun τ2 => st τ2 b (a + 2) (.int .i64 v.2.2.1) fun τ3 => st τ3 b (a + 3) (.int .i64 v.2.2.2) K := by
  have hl : n = xs.length := h.len
  obtain ⟨b, off, rfl, hp⟩ := h.put hs hn
  obtain ⟨hw, σ2, ho2, hs2⟩ := hp 0 (.int .i64 v.1) (v.1, xs[i.toNat].2) rfl
  have n2 : i.toNat < (xs.set i.toNat (v.1, xs[i.toNat].2)).length := by rw [List.length_set]; exact hn
  obtain ⟨b', off', hA, hp2⟩ := ho2.put hs2 n2
  cases hA
  obtain ⟨hw2, σ3, ho3, hs3⟩ := hp2 1 (.int .i64 v.2.1) (v.1, v.2.1, xs[i.toNat].2.2) ((congrArg (fun z : Stp => NS s4 z 1 (.int .i64 v.2.1)) (List.getElem_set_self n2)).trans rfl)
  have e2 : (xs.set i.toNat (v.1, xs[i.toNat].2)).set i.toNat (v.1, v.2.1, xs[i.toNat].2.2) = xs.set i.toNat (v.1, v.2.1, xs[i.toNat].2.2) := List.set_set ..
  have ho3 := (congrArg (fun z : List Stp => Ap e s4 σ (some ⟨b, off, none⟩) n c z σ3) e2).mp ho3
  have n3 : i.toNat < (xs.set i.toNat (v.1, v.2.1, xs[i.toNat].2.2)).length := by rw [List.length_set]; exact hn
  obtain ⟨b', off', hA, hp3⟩ := ho3.put hs3 n3
  cases hA
  obtain ⟨hw3, σ4, ho4, hs4⟩ := hp3 2 (.int .i64 v.2.2.1) (v.1, v.2.1, v.2.2.1, xs[i.toNat].2.2.2) ((congrArg (fun z : Stp => NS s4 z 2 (.int .i64 v.2.2.1)) (List.getElem_set_self n3)).trans rfl)
  have e3 : (xs.set i.toNat (v.1, v.2.1, xs[i.toNat].2.2)).set i.toNat (v.1, v.2.1, v.2.2.1, xs[i.toNat].2.2.2) = xs.set i.toNat (v.1, v.2.1, v.2.2.1, xs[i.toNat].2.2.2) := List.set_set ..
  have ho4 := (congrArg (fun z : List Stp => Ap e s4 σ (some ⟨b, off, none⟩) n c z σ4) e3).mp ho4
  have n4 : i.toNat < (xs.set i.toNat (v.1, v.2.1, v.2.2.1, xs[i.toNat].2.2.2)).length := by rw [List.length_set]; exact hn
  obtain ⟨b', off', hA, hp4⟩ := ho4.put hs4 n4
  cases hA
  obtain ⟨hw4, σ5, ho5, hs5⟩ := hp4 3 (.int .i64 v.2.2.2) v ((congrArg (fun z : Stp => NS s4 z 3 (.int .i64 v.2.2.2)) (List.getElem_set_self n4)).trans rfl)
  have e4 : (xs.set i.toNat (v.1, v.2.1, v.2.2.1, xs[i.toNat].2.2.2)).set i.toNat v = xs.set i.toNat v := List.set_set ..
  have ho5 := (congrArg (fun z : List Stp => Ap e s4 σ (some ⟨b, off, none⟩) n c z σ5) e4).mp ho5
  refine ⟨hi, by omega, ?_, ?_, ?_, ?_, hk σ5 _ ho5 ?_⟩
  · simpa [BW] using hw
  · simpa [BW, Nat.add_assoc] using hw2
  · simpa [BW, Nat.add_assoc] using hw3
  · simpa [BW, Nat.add_assoc] using hw4
  · simpa [BW, Nat.add_assoc] using hs5
theorem Jn {A : Option Addr} {n c : Nat} : Af Try.prog Bx #[.slice A n c] σ fun v σ' => v = .int .i64 n ∧ σ' = σ := by
  refine FY _ _ _ _ _ ?_
  exact AC ⟨rfl, rfl⟩
theorem L7 {A : Option Addr} {n c : Nat} {xs : List Stp} {i k : Nat} (h : RdS s4 σ A n xs) (hi : i < xs.length) (hk : k < xs.length) (hc : ∀ x ∈ xs, cOK (Stp.c x)) : Af Try.prog Bj #[.slice A n c, .int .i64 i, .int .i64 k] σ fun v σ' => v = .bool (decide (cl1 xs i k)) ∧ σ' = σ := by
  refine FI _ _ _ _ _ _ _ ?_
  unfold Ch
  refine Rk h (by omega) (by simpa using hi) (Rk h (by omega) (by simpa using hk) ?_)
  simp only [Int.toNat_natCast]
  have o1 := hc (gs xs i) (by rw [DD hi]; exact List.getElem_mem hi)
  have o2 := hc (gs xs k) (by rw [DD hk]; exact List.getElem_mem hk)
  refine Da (c := Stp.c (gs xs i)) (d := Stp.c (gs xs k)) o1 o2 (AC ⟨?_, rfl⟩)
  refine congrArg Value.bool (decide_eq_decide.2 ?_)
  exact Fd
theorem LW {e : TypeId} {σ' : Hp} {A : Option Addr} {n c : Nat} {xs : List Stp} {i k : Nat} (h : Ap e s4 σ A n c xs σ') (hi : i < xs.length) (hk : k < xs.length) : Af Try.prog Bm #[.slice A n c, .int .i64 i, .int .i64 k] σ' fun v σ'' => v = .tuple #[] ∧ Ap e s4 σ A n c (Ib xs i k) σ'' := by
  refine Ft _ _ _ _ _ _ _ ?_
  unfold Ci
  refine NT h.rd (by omega) (by simpa using hk) (NT h.rd (by omega) (by simpa using hi) ?_)
  simp only [Int.toNat_natCast]
  refine h.ix_st4 (Hp.Sub.refl _) (v := gs xs k) (by omega) (by simpa using hi) fun σ2 τ2 h2 s2 => ?_
  refine h2.ix_st4 s2 (v := gs xs i) (by omega) (by simp; exact hk) fun σ3 τ3 h3 s3 => BN s3 ⟨rfl, ?_⟩
  simp only [Int.toNat_natCast] at h3
  exact h3
end
end Go.Proofs.Ytkdjkkimngeloaa
