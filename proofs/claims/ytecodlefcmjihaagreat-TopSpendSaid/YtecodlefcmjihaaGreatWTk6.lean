/- Trimmed by wip/trim.py to what this claim rests on. -/
import Derived.Test.YtecodlefcmjihaaGreatWTk4
import Derived.Test.YtecodlefcmjihaaGreatWT4
import Derived.Test.YtecodlefcmjihaaGreatWB17
namespace Go.Proofs.YtecodlefcmjihaaGreat
open Go.RowKit
abbrev s5 : List Sh := [.int .i64, .int .i64, .int .i64, .int .i64, .int .i64]
abbrev Dl := Int × Int × Int × Int × Int
structure Fno where
  last : Int
  stock : List Int
  cash : List Int
  purses : List Int
  boxes : List Int
  sold : Int
  taken : Int
  held : Int
  inc : Int
def bu (F : Fai) (n : Int) : Int × Int := F.bundles.getD n.toNat (0, 0)
def FL (F : Fai) (S : Fno) (d : Dl) : Fno :=
  if d.2.1 = 1 then { S with last := d.1, stock := S.stock.set d.2.2.1.toNat (gt S.stock d.2.2.1 - (bu F d.2.2.2.2).1), purses := S.purses.set d.2.2.2.1.toNat (gt S.purses d.2.2.2.1 + (bu F d.2.2.2.2).1), sold := S.sold + (bu F d.2.2.2.2).1, cash := S.cash.set d.2.2.1.toNat (gt S.cash d.2.2.1 + (bu F d.2.2.2.2).2), inc := S.inc + (bu F d.2.2.2.2).2 }
  else { S with last := d.1, purses := S.purses.set d.2.2.1.toNat (gt S.purses d.2.2.1 - d.2.2.2.2), boxes := S.boxes.set d.2.2.2.1.toNat (gt S.boxes d.2.2.2.1 + d.2.2.2.2), taken := S.taken + d.2.2.2.2 }
def Wq (F : Fai) (S : Fno) (d : Dl) : Prop := (S.last ≤ d.1 ∧ d.1 ≤ 1440) ∧
  ((d.2.1 = 1 ∧ (0 ≤ d.2.2.1 ∧ d.2.2.1 < S.stock.length) ∧ (0 ≤ d.2.2.2.1 ∧ d.2.2.2.1 < S.purses.length) ∧ (0 ≤ d.2.2.2.2 ∧ d.2.2.2.2 < F.bundles.length) ∧ (bu F d.2.2.2.2).1 ≤ gt S.stock d.2.2.1) ∨
   (d.2.1 = 2 ∧ (0 ≤ d.2.2.1 ∧ d.2.2.1 < S.purses.length) ∧ (0 ≤ d.2.2.2.1 ∧ d.2.2.2.1 < S.boxes.length) ∧ (0 ≤ d.2.2.2.2 ∧ d.2.2.2.2 ≤ 1000) ∧ d.2.2.2.2 ≤ gt S.purses d.2.2.1))
def PS (F : Fai) : Fno := ⟨0, F.stock, F.cash, List.replicate F.purses.toNat 0, List.replicate F.boxes.toNat 0, 0, 0, 0, 0⟩
def JE (F : Fai) (D : List Dl) : Fno := D.foldl (FL F) (PS F)
def N7 (F : Fai) (D : List Dl) : Prop := ∀ k, (h : k < D.length) → Wq F (JE F (D.take k)) D[k]
theorem OX {F : Fai} {D : List Dl} {k : Nat} (h : k < D.length) : JE F (D.take (k + 1)) = FL F (JE F (D.take k)) D[k] := by
  unfold JE
  rw [List.take_succ_eq_append_getElem h, List.foldl_append]
  rfl
def lsB (xs : List Int) (c : Int) : Prop := ∀ k : Int, 0 ≤ k → k < xs.length → -c ≤ gt xs k ∧ gt xs k ≤ c
structure Fno.B (F : Fai) (S : Fno) (c : Int) : Prop where
  ls : S.stock.length = F.stock.length
  lc : S.cash.length = F.cash.length
  lp : S.purses.length = F.purses.toNat
  lb : S.boxes.length = F.boxes.toNat
  l : 0 ≤ S.last ∧ S.last ≤ 1440
  s : lsB S.stock c
  ca : lsB S.cash c
  p : lsB S.purses c
  b : lsB S.boxes c
  so : -c ≤ S.sold ∧ S.sold ≤ c
  ta : -c ≤ S.taken ∧ S.taken ≤ c
  he : S.held = 0
  inc : -c ≤ S.inc ∧ S.inc ≤ c
theorem lsB.mono {xs : List Int} {c d : Int} (h : lsB xs c) (hc : c ≤ d) : lsB xs d := fun k k0 k1 => by have := h k k0 k1; omega
theorem lsB.set {xs : List Int} {c d v : Int} {i : Nat} (h : lsB xs c) (hc : c ≤ d) (hv : -d ≤ v ∧ v ≤ d) : lsB (xs.set i v) d := fun k k0 k1 => by
  rw [List.length_set] at k1
  by_cases e : i < xs.length
  · rw [AQ e k0]
    split
    · exact hv
    · have := h k k0 k1; omega
  · rw [List.set_eq_of_length_le (by omega)]
    have := h k k0 k1; omega
theorem FOK.bu {F : Fai} (h : FOK F) {n : Int} (n0 : 0 ≤ n) (n1 : n < F.bundles.length) : (1 ≤ (bu F n).1 ∧ (bu F n).1 ≤ 1000) ∧ (1 ≤ (bu F n).2 ∧ (bu F n).2 ≤ 1000000) := by
  have hn : n.toNat < F.bundles.length := by omega
  have e : Go.Proofs.YtecodlefcmjihaaGreat.bu F n = F.bundles[n.toNat] := by unfold Go.Proofs.YtecodlefcmjihaaGreat.bu; simp [List.getD, hn]
  rw [e]
  exact h.bOK _ (List.getElem_mem hn)
theorem Fno.B.step {F : Fai} {S : Fno} {c : Int} (h : S.B F c) (hF : FOK F) {d : Dl} (hd : Wq F S d) : (FL F S d).B F (c + 1000000) := by
  obtain ⟨⟨l0, l1⟩, hd⟩ := hd
  unfold FL
  have hl := h.l
  have hso := h.so
  have hta := h.ta
  have hin := h.inc
  rcases hd with ⟨k1, ⟨a0, a1⟩, ⟨b0, b1⟩, ⟨n0, n1⟩, hs⟩ | ⟨k2, ⟨a0, a1⟩, ⟨b0, b1⟩, ⟨n0, n1⟩, hs⟩
  · rw [if_pos k1]
    obtain ⟨t1, t2⟩ := hF.bu n0 n1
    have q1 := h.s _ a0 a1
    have q2 := h.p _ b0 b1
    have q3 := h.ca _ a0 (by rw [h.lc, hF.cl, ← h.ls]; exact a1)
    exact ⟨by rw [← h.ls]; exact List.length_set .., by rw [← h.lc]; exact List.length_set .., by rw [← h.lp]; exact List.length_set .., h.lb, ⟨Int.le_trans hl.1 l0, l1⟩,
      h.s.set (by omega) (by omega), h.ca.set (by omega) (by omega), h.p.set (by omega) (by omega), h.b.mono (by omega), by constructor <;> (show (_ : Int) ≤ _; dsimp only; omega), by constructor <;> (show (_ : Int) ≤ _; dsimp only; omega), h.he, by constructor <;> (show (_ : Int) ≤ _; dsimp only; omega)⟩
  · rw [if_neg (by omega)]
    have q1 := h.p _ a0 a1
    have q2 := h.b _ b0 b1
    exact ⟨h.ls, h.lc, by rw [← h.lp]; exact List.length_set .., by rw [← h.lb]; exact List.length_set .., ⟨Int.le_trans hl.1 l0, l1⟩,
      h.s.mono (by omega), h.ca.mono (by omega), h.p.set (by omega) (by omega), h.b.set (by omega) (by omega), by constructor <;> (show (_ : Int) ≤ _; dsimp only; omega), by constructor <;> (show (_ : Int) ≤ _; dsimp only; omega), h.he, by constructor <;> (show (_ : Int) ≤ _; dsimp only; omega)⟩
theorem WR {F : Fai} (h : FOK F) : (PS F).B F 1000000 := by
  have rep : ∀ n : Nat, lsB (List.replicate n 0) 1000000 := fun n k k0 k1 => by
    rw [List.length_replicate] at k1
    rw [Ft k0 k1]; omega
  refine ⟨rfl, rfl, List.length_replicate .., List.length_replicate .., ⟨Int.le_refl _, by show (0 : Int) ≤ 1440; omega⟩, fun k k0 k1 => ?_, fun k k0 k1 => ?_, rep _, rep _, ?_, ?_, rfl, ?_⟩
  · obtain ⟨i, rfl⟩ := Int.eq_ofNat_of_zero_le k0
    have k1 : (i : Int) < F.stock.length := k1
    have := h.s i (by omega)
    show -1000000 ≤ gt F.stock i ∧ gt F.stock i ≤ 1000000
    omega
  · obtain ⟨i, rfl⟩ := Int.eq_ofNat_of_zero_le k0
    have k1 : (i : Int) < F.cash.length := k1
    have := h.c i (by omega)
    show -1000000 ≤ gt F.cash i ∧ gt F.cash i ≤ 1000000
    omega
  all_goals (show -1000000 ≤ (0 : Int) ∧ (0 : Int) ≤ 1000000; omega)
theorem Vr {F : Fai} (h : FOK F) {D : List Dl} (hp : N7 F D) : ∀ k : Nat, k ≤ D.length → (JE F (D.take k)).B F (1000000 * (k + 1))
  | 0, _ => WR h
  | k + 1, hk => by
    rw [OX (show k < D.length by omega)]
    have := (Vr h hp k (by omega)).step h (hp k (by omega))
    have e : (1000000 : Int) * (((k + 1 : Nat) : Int) + 1) = 1000000 * ((k : Int) + 1) + 1000000 := by omega
    rw [e]
    exact this
structure NoW where
  b : Nat
  F : Oh
  s : SL
  c : SL
  p : SL
  x : SL
def puT (n : Int) : TyR s2 := ((n, (0 : Int)) : Int × Int)
def O1 (W : NoW) (F : Fai) (S : Fno) : Array Value := #[.int .i64 F.purses, .int .i64 F.boxes, W.F.s.v, W.F.c.v, W.F.b.v, .int .i64 F.refund, .int .i64 F.band, .int .i64 F.hours, W.s.v, W.c.v, W.p.v, W.x.v, .int .i64 0, .int .i64 S.last, .int .i64 S.sold, .int .i64 S.taken, .int .i64 0, .int .i64 S.held, .int .i64 0, .int .i64 S.inc]
def Jj (W : NoW) (F : Fai) (S : Fno) : List Rel := [Blk W.b (.cells (O1 W F S) 91 (0, 0)), ownI W.x S.boxes, ownP 63 s2 W.p (S.purses.map puT), ownI W.c S.cash, ownI W.s S.stock]
theorem LK {W : NoW} {F : Fai} {S : Fno} : ∀ R ∈ Jj W F S, Au R := by
  intro R hR
  simp only [Jj, List.mem_cons, List.not_mem_nil, or_false] at hR
  rcases hR with rfl | rfl | rfl | rfl | rfl
  · exact Au.blk
  · exact Au.ownI
  · exact Au.ownP
  · exact Au.ownI
  · exact Au.ownI
theorem Ls {W : NoW} {F : Fai} {S : Fno} : Au (B0 (Jj W F S)) := Au.star LK
structure A0 (W : NoW) (F : Fai) (σ0 σ : Hp) (S : Fno) : Prop where
  m : Lse (B0 (Jj W F S)) σ0 σ
  f : GW W.F σ0 F
section
variable {W : NoW} {F : Fai} {σ0 σ : Hp} {S : Fno}
theorem A0.sub (h : A0 W F σ0 σ S) : Hp.Sub σ0 σ := Lse.sub Ls h.m
theorem A0.fai (h : A0 W F σ0 σ S) : GW W.F σ F := h.f.sub h.sub
theorem A0.at_ (h : A0 W F σ0 σ S) (k : Nat) (hk : k < 5) : ∃ σ1, ((Jj W F S)[k]'hk) σ1 σ ∧ ∀ R' σ2 σ', Au R' → R' σ1 σ2 → Hp.Sub σ2 σ' → Lse (B0 ((Jj W F S).set k R')) σ0 σ' := Jq (k := k) LK hk h.m
theorem A0.blk (h : A0 W F σ0 σ S) : σ W.b = some (.cells (O1 W F S) 91 (0, 0), true) := by
  obtain ⟨σ1, h1, _⟩ := h.at_ 0 (by omega)
  exact Blk.get h1
theorem A0.rd (h : A0 W F σ0 σ S) : RdS [.int .i64] σ W.s.A W.s.n S.stock ∧ RdS [.int .i64] σ W.c.A W.c.n S.cash ∧ RdS s2 σ W.p.A W.p.n (S.purses.map puT) ∧ RdS [.int .i64] σ W.x.A W.x.n S.boxes := by
  obtain ⟨_, h1, _⟩ := h.at_ 4 (by omega)
  obtain ⟨_, h2, _⟩ := h.at_ 3 (by omega)
  obtain ⟨_, h3, _⟩ := h.at_ 2 (by omega)
  obtain ⟨_, h4, _⟩ := h.at_ 1 (by omega)
  exact ⟨An.rd h1, An.rd h2, An.rd h3, An.rd h4⟩
theorem A0.stB (h : A0 W F σ0 σ S) {k : Nat} (hk : k < 20) {v : Value} {S' : Fno} (e : (O1 W F S).setIfInBounds k v = O1 W F S') (e1 : S'.stock = S.stock) (e2 : S'.cash = S.cash) (e3 : S'.purses = S.purses) (e4 : S'.boxes = S.boxes) {K : Hp → Prop} (hK : ∀ τ, A0 W F σ0 τ S' → K τ) : st σ W.b k v K := by
  obtain ⟨σ1, h1, h2⟩ := h.at_ 0 (by omega)
  obtain ⟨w1, w2, w3⟩ := Blk.st h1 (Hp.Sub.refl _) (k := k) hk v
  rw [e] at w2
  refine ⟨w1, hK _ ⟨?_, h.f⟩⟩
  have := h2 (Blk W.b (.cells (O1 W F S') 91 (0, 0))) _ _ Au.blk w2 w3
  show Lse (B0 [_, _, _, _, _]) _ _
  rw [e1, e2, e3, e4]
  exact this
theorem A0.stS (h : A0 W F σ0 σ S) {i v : Int} {K : Hp → Prop} (h0 : 0 ≤ i) (h1 : i < S.stock.length) (hk : ∀ τ, A0 W F σ0 τ { S with stock := S.stock.set i.toNat v } → K τ) : ix W.s.A W.s.n i 1 fun b a => st σ b a (.int .i64 v) K := by
  obtain ⟨σ1, h3, h4⟩ := h.at_ 4 (by omega)
  exact ist h3 h0 h1 fun σ2 τ2 p1 p2 => hk _ ⟨h4 (ownI W.s (S.stock.set i.toNat v)) _ _ Au.ownI p1 p2, h.f⟩
theorem A0.stC (h : A0 W F σ0 σ S) {i v : Int} {K : Hp → Prop} (h0 : 0 ≤ i) (h1 : i < S.cash.length) (hk : ∀ τ, A0 W F σ0 τ { S with cash := S.cash.set i.toNat v } → K τ) : ix W.c.A W.c.n i 1 fun b a => st σ b a (.int .i64 v) K := by
  obtain ⟨σ1, h3, h4⟩ := h.at_ 3 (by omega)
  exact ist h3 h0 h1 fun σ2 τ2 p1 p2 => hk _ ⟨h4 (ownI W.c (S.cash.set i.toNat v)) _ _ Au.ownI p1 p2, h.f⟩
theorem A0.stX (h : A0 W F σ0 σ S) {i v : Int} {K : Hp → Prop} (h0 : 0 ≤ i) (h1 : i < S.boxes.length) (hk : ∀ τ, A0 W F σ0 τ { S with boxes := S.boxes.set i.toNat v } → K τ) : ix W.x.A W.x.n i 1 fun b a => st σ b a (.int .i64 v) K := by
  obtain ⟨σ1, h3, h4⟩ := h.at_ 1 (by omega)
  exact ist h3 h0 h1 fun σ2 τ2 p1 p2 => hk _ ⟨h4 (ownI W.x (S.boxes.set i.toNat v)) _ _ Au.ownI p1 p2, h.f⟩
theorem A0.stP (h : A0 W F σ0 σ S) {i v : Int} {K : Hp → Prop} (h0 : 0 ≤ i) (h1 : i < S.purses.length) (hk : ∀ τ, A0 W F σ0 τ { S with purses := S.purses.set i.toNat v } → K τ) : ix W.p.A W.p.n i 2 fun b a => st σ b a (.int .i64 v) K := by
  obtain ⟨σ1, h3, h4⟩ := h.at_ 2 (by omega)
  have h3 : An 63 s2 σ1 W.p.A W.p.n W.p.c (S.purses.map puT) σ := h3
  have hl : i.toNat < (S.purses.map puT).length := by rw [List.length_map]; omega
  obtain ⟨b, off, hA, _⟩ := h3.someA (by omega)
  have hn := h3.len
  refine Rg hA h0 (by rw [hn, List.length_map]; exact h1) ?_
  have e : (S.purses.map puT)[i.toNat]'hl = puT (S.purses[i.toNat]'(by omega)) := by simp
  obtain ⟨w1, σ2, w2, w3⟩ := h3.putAt (j := 0) (v := .int .i64 v) (r := puT v) hA hl (by rw [e]; rfl)
  have e2 : (S.purses.map puT).set i.toNat (puT v) = (S.purses.set i.toNat v).map puT := (List.map_set ..).symm
  rw [e2] at w2
  exact ⟨w1, hk _ ⟨h4 (ownP 63 s2 W.p ((S.purses.set i.toNat v).map puT)) _ _ Au.ownP w2 w3, h.f⟩⟩
theorem A0.pix (h : A0 W F σ0 σ S) {i : Int} {K : Nat → Nat → Prop} (h0 : 0 ≤ i) (h1 : i < S.purses.length) (hk : ∀ b o, σ.cell? ⟨b, o, none⟩ = some (.int .i64 (gt S.purses i)) → σ.cell? ⟨b, o + 1, none⟩ = some (.int .i64 0) → K b o) : ix W.p.A W.p.n i 2 K := by
  obtain ⟨k, rfl⟩ := Int.eq_ofNat_of_zero_le h0
  have hk1 : k < S.purses.length := by omega
  obtain ⟨ps, hps⟩ : ∃ ps : List (Int × Int), ps = S.purses.map fun n : Int => ((n, 0) : Int × Int) := ⟨_, rfl⟩
  have hr : RdS s2 σ W.p.A W.p.n ps := by rw [hps]; exact h.rd.2.2.1
  have hl : ps.length = S.purses.length := by rw [hps, List.length_map]
  have hg : ∀ (h' : k < ps.length), ps[k] = (S.purses[k], 0) := fun h' => by subst hps; rw [List.getElem_map]
  refine Qu hr (by omega) fun b o c0 c1 => hk b o ?_ ?_
  · rw [c0, hg, Cd hk1]
  · rw [c1, hg]
end
end Go.Proofs.YtecodlefcmjihaaGreat
