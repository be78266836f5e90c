/- Trimmed by wip/trim.py to what this claim rests on. -/
import Derived.Test.YtkdjkkimngeloaaXVb9
import Derived.Test.YtkdjkkimngeloaaXVa5
namespace Go.Proofs.Ytkdjkkimngeloaa
open Go.RowKit
def LC (lf : List (Plc × Cst)) (k : Nat) : Prop := ∀ p c, lkA lf p = some c → (0 ≤ c.1 ∧ 0 ≤ c.2) ∧ c.1 ≤ 1000 * k ∧ c.2 ≤ k
def LB (lf : List (Plc × Cst)) (q : Plc) (k : Nat) : Prop := ∀ p c, lkA lf p = some c → ((0 ≤ c.1 ∧ 0 ≤ c.2) ∧ c.1 ≤ 1000 * (k + 1) ∧ c.2 ≤ k + 1) ∧ (p ≠ q → c.1 ≤ 1000 * k ∧ c.2 ≤ k)
theorem LC.beg {lf : List (Plc × Cst)} {q : Plc} {k : Nat} (h : LC lf k) : LB lf q k := fun p c hp => by
  obtain ⟨a, b, d⟩ := h p c hp
  exact ⟨⟨a, by omega, by omega⟩, fun _ => ⟨b, d⟩⟩
theorem LB.fin {lf : List (Plc × Cst)} {q : Plc} {k : Nat} (h : LB lf q k) : LC lf (k + 1) := fun p c hp => by
  obtain ⟨⟨a, b, d⟩, _⟩ := h p c hp
  exact ⟨a, by omega, by omega⟩
theorem LC.here {lf : List (Plc × Cst)} {q : Plc} {k : Nat} (h : LC lf k) : LC (upA lf q (0, 0)) (k + 1) := fun p c hp => by
  rw [Br] at hp
  split at hp
  · cases hp
    exact ⟨⟨Int.le_refl _, Int.le_refl _⟩, by show (0 : Int) ≤ _; omega, by show (0 : Int) ≤ _; omega⟩
  · obtain ⟨a, b, d⟩ := h p c hp
    exact ⟨a, by omega, by omega⟩
theorem LB.less {lf : List (Plc × Cst)} {q : Plc} {k : Nat} (h : LB lf q k) {w : Wy} {c' : Cst} (hc : lkA lf w.to = some c') (hw : w.to ≠ q) (ht : 1 ≤ w.tk ∧ w.tk ≤ 1000) : LB (upA lf q (cad c' w)) q k := fun p c hp => by
  rw [Br] at hp
  split at hp
  · rename_i e
    cases hp
    obtain ⟨⟨⟨a1, a2⟩, _⟩, b⟩ := h _ _ hc
    obtain ⟨b1, b2⟩ := b hw
    refine ⟨⟨⟨?_, ?_⟩, ?_, ?_⟩, fun hn => absurd e hn⟩
    · show 0 ≤ c'.1 + w.tk; omega
    · show 0 ≤ c'.2 + 1; omega
    · show c'.1 + w.tk ≤ _; omega
    · show c'.2 + 1 ≤ _; omega
  · exact h p c hp
theorem LB.cOK {lf : List (Plc × Cst)} {q p : Plc} {k : Nat} {c : Cst} (h : LB lf q k) (hk : k ≤ 6012) (hp : lkA lf p = some c) : cOK c := by
  obtain ⟨⟨⟨a1, a2⟩, a3, a4⟩, _⟩ := h p c hp
  exact ⟨⟨a1, by omega⟩, a2, by omega⟩
theorem Lst.memU {m : Mp} {l : Lry} {out : List (Plc × Cst)} (hm : BJ m) (hl : AZ m l) (h : Lst m l out) {p : Plc} {c : Cst} (hp : lkA out p = some c) : p ∈ KL m l := by
  obtain ⟨h1, h2, _⟩ := (h.so _ _ hp).ok hm hl
  exact Mw h1 h2
structure OsI (out : List (Plc × Cst)) (best : Cst) (seen : List Nat) (os : List Plc) : Prop where
  nd : os.Nodup
  sn : ∀ i ∈ seen, i < out.length
  me : ∀ p, p ∈ os ↔ ∃ i, ∃ h : i < out.length, i ∈ seen ∧ out[i].1 = p ∧ ¬ clt best out[i].2
theorem OsI.init {out : List (Plc × Cst)} {best : Cst} : OsI out best [] [] :=
  ⟨List.nodup_nil, fun i hi => (by cases hi), fun p => ⟨fun h => (by cases h), fun ⟨i, h, hi, _⟩ => (by cases hi)⟩⟩
theorem OsI.add {out : List (Plc × Cst)} {best : Cst} {seen : List Nat} {os : List Plc} (hn : (out.map Prod.fst).Nodup) (h : OsI out best seen os) {i : Nat} (hi : i < out.length) (hs : i ∉ seen) (hc : ¬ clt best out[i].2) : OsI out best (seen ++ [i]) (os ++ [out[i].1]) := by
  refine ⟨?_, fun j hj => ?_, fun p => ?_⟩
  · rw [List.nodup_append]
    refine ⟨h.nd, by simp, fun a ha b hb e => ?_⟩
    rw [List.mem_singleton] at hb
    subst hb e
    obtain ⟨j, hj, hjs, e, _⟩ := (h.me _).1 ha
    have h1 := IG hn hj
    by_cases e2 : j = i
    · subst e2
      exact hs hjs
    · rcases Nat.lt_or_gt_of_ne e2 with c | c
      · exact (List.pairwise_iff_getElem.1 hn) j i (by simpa using hj) (by simpa using hi) c (by simpa using e)
      · exact (List.pairwise_iff_getElem.1 hn) i j (by simpa using hi) (by simpa using hj) c (by simpa using e.symm)
  · rcases List.mem_append.1 hj with hj | hj
    · exact h.sn j hj
    · rw [List.mem_singleton] at hj; omega
  · rw [List.mem_append, List.mem_singleton, h.me]
    constructor
    · rintro (⟨j, a, b, c⟩ | rfl)
      · exact ⟨j, a, List.mem_append_left _ b, c⟩
      · exact ⟨i, hi, by simp, rfl, hc⟩
    · rintro ⟨j, a, b, c, d⟩
      rcases List.mem_append.1 b with b | b
      · exact .inl ⟨j, a, b, c, d⟩
      · rw [List.mem_singleton] at b
        subst b
        exact .inr c.symm
theorem OsI.pass {out : List (Plc × Cst)} {best : Cst} {seen : List Nat} {os : List Plc} (h : OsI out best seen os) {i : Nat} (hi : i < out.length) (hc : clt best out[i].2) : OsI out best (seen ++ [i]) os := by
  refine ⟨h.nd, fun j hj => ?_, fun p => ?_⟩
  · rcases List.mem_append.1 hj with hj | hj
    · exact h.sn j hj
    · rw [List.mem_singleton] at hj; omega
  · rw [h.me]
    constructor
    · rintro ⟨j, a, b, c⟩
      exact ⟨j, a, List.mem_append_left _ b, c⟩
    · rintro ⟨j, a, b, c, d⟩
      rcases List.mem_append.1 b with b | b
      · exact ⟨j, a, b, c, d⟩
      · rw [List.mem_singleton] at b
        subst b
        exact absurd hc d
theorem OsI.all {out : List (Plc × Cst)} {best : Cst} {seen : List Nat} {os : List Plc} (hn : (out.map Prod.fst).Nodup) (h : OsI out best seen os) (ha : ∀ i, i < out.length → i ∈ seen) : ∀ p, p ∈ os ↔ ∃ c, lkA out p = some c ∧ ¬ clt best c := fun p => by
  rw [h.me]
  constructor
  · rintro ⟨i, hi, _, rfl, hc⟩
    exact ⟨_, IG hn hi, hc⟩
  · rintro ⟨c, h1, h2⟩
    obtain ⟨i, hi, e⟩ := List.mem_iff_getElem.1 (HS h1)
    exact ⟨i, hi, ha i hi, by rw [e], by rw [e]; exact h2⟩
theorem OsI.le {m : Mp} {l : Lry} {out : List (Plc × Cst)} {best : Cst} {seen : List Nat} {os : List Plc} (hm : BJ m) (hl : AZ m l) (hL : Lst m l out) (h : OsI out best seen os) : os.length ≤ 6012 :=
  Nat.le_trans (GJ h.nd fun p hp => by
    obtain ⟨i, hi, _, rfl, _⟩ := (h.me p).1 hp
    exact hL.memU hm hl (IG hL.nd hi)) (HL hm hl)
abbrev lfO (b6 : Nat) : Obj := .cells #[.map (some b6)] 128 (0, 0)
abbrev nwO (n : Int) : Obj := .cells #[.int .i64 n] 3 (0, 0)
abbrev jlO (A : Option Addr) (n c : Nat) : Obj := .cells #[.slice A n c] 32 (0, 0)
theorem Hx {V : Rel} (hV : Ao V) {b k : Nat} {c : Array Value} {e : TypeId} {s τ : Hp} {v : Value} {K : Hp → Prop} (h : ((Blk b (.cells c e (0, 0))).seq V) s τ) (hk : k < c.size) (hK : ∀ τ', ((Blk b (.cells (c.setIfInBounds k v) e (0, 0))).seq V) s τ' → K τ') : st τ b k v K := by
  obtain ⟨s1, h1, h2⟩ := h
  exact ⟨QL (hV.sub h2 _ _ h1.get) hk, hK _ ⟨_, h1.put v, hV.put h2 h1.get v⟩⟩
abbrev S6 (A : Option Addr) (n c : Nat) (js : List Leg) : Rel := fun s τ => Ap 60 sJ s A n c js τ
def WS (bt bn bj : Nat) (p : Plc) (now : Int) (A : Option Addr) (n c : Nat) (A' : Option Addr) (n' c' : Nat) (js : List Leg) (U : Rel) : Rel :=
  (Blk bt (plO p)).seq ((Blk bn (nwO now)).seq ((Blk bj (jlO A n c)).seq (U.seq (S6 A' n' c' js))))
section
variable {bt bn bj : Nat} {p : Plc} {now : Int} {A A' : Option Addr} {n c n' c' : Nat} {js : List Leg} {U : Rel} {s0 τ : Hp}
theorem Ao.ownJ : Ao (S6 A n c js) := Ao.own
theorem WS.get (hU : Ao U) (h : WS bt bn bj p now A n c A' n' c' js U s0 τ) : τ bt = some (plO p, true) ∧ τ bn = some (nwO now, true) ∧ τ bj = some (jlO A n c, true) ∧ Hp.Sub s0 τ ∧ RdS sJ τ A' n' js := by
  obtain ⟨s1, h1, s2, h2, s3, h3, s4, h4, h5⟩ := h
  have e5 := Ao.ownJ.sub h5
  have e4 := (hU.sub h4).trans e5
  have e3 := h3.sub.trans e4
  have e2 := h2.sub.trans e3
  exact ⟨e2 _ _ h1.get, e3 _ _ h2.get, e4 _ _ h3.get, h1.sub.trans e2, h5.rd⟩
theorem WS.getU (h : WS bt bn bj p now A n c A' n' c' js U s0 τ) : ∃ s3 s4, U s3 s4 ∧ Hp.Sub s4 τ := by
  obtain ⟨s1, h1, s2, h2, s3, h3, s4, h4, h5⟩ := h
  exact ⟨s3, s4, h4, Ao.ownJ.sub h5⟩
theorem WS.top {V : Rel} (hV : Ao V) {τ' : Hp} (h : WS bt bn bj p now A n c A' n' c' js U s0 τ) (hv : V τ τ') : WS bt bn bj p now A n c A' n' c' js (U.seq V) s0 τ' := by
  obtain ⟨s1, h1, s2, h2, s3, h3, s4, h4, h5⟩ := h
  obtain ⟨s5, h6, h7⟩ := Ao.ownJ.swap hV h5 hv
  exact ⟨s1, h1, s2, h2, s3, h3, s5, ⟨s4, h4, h6⟩, h7⟩
theorem WS.untop {V : Rel} (hV : Ao V) (h : WS bt bn bj p now A n c A' n' c' js (U.seq V) s0 τ) : ∃ τ0, WS bt bn bj p now A n c A' n' c' js U s0 τ0 ∧ V τ0 τ := by
  obtain ⟨s1, h1, s2, h2, s3, h3, s5, ⟨s4, h4, h6⟩, h7⟩ := h
  obtain ⟨τ0, g1, g2⟩ := hV.swap Ao.ownJ h6 h7
  exact ⟨τ0, ⟨s1, h1, s2, h2, s3, h3, s4, h4, g1⟩, g2⟩
theorem WS.turn {b : Nat} {o o' : Obj} (h : WS bt bn bj p now A n c A' n' c' js (U.seq (Blk b o)) s0 τ) : WS bt bn bj p now A n c A' n' c' js (U.seq (Blk b o')) s0 (τ.ins b o') := by
  obtain ⟨τ0, h1, h2⟩ := h.untop Ao.blk
  exact h1.top Ao.blk h2.upd
theorem WS.app {K : Option Addr → Nat → Nat → Hp → Prop} {x : Leg} (h : WS bt bn bj p now A n c A n c js U s0 τ) (hl : js.length + 1 ≤ 4294967296) (hk : ∀ A' n' c' τ', WS bt bn bj p now A n c A' n' c' (js ++ [x]) U s0 τ' → K A' n' c' τ') :
    adp 60 sJ A n c τ fun (xs : List Leg) σ => BG (List.length xs + List.length ([x] : List Leg)) (exl 60 sJ (xs ++ ([x] : List Leg)) σ K) := by
  obtain ⟨s1, h1, s2, h2, s3, h3, s4, h4, h5⟩ := h
  exact ⟨js, s4, h5, Bh hl fun A' n' c' σ' ho => hk A' n' c' σ' ⟨s1, h1, s2, h2, s3, h3, s4, h4, ho⟩⟩
theorem WS.stJ (hU : Ao U) {K : Hp → Prop} (h : WS bt bn bj p now A n c A' n' c' js U s0 τ) (hk : ∀ τ', WS bt bn bj p now A' n' c' A' n' c' js U s0 τ' → K τ') : st τ bj 0 (.slice A' n' c') K := by
  obtain ⟨s1, h1, s2, h2, h3⟩ := h
  exact Hx (hU.seq Ao.ownJ) h3 (show 0 < 1 by omega) fun τ' h' => hk τ' ⟨s1, h1, s2, h2, h'⟩
theorem WS.stN (hU : Ao U) {K : Hp → Prop} {now' : Int} (h : WS bt bn bj p now A n c A' n' c' js U s0 τ) (hk : ∀ τ', WS bt bn bj p now' A n c A' n' c' js U s0 τ' → K τ') : st τ bn 0 (.int .i64 now') K := by
  obtain ⟨s1, h1, h2⟩ := h
  exact Hx (Ao.blk.seq (hU.seq Ao.ownJ)) h2 (show 0 < 1 by omega) fun τ' h' => hk τ' ⟨s1, h1, h'⟩
theorem WS.stP (hU : Ao U) {K : Hp → Prop} {p' : Plc} (h : WS bt bn bj p now A n c A' n' c' js U s0 τ) (hk : ∀ τ', WS bt bn bj p' now A n c A' n' c' js U s0 τ' → K τ') : st τ bt 0 (.int .i64 p'.1) fun σ => st σ bt (0 + 1) (.int .i64 p'.2) K :=
  Hx (Ao.blk.seq (Ao.blk.seq (hU.seq Ao.ownJ))) h (show 0 < 2 by omega) fun τ1 h1 => Hx (Ao.blk.seq (Ao.blk.seq (hU.seq Ao.ownJ))) h1 (show 0 + 1 < 2 by omega) fun τ' h' => hk τ' h'
end
end Go.Proofs.Ytkdjkkimngeloaa
