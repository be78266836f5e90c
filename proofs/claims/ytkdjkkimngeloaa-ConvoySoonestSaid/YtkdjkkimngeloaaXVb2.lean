/- Trimmed by wip/trim.py to what this claim rests on. -/
import Derived.Test.YtkdjkkimngeloaaXVb1
import Derived.Test.YtkdjkkimngeloaaXC1
namespace Go.Proofs.Ytkdjkkimngeloaa
open Go.RowKit
instance {n : Nat} {r : Rdt} : Decidable (K5 n r) := by unfold K5; infer_instance
def Mp.okB (m : Mp) : Bool := decide (1 ≤ m.pk.length ∧ m.pk.length ≤ 12) && decide (m.rs.length ≤ 30) && m.rs.all fun r => decide (K5 m.pk.length r)
theorem Mp.okB_iff {m : Mp} : m.okB = true ↔ MpS m := by
  unfold Mp.okB
  simp only [Bool.and_eq_true, decide_eq_true_eq, List.all_eq_true]
  exact ⟨fun h => ⟨h.1.1, h.1.2, h.2⟩, fun h => ⟨⟨h.n, h.k⟩, h.r⟩⟩
def lrB (n : Nat) (l : Lry) : Bool := decide ((0 ≤ l.h ∧ l.h ≤ 1000) ∧ (0 ≤ l.w ∧ l.w ≤ 1000) ∧ (0 ≤ l.fr ∧ l.fr < n) ∧ (0 ≤ l.rdy ∧ l.rdy ≤ 2000) ∧ (1 ≤ l.dr ∧ l.dr ≤ 500) ∧ (1 ≤ l.rst ∧ l.rst ≤ 500))
theorem II {m : Mp} {l : Lry} : lrB m.pk.length l = true ↔ AQ m l := by
  unfold lrB
  rw [decide_eq_true_eq]
  exact ⟨fun h => ⟨h.1, h.2.1, h.2.2.1, h.2.2.2.1, h.2.2.2.2.1, h.2.2.2.2.2⟩, fun h => ⟨h.h, h.w, h.f, h.y, h.d, h.s⟩⟩
def eM (m : Mp) : Int := if m.okB = true then 0 else 90
def eL (m : Mp) (l : Lry) : Int := if lrB m.pk.length l = true then 0 else 91
def eC (m : Mp) (ls : List Lry) : Int := if m.okB = true then (if ls.all (lrB m.pk.length) = true then 0 else 91) else 90
def eT (m : Mp) (ls : List Lry) (t : Int) : Int := if m.okB = true then (if 8 < ls.length then 2 else if ls.all (lrB m.pk.length) = true then (if 0 ≤ t ∧ t < m.pk.length then 0 else 1) else 91) else 90
structure MW where
  pA : Option Addr
  pn : Nat
  pc : Nat
  rA : Option Addr
  rn : Nat
  rc : Nat
abbrev MW.v (w : MW) : Value := .agg #[.slice w.pA w.pn w.pc, .slice w.rA w.rn w.rc]
abbrev sR : List Sh := [.int .i64, .int .i64, .int .i64, .int .i64, .int .i64]
abbrev sL : List Sh := [.int .i64, .int .i64, .int .i64, .int .i64, .int .i64, .int .i64]
structure MIn (σ : Hp) (w : MW) (m : Mp) : Prop where
  p : RdS [.bool] σ w.pA w.pn m.pk
  r : RdS sR σ w.rA w.rn m.rs
theorem MIn.up {σ σ' : Hp} {w : MW} {m : Mp} (h : MIn σ w m) (hs : Hp.Sub σ σ') : MIn σ' w m := ⟨h.p.sub hs, h.r.sub hs⟩
theorem MIn.pn {σ : Hp} {w : MW} {m : Mp} (h : MIn σ w m) : w.pn = m.pk.length := h.p.lenB
theorem RdS.lenR {σ : Hp} {A : Option Addr} {n : Nat} {xs : List Rdt} (h : RdS sR σ A n xs) : n = xs.length := h.1
theorem MIn.rn {σ : Hp} {w : MW} {m : Mp} (h : MIn σ w m) : w.rn = m.rs.length := h.r.lenR
abbrev rdV (r : Rdt) : Value := .agg #[.int .i64 r.1, .int .i64 r.2.1, .int .i64 r.2.2.1, .int .i64 r.2.2.2.1, .int .i64 r.2.2.2.2]
abbrev LrT := Int × Int × Int × Int × Int × Int
abbrev Lry.t (l : Lry) : LrT := (l.h, l.w, l.fr, l.rdy, l.dr, l.rst)
abbrev Lry.v (l : Lry) : Value := .agg #[.int .i64 l.h, .int .i64 l.w, .int .i64 l.fr, .int .i64 l.rdy, .int .i64 l.dr, .int .i64 l.rst]
def DN (t : LrT) : Lry := ⟨t.1, t.2.1, t.2.2.1, t.2.2.2.1, t.2.2.2.2.1, t.2.2.2.2.2⟩
theorem RdS.lenL {σ : Hp} {A : Option Addr} {n : Nat} {xs : List LrT} (h : RdS sL σ A n xs) : n = xs.length := h.1
section
variable {σ : Hp}
theorem QN {A : Option Addr} {n : Nat} {xs : List Rdt} {i : Int} {K : Int → Int → Int → Int → Int → Prop} (h : RdS sR σ A n xs) (hi : 0 ≤ i) (hn : i.toNat < xs.length) (hk : K xs[i.toNat].1 xs[i.toNat].2.1 xs[i.toNat].2.2.1 xs[i.toNat].2.2.2.1 xs[i.toNat].2.2.2.2) :
    ix A n i 5 fun b a => ldI σ .i64 b a fun x1 => ldI σ .i64 b (a + 1) fun x2 => ldI σ .i64 b (a + 2) fun x3 => ldI σ .i64 b (a + 3) fun x4 => ldI σ .i64 b (a + 4) fun x5 => K x1 x2 x3 x4 x5 := by
  refine JU (ss := sR) h rfl hi hn fun b o hc => ?_
  exact Bu (hc 0 (by decide)) (Bu (hc 1 (by decide)) (Bu (hc 2 (by decide)) (Bu (hc 3 (by decide)) (Bu (hc 4 (by decide)) hk))))
theorem RK {A : Option Addr} {n : Nat} {xs : List LrT} {i : Int} {K : Int → Int → Int → Int → Int → Int → Prop} (h : RdS sL σ A n xs) (hi : 0 ≤ i) (hn : i.toNat < xs.length) (hk : K xs[i.toNat].1 xs[i.toNat].2.1 xs[i.toNat].2.2.1 xs[i.toNat].2.2.2.1 xs[i.toNat].2.2.2.2.1 xs[i.toNat].2.2.2.2.2) :
    ix A n i 6 fun b a => ldI σ .i64 b a fun x1 => ldI σ .i64 b (a + 1) fun x2 => ldI σ .i64 b (a + 2) fun x3 => ldI σ .i64 b (a + 3) fun x4 => ldI σ .i64 b (a + 4) fun x5 => ldI σ .i64 b (a + 5) fun x6 => K x1 x2 x3 x4 x5 x6 := by
  refine JU (ss := sL) h rfl hi hn fun b o hc => ?_
  exact Bu (hc 0 (by decide)) (Bu (hc 1 (by decide)) (Bu (hc 2 (by decide)) (Bu (hc 3 (by decide)) (Bu (hc 4 (by decide)) (Bu (hc 5 (by decide)) hk)))))
theorem Pw {n lo hi : Int} : Ae Try.prog E9 #[.int .i64 n, .int .i64 lo, .int .i64 hi] σ fun v σ' => v = .bool (decide (lo ≤ n ∧ n ≤ hi)) ∧ σ' = σ := by
  refine GG _ _ _ _ _ ?_
  unfold C5
  refine Bq (fun h => Az ⟨?_, rfl⟩) (fun h => Az ⟨?_, rfl⟩)
  · simp [h]
  · simp [h]
theorem BD {n lo hi : Int} {K : Bool → Hp → Prop} (h1 : lo ≤ n ∧ n ≤ hi → K true σ) (h2 : ¬ (lo ≤ n ∧ n ≤ hi) → K false σ) : cl Try.prog (.func (.func E9) #[] #[]) #[.int .i64 n, .int .i64 lo, .int .i64 hi] σ fun v σ' => ∃ t : Bool, (v = .bool t ∧ K t σ') :=
  clB Fm Pw (by by_cases h : lo ≤ n ∧ n ≤ hi <;> simp only [h] <;> first | exact h1 h | exact h2 h)
theorem Q9 {w : MW} {n : Int} (hw : w.pn ≤ 4294967296) : Ae Try.prog D2 #[w.v, .int .i64 n] σ fun v σ' => v = .bool (decide (0 ≤ n ∧ n < w.pn)) ∧ σ' = σ := by
  refine HI _ _ _ _ _ _ _ _ _ ?_
  unfold D5
  refine Bh (by omega) (BD (fun h => Az ⟨?_, rfl⟩) (fun h => Az ⟨?_, rfl⟩))
  · rw [decide_eq_true (by omega)]
  · rw [decide_eq_false (by omega)]
theorem L6 {w : MW} {n : Int} {K : Bool → Hp → Prop} (hw : w.pn ≤ 4294967296) (h1 : 0 ≤ n ∧ n < w.pn → K true σ) (h2 : ¬ (0 ≤ n ∧ n < w.pn) → K false σ) : cl Try.prog (.func (.func D2) #[] #[]) #[w.v, .int .i64 n] σ fun v σ' => ∃ t : Bool, (v = .bool t ∧ K t σ') :=
  clB Ge (Q9 hw) (by by_cases h : 0 ≤ n ∧ n < w.pn <;> simp only [h] <;> first | exact h1 h | exact h2 h)
theorem Ox {w : MW} {r : Rdt} {b : Nat} {f : Nat × Nat} {rw : Bool} (hw : w.pn ≤ 4294967296) (hb : σ b = some (.cells #[.slice w.pA w.pn w.pc, .slice w.rA w.rn w.rc] 25 f, rw)) : Ae Try.prog H7 #[rdV r, .pointer (some ⟨b, 0, none⟩)] σ fun v σ' => v = .bool (!decide (K5 w.pn r)) ∧ σ' = σ := by
  refine Gf _ _ _ _ _ _ _ _ ?_
  unfold CM
  have no : ¬ K5 w.pn r → rt σ (fun v σ' => v = .bool (!decide (K5 w.pn r)) ∧ σ' = σ) (.bool true) := fun h => Az ⟨by rw [decide_eq_false h]; rfl, rfl⟩
  have ld : ∀ {K : Bool → Hp → Prop} {n : Int}, (0 ≤ n ∧ n < w.pn → K true σ) → (¬ (0 ≤ n ∧ n < w.pn) → K false σ) → dr (some ⟨b, 0, none⟩) fun b1 o2 => ldS σ b1 o2 fun A3 l3 c3 => ldS σ b1 (o2 + 1) fun A4 l4 c4 => cl Try.prog (.func (.func D2) #[] #[]) #[.agg #[.slice A3 l3 c3, .slice A4 l4 c4], .int .i64 n] σ fun v σ' => ∃ t : Bool, (v = .bool t ∧ K t σ') := fun h1 h2 =>
    AI (E6 hb rfl (E6 hb rfl (L6 (w := w) hw h1 h2)))
  refine ld (fun h1 => C3 ?_) (fun h1 => CU (no fun h => h1 h.1))
  refine ld (fun h2 => C3 ?_) (fun h2 => CU (no fun h => h2 h.2.1))
  refine Bq (fun h3 => no fun h => h.2.2.1 h3) (fun h3 => ?_)
  refine BD (fun h4 => C3 ?_) (fun h4 => CU (no fun h => h4 h.2.2.2.1))
  refine BD (fun h5 => C3 ?_) (fun h5 => CU (no fun h => h5 h.2.2.2.2.1))
  refine BD (fun h6 => Az ⟨?_, rfl⟩) (fun h6 => Az ⟨?_, rfl⟩)
  · rw [decide_eq_true ⟨h1, h2, h3, h4, h5, h6⟩]
  · rw [decide_eq_false fun h => h6 h.2.2.2.2.2]
def Jy {α : Type} (p : α → Bool) (xs : List α) : Int := if xs.findIdx p < xs.length then (xs.findIdx p : Int) else -1
theorem NE {α : Type} {p : α → Bool} {xs : List α} {k : Nat} (hk : k < xs.length) (h : p xs[k] = true) (hj : ∀ j, (h : j < xs.length) → j < k → p xs[j] = false) : Jy p xs = k := by
  have : xs.findIdx p = k := (List.findIdx_eq hk).2 ⟨h, fun j hjk => hj j (by omega) hjk⟩
  unfold Jy
  rw [this, if_pos hk]
theorem HF {α : Type} {p : α → Bool} {xs : List α} (h : ∀ j, (h : j < xs.length) → p xs[j] = false) : Jy p xs = -1 := by
  have : xs.findIdx p = xs.length := List.findIdx_eq_length.2 fun x hx => by
    obtain ⟨i, hi, rfl⟩ := List.getElem_of_mem hx
    exact h i hi
  unfold Jy
  rw [this, if_neg (by omega)]
theorem Lw {α : Type} {p : α → Bool} {xs : List α} : decide (0 ≤ Jy p xs) = xs.any p := by
  unfold Jy
  split
  · rename_i h
    have : xs.any p = true := List.any_eq_true.2 ⟨_, List.getElem_mem h, List.findIdx_getElem⟩
    rw [this]
    simp
  · rename_i h
    have h1 : xs.findIdx p = xs.length := by have := List.findIdx_le_length (p := p) (xs := xs); omega
    have := List.findIdx_eq_length.1 h1
    simp
    intro x hx
    simp [this x hx]
def Dec {α : Type} (f : Value) (enc : α → Array Value) (p : α → Bool) (xs : List α) (σ : Hp) : Prop := ∀ a ∈ xs, ∀ K : Bool → Hp → Prop, K (p a) σ → cl Try.prog f (enc a) σ fun v σ' => ∃ t : Bool, (v = .bool t ∧ K t σ')
theorem Dec.of {α : Type} {g : FuncId} {caps : Array Value} {enc : α → Array Value} {p : α → Bool} {xs : List α} {σ : Hp} (he : As Try.prog g = true) (h : ∀ a ∈ xs, Ae Try.prog g (KW #[] (enc a) caps) σ fun u σ' => u = .bool (p a) ∧ σ' = σ) : Dec (.func (.func g) #[] caps) enc p xs σ :=
  fun a ha _ hk => Gy.func he ((h a ha).mono fun _ _ ⟨e1, e2⟩ => by subst e1; subst e2; exact ⟨_, rfl, hk⟩)
abbrev QJ (r : Rdt) : Array Value := #[rdV r]
theorem Jk {A : Option Addr} {n c : Nat} {f : Value} {xs : List Rdt} {p : Rdt → Bool} (hx : RdS sR σ A n xs) (hl : xs.length ≤ 4294967296) (hf : Dec f QJ p xs σ) :
    Ae Try.prog De #[.slice A n c, f] σ fun v σ' => v = .int .i64 (Jy p xs) ∧ σ' = σ := by
  refine CI _ _ _ _ _ _ ?_
  unfold Bb
  refine Ah fun J hJ => ?_
  have hn := hx.lenR
  refine ⟨fun n i σ' => ∃ k : Nat, n = xs.length - k ∧ i = k ∧ k ≤ xs.length ∧ σ' = σ ∧ ∀ j, (h : j < xs.length) → j < k → p xs[j] = false, ⟨_, 0, rfl, rfl, by omega, rfl, fun j _ h => by omega⟩, ?_⟩
  rintro n i σ' ⟨k, rfl, rfl, hk, rfl, hj⟩ _
  refine Bq (fun hlt => ?_) (fun hlt => ?_)
  · have hkl : k < xs.length := by omega
    refine QN hx (by omega) (by simpa using hkl) ?_
    refine hf _ (List.getElem_mem (show (k : Int).toNat < xs.length by simpa using hkl)) _ ?_
    simp only [Int.toNat_natCast]
    refine ID (fun h => Az ⟨?_, rfl⟩) (fun h => Bh (by omega) (CA _ (by omega) ⟨k + 1, rfl, rfl, by omega, rfl, fun j h' hjk => ?_⟩))
    · rw [NE hkl h hj]
    · rcases Nat.lt_or_ge j k with hlt | hge
      · exact hj j h' hlt
      · have : j = k := by omega
        subst this
        exact h
  · subst hJ
    intro _
    refine Az ⟨?_, rfl⟩
    rw [HF fun j h => hj j h (by omega)]
theorem Hd {A : Option Addr} {n c : Nat} {f : Value} {xs : List Rdt} {p : Rdt → Bool} (hx : RdS sR σ A n xs) (hl : xs.length ≤ 4294967296) (hf : Dec f QJ p xs σ) :
    Ae Try.prog CE #[.slice A n c, f] σ fun v σ' => v = .bool (xs.any p) ∧ σ' = σ := by
  refine Cq _ _ _ _ _ _ ?_
  unfold AR
  refine clI Co (Jk hx hl hf) (Az ⟨?_, rfl⟩)
  rw [Lw]
theorem QC {w : MW} {m : Mp} (h : MIn σ w m) (hp : m.pk.length ≤ 4294967296) (hr : m.rs.length ≤ 4294967296) : Ae Try.prog FA #[w.v] σ fun v σ' => v = .int .i64 (eM m) ∧ σ' = σ := by
  refine Hk _ _ _ _ _ _ _ _ ?_
  unfold Dq
  intro b1 n1
  have s1 := Hp.Sub.ins (.cells #[.slice w.pA w.pn w.pc, .slice w.rA w.rn w.rc] 25 (0, 0)) n1
  have hb := Hp.ins_same σ b1 (.cells #[.slice w.pA w.pn w.pc, .slice w.rA w.rn w.rc] 25 (0, 0))
  have h' := h.up s1
  have e1 := h.pn
  have e2 := h.rn
  generalize σ.ins b1 (.cells #[.slice w.pA w.pn w.pc, .slice w.rA w.rn w.rc] 25 (0, 0)) = σ2 at s1 hb h' ⊢
  refine Ah fun J5 h5 => Ah fun J8 h8 => ?_
  have k5 : m.okB = true → J5 σ2 := fun ho => by
    rw [h5]
    intro _
    exact Bg s1 ⟨by unfold eM; rw [if_pos ho], rfl⟩
  have k8 : m.okB = false → J8 true σ2 := fun ho => by
    rw [h8]
    intro _
    exact Gi (Bg s1 ⟨by unfold eM; rw [ho]; rfl, rfl⟩)
  have bad : ¬ MpS m → m.okB = false := fun hn => by
    cases ho : m.okB
    · rfl
    · exact absurd (Mp.okB_iff.1 ho) hn
  refine E6 hb rfl (BD (fun h1 => C3 ?_) (fun h1 => CU (k8 (bad fun hm => h1 (by have := hm.n; omega)))))
  refine E6 hb rfl (Bq (fun h2 => k8 (bad fun hm => by have := hm.k; omega)) (fun h2 => ?_))
  refine E6 hb rfl (clB B0 (Hd (p := fun r => !decide (K5 w.pn r)) h'.r hr (Dec.of ED fun r _ => Ox (w := w) (by omega) hb)) ?_)
  rw [h8]
  intro _
  refine ID (fun ha => ?_) (fun ha => k5 ?_)
  · refine Bg s1 ⟨?_, rfl⟩
    unfold eM
    rw [bad fun hm => ?_]
    · rfl
    · obtain ⟨r, hr1, hr2⟩ := List.any_eq_true.1 ha
      have := hm.r r hr1
      rw [e1] at hr2
      simp [this] at hr2
  · rw [Mp.okB_iff]
    refine ⟨by omega, by omega, fun r hr1 => ?_⟩
    have := List.any_eq_false.1 ha r hr1
    rw [e1] at this
    simpa using this
end
end Go.Proofs.Ytkdjkkimngeloaa
