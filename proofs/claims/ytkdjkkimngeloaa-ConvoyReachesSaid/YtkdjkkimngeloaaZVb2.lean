/- Trimmed by wip/trim.py to what this claim rests on. -/
import Derived.Test.YtkdjkkimngeloaaZVb1
import Derived.Test.YtkdjkkimngeloaaZC1
namespace Go.Proofs.Ytkdjkkimngeloaa
open Go.RowKit
instance {n : Nat} {r : Rdt} : Decidable (KH n r) := by unfold KH; infer_instance
def Mp.okB (m : Mp) : Bool := decide (1 ≤ m.pk.length ∧ m.pk.length ≤ 12) && decide (m.rs.length ≤ 30) && m.rs.all fun r => decide (KH m.pk.length r)
theorem Mp.okB_iff {m : Mp} : m.okB = true ↔ MpS m := by
  unfold Mp.okB
  simp only [Bool.and_eq_true, decide_eq_true_eq, List.all_eq_true]
  exact ⟨fun h => ⟨h.1.1, h.1.2, h.2⟩, fun h => ⟨⟨h.n, h.k⟩, h.r⟩⟩
def lrB (n : Nat) (l : Lry) : Bool := decide ((0 ≤ l.h ∧ l.h ≤ 1000) ∧ (0 ≤ l.w ∧ l.w ≤ 1000) ∧ (0 ≤ l.fr ∧ l.fr < n) ∧ (0 ≤ l.rdy ∧ l.rdy ≤ 2000) ∧ (1 ≤ l.dr ∧ l.dr ≤ 500) ∧ (1 ≤ l.rst ∧ l.rst ≤ 500))
theorem Gn {m : Mp} {l : Lry} : lrB m.pk.length l = true ↔ A0 m l := by
  unfold lrB
  rw [decide_eq_true_eq]
  exact ⟨fun h => ⟨h.1, h.2.1, h.2.2.1, h.2.2.2.1, h.2.2.2.2.1, h.2.2.2.2.2⟩, fun h => ⟨h.h, h.w, h.f, h.y, h.d, h.s⟩⟩
def eM (m : Mp) : Int := if m.okB = true then 0 else 90
def eL (m : Mp) (l : Lry) : Int := if lrB m.pk.length l = true then 0 else 91
def eC (m : Mp) (ls : List Lry) : Int := if m.okB = true then (if ls.all (lrB m.pk.length) = true then 0 else 91) else 90
def eT (m : Mp) (ls : List Lry) (t : Int) : Int := if m.okB = true then (if 8 < ls.length then 2 else if ls.all (lrB m.pk.length) = true then (if 0 ≤ t ∧ t < m.pk.length then 0 else 1) else 91) else 90
structure MW where
  pA : Option Addr
  pn : Nat
  pc : Nat
  rA : Option Addr
  rn : Nat
  rc : Nat
abbrev MW.v (w : MW) : Value := .agg #[.slice w.pA w.pn w.pc, .slice w.rA w.rn w.rc]
abbrev sR : List Sh := [.int .i64, .int .i64, .int .i64, .int .i64, .int .i64]
abbrev sL : List Sh := [.int .i64, .int .i64, .int .i64, .int .i64, .int .i64, .int .i64]
structure MIn (σ : Hp) (w : MW) (m : Mp) : Prop where
  p : RdS [.bool] σ w.pA w.pn m.pk
  r : RdS sR σ w.rA w.rn m.rs
theorem MIn.up {σ σ' : Hp} {w : MW} {m : Mp} (h : MIn σ w m) (hs : Hp.Sub σ σ') : MIn σ' w m := ⟨h.p.sub hs, h.r.sub hs⟩
theorem MIn.pn {σ : Hp} {w : MW} {m : Mp} (h : MIn σ w m) : w.pn = m.pk.length := h.p.lenB
theorem RdS.lenR {σ : Hp} {A : Option Addr} {n : Nat} {xs : List Rdt} (h : RdS sR σ A n xs) : n = xs.length := h.1
theorem MIn.rn {σ : Hp} {w : MW} {m : Mp} (h : MIn σ w m) : w.rn = m.rs.length := h.r.lenR
abbrev rdV (r : Rdt) : Value := .agg #[.int .i64 r.1, .int .i64 r.2.1, .int .i64 r.2.2.1, .int .i64 r.2.2.2.1, .int .i64 r.2.2.2.2]
abbrev LrT := Int × Int × Int × Int × Int × Int
abbrev Lry.t (l : Lry) : LrT := (l.h, l.w, l.fr, l.rdy, l.dr, l.rst)
abbrev Lry.v (l : Lry) : Value := .agg #[.int .i64 l.h, .int .i64 l.w, .int .i64 l.fr, .int .i64 l.rdy, .int .i64 l.dr, .int .i64 l.rst]
def DQ (t : LrT) : Lry := ⟨t.1, t.2.1, t.2.2.1, t.2.2.2.1, t.2.2.2.2.1, t.2.2.2.2.2⟩
theorem RdS.lenL {σ : Hp} {A : Option Addr} {n : Nat} {xs : List LrT} (h : RdS sL σ A n xs) : n = xs.length := h.1
section
variable {σ : Hp}
theorem RT {A : Option Addr} {n : Nat} {xs : List Rdt} {i : Int} {K : Int → Int → Int → Int → Int → Prop} (h : RdS sR σ A n xs) (hi : 0 ≤ i) (hn : i.toNat < xs.length) (hk : K xs[i.toNat].1 xs[i.toNat].2.1 xs[i.toNat].2.2.1 xs[i.toNat].2.2.2.1 xs[i.toNat].2.2.2.2) :
    ix A n i 5 fun b a => ldI σ .i64 b a fun x1 => ldI σ .i64 b (a + 1) fun x2 => ldI σ .i64 b (a + 2) fun x3 => ldI σ .i64 b (a + 3) fun x4 => ldI σ .i64 b (a + 4) fun x5 => K x1 x2 x3 x4 x5 := by
  refine GQ (ss := sR) h rfl hi hn fun b o hc => ?_
  exact AZ (hc 0 (by decide)) (AZ (hc 1 (by decide)) (AZ (hc 2 (by decide)) (AZ (hc 3 (by decide)) (AZ (hc 4 (by decide)) hk))))
theorem S5 {A : Option Addr} {n : Nat} {xs : List LrT} {i : Int} {K : Int → Int → Int → Int → Int → Int → Prop} (h : RdS sL σ A n xs) (hi : 0 ≤ i) (hn : i.toNat < xs.length) (hk : K xs[i.toNat].1 xs[i.toNat].2.1 xs[i.toNat].2.2.1 xs[i.toNat].2.2.2.1 xs[i.toNat].2.2.2.2.1 xs[i.toNat].2.2.2.2.2) :
    ix A n i 6 fun b a => ldI σ .i64 b a fun x1 => ldI σ .i64 b (a + 1) fun x2 => ldI σ .i64 b (a + 2) fun x3 => ldI σ .i64 b (a + 3) fun x4 => ldI σ .i64 b (a + 4) fun x5 => ldI σ .i64 b (a + 5) fun x6 => K x1 x2 x3 x4 x5 x6 := by
  refine GQ (ss := sL) h rfl hi hn fun b o hc => ?_
  exact AZ (hc 0 (by decide)) (AZ (hc 1 (by decide)) (AZ (hc 2 (by decide)) (AZ (hc 3 (by decide)) (AZ (hc 4 (by decide)) (AZ (hc 5 (by decide)) hk)))))
theorem P9 {n lo hi : Int} : Ae Try.prog Fx #[.int .i64 n, .int .i64 lo, .int .i64 hi] σ fun v σ' => v = .bool (decide (lo ≤ n ∧ n ≤ hi)) ∧ σ' = σ := by
  refine G9 _ _ _ _ _ ?_
  unfold De
  refine Ba (fun h => Az ⟨?_, rfl⟩) (fun h => Az ⟨?_, rfl⟩)
  · simp [h]
  · simp [h]
theorem Ce {n lo hi : Int} {K : Bool → Hp → Prop} (h1 : lo ≤ n ∧ n ≤ hi → K true σ) (h2 : ¬ (lo ≤ n ∧ n ≤ hi) → K false σ) : cl Try.prog (.func (.func Fx) #[] #[]) #[.int .i64 n, .int .i64 lo, .int .i64 hi] σ fun v σ' => ∃ t : Bool, (v = .bool t ∧ K t σ') :=
  clB Fy P9 (by by_cases h : lo ≤ n ∧ n ≤ hi <;> simp only [h] <;> first | exact h1 h | exact h2 h)
theorem R3 {w : MW} {n : Int} (hw : w.pn ≤ 4294967296) : Ae Try.prog Et #[w.v, .int .i64 n] σ fun v σ' => v = .bool (decide (0 ≤ n ∧ n < w.pn)) ∧ σ' = σ := by
  refine IL _ _ _ _ _ _ _ _ _ ?_
  unfold Ei
  refine AR (by omega) (Ce (fun h => Az ⟨?_, rfl⟩) (fun h => Az ⟨?_, rfl⟩))
  · rw [decide_eq_true (by omega)]
  · rw [decide_eq_false (by omega)]
theorem Ni {w : MW} {n : Int} {K : Bool → Hp → Prop} (hw : w.pn ≤ 4294967296) (h1 : 0 ≤ n ∧ n < w.pn → K true σ) (h2 : ¬ (0 ≤ n ∧ n < w.pn) → K false σ) : cl Try.prog (.func (.func Et) #[] #[]) #[w.v, .int .i64 n] σ fun v σ' => ∃ t : Bool, (v = .bool t ∧ K t σ') :=
  clB GM (R3 hw) (by by_cases h : 0 ≤ n ∧ n < w.pn <;> simp only [h] <;> first | exact h1 h | exact h2 h)
theorem Pm {w : MW} {r : Rdt} {b : Nat} {f : Nat × Nat} {rw : Bool} (hw : w.pn ≤ 4294967296) (hb : σ b = some (.cells #[.slice w.pA w.pn w.pc, .slice w.rA w.rn w.rc] 25 f, rw)) : Ae Try.prog IK #[rdV r, .pointer (some ⟨b, 0, none⟩)] σ fun v σ' => v = .bool (!decide (KH w.pn r)) ∧ σ' = σ := by
  refine GN _ _ _ _ _ _ _ _ ?_
  unfold CL
  have no : ¬ KH w.pn r → rt σ (fun v σ' => v = .bool (!decide (KH w.pn r)) ∧ σ' = σ) (.bool true) := fun h => Az ⟨by rw [decide_eq_false h]; rfl, rfl⟩
  have ld : ∀ {K : Bool → Hp → Prop} {n : Int}, (0 ≤ n ∧ n < w.pn → K true σ) → (¬ (0 ≤ n ∧ n < w.pn) → K false σ) → dr (some ⟨b, 0, none⟩) fun b1 o2 => ldS σ b1 o2 fun A3 l3 c3 => ldS σ b1 (o2 + 1) fun A4 l4 c4 => cl Try.prog (.func (.func Et) #[] #[]) #[.agg #[.slice A3 l3 c3, .slice A4 l4 c4], .int .i64 n] σ fun v σ' => ∃ t : Bool, (v = .bool t ∧ K t σ') := fun h1 h2 =>
    AS (DS hb rfl (DS hb rfl (Ni (w := w) hw h1 h2)))
  refine ld (fun h1 => BD ?_) (fun h1 => BE (no fun h => h1 h.1))
  refine ld (fun h2 => BD ?_) (fun h2 => BE (no fun h => h2 h.2.1))
  refine Ba (fun h3 => no fun h => h.2.2.1 h3) (fun h3 => ?_)
  refine Ce (fun h4 => BD ?_) (fun h4 => BE (no fun h => h4 h.2.2.2.1))
  refine Ce (fun h5 => BD ?_) (fun h5 => BE (no fun h => h5 h.2.2.2.2.1))
  refine Ce (fun h6 => Az ⟨?_, rfl⟩) (fun h6 => Az ⟨?_, rfl⟩)
  · rw [decide_eq_true ⟨h1, h2, h3, h4, h5, h6⟩]
  · rw [decide_eq_false fun h => h6 h.2.2.2.2.2]
def NW {α : Type} (p : α → Bool) (xs : List α) : Int := if xs.findIdx p < xs.length then (xs.findIdx p : Int) else -1
theorem Ro {α : Type} {p : α → Bool} {xs : List α} {k : Nat} (hk : k < xs.length) (h : p xs[k] = true) (hj : ∀ j, (h : j < xs.length) → j < k → p xs[j] = false) : NW p xs = k := by
  have : xs.findIdx p = k := (List.findIdx_eq hk).2 ⟨h, fun j hjk => hj j (by omega) hjk⟩
  unfold NW
  rw [this, if_pos hk]
theorem OZ {α : Type} {p : α → Bool} {xs : List α} (h : ∀ j, (h : j < xs.length) → p xs[j] = false) : NW p xs = -1 := by
  have : xs.findIdx p = xs.length := List.findIdx_eq_length.2 fun x hx => by
    obtain ⟨i, hi, rfl⟩ := List.getElem_of_mem hx
    exact h i hi
  unfold NW
  rw [this, if_neg (by omega)]
theorem Qn {α : Type} {p : α → Bool} {xs : List α} : decide (0 ≤ NW p xs) = xs.any p := by
  unfold NW
  split
  · rename_i h
    have : xs.any p = true := List.any_eq_true.2 ⟨_, List.getElem_mem h, List.findIdx_getElem⟩
    rw [this]
    simp
  · rename_i h
    have h1 : xs.findIdx p = xs.length := by have := List.findIdx_le_length (p := p) (xs := xs); omega
    have := List.findIdx_eq_length.1 h1
    simp
    intro x hx
    simp [this x hx]
def Dec {α : Type} (f : Value) (enc : α → Array Value) (p : α → Bool) (xs : List α) (σ : Hp) : Prop := ∀ a ∈ xs, ∀ K : Bool → Hp → Prop, K (p a) σ → cl Try.prog f (enc a) σ fun v σ' => ∃ t : Bool, (v = .bool t ∧ K t σ')
theorem Dec.of {α : Type} {g : FuncId} {caps : Array Value} {enc : α → Array Value} {p : α → Bool} {xs : List α} {σ : Hp} (he : Av Try.prog g = true) (h : ∀ a ∈ xs, Ae Try.prog g (Lf #[] (enc a) caps) σ fun u σ' => u = .bool (p a) ∧ σ' = σ) : Dec (.func (.func g) #[] caps) enc p xs σ :=
  fun a ha _ hk => Hh.func he ((h a ha).mono fun _ _ ⟨e1, e2⟩ => by subst e1; subst e2; exact ⟨_, rfl, hk⟩)
abbrev RS (r : Rdt) : Array Value := #[rdV r]
theorem Kd {A : Option Addr} {n c : Nat} {f : Value} {xs : List Rdt} {p : Rdt → Bool} (hx : RdS sR σ A n xs) (hl : xs.length ≤ 4294967296) (hf : Dec f RS p xs σ) :
    Ae Try.prog Dk #[.slice A n c, f] σ fun v σ' => v = .int .i64 (NW p xs) ∧ σ' = σ := by
  refine CN _ _ _ _ _ _ ?_
  unfold Bh
  refine Ag fun J hJ => ?_
  have hn := hx.lenR
  refine ⟨fun n i σ' => ∃ k : Nat, n = xs.length - k ∧ i = k ∧ k ≤ xs.length ∧ σ' = σ ∧ ∀ j, (h : j < xs.length) → j < k → p xs[j] = false, ⟨_, 0, rfl, rfl, by omega, rfl, fun j _ h => by omega⟩, ?_⟩
  rintro n i σ' ⟨k, rfl, rfl, hk, rfl, hj⟩ _
  refine Ba (fun hlt => ?_) (fun hlt => ?_)
  · have hkl : k < xs.length := by omega
    refine RT hx (by omega) (by simpa using hkl) ?_
    refine hf _ (List.getElem_mem (show (k : Int).toNat < xs.length by simpa using hkl)) _ ?_
    simp only [Int.toNat_natCast]
    refine Ib (fun h => Az ⟨?_, rfl⟩) (fun h => AR (by omega) (BC _ (by omega) ⟨k + 1, rfl, rfl, by omega, rfl, fun j h' hjk => ?_⟩))
    · rw [Ro hkl h hj]
    · rcases Nat.lt_or_ge j k with hlt | hge
      · exact hj j h' hlt
      · have : j = k := by omega
        subst this
        exact h
  · subst hJ
    intro _
    refine Az ⟨?_, rfl⟩
    rw [OZ fun j h => hj j h (by omega)]
theorem Hq {A : Option Addr} {n c : Nat} {f : Value} {xs : List Rdt} {p : Rdt → Bool} (hx : RdS sR σ A n xs) (hl : xs.length ≤ 4294967296) (hf : Dec f RS p xs σ) :
    Ae Try.prog CS #[.slice A n c, f] σ fun v σ' => v = .bool (xs.any p) ∧ σ' = σ := by
  refine Cw _ _ _ _ _ _ ?_
  unfold AX
  refine clI Cx (Kd hx hl hf) (Az ⟨?_, rfl⟩)
  rw [Qn]
theorem Q9 {w : MW} {m : Mp} (h : MIn σ w m) (hp : m.pk.length ≤ 4294967296) (hr : m.rs.length ≤ 4294967296) : Ae Try.prog FS #[w.v] σ fun v σ' => v = .int .i64 (eM m) ∧ σ' = σ := by
  refine Ht _ _ _ _ _ _ _ _ ?_
  unfold Dz
  intro b1 n1
  have s1 := Hp.Sub.ins (.cells #[.slice w.pA w.pn w.pc, .slice w.rA w.rn w.rc] 25 (0, 0)) n1
  have hb := Hp.ins_same σ b1 (.cells #[.slice w.pA w.pn w.pc, .slice w.rA w.rn w.rc] 25 (0, 0))
  have h' := h.up s1
  have e1 := h.pn
  have e2 := h.rn
  generalize σ.ins b1 (.cells #[.slice w.pA w.pn w.pc, .slice w.rA w.rn w.rc] 25 (0, 0)) = σ2 at s1 hb h' ⊢
  refine Ag fun J5 h5 => Ag fun J8 h8 => ?_
  have k5 : m.okB = true → J5 σ2 := fun ho => by
    rw [h5]
    intro _
    exact B3 s1 ⟨by unfold eM; rw [if_pos ho], rfl⟩
  have k8 : m.okB = false → J8 true σ2 := fun ho => by
    rw [h8]
    intro _
    exact Fh (B3 s1 ⟨by unfold eM; rw [ho]; rfl, rfl⟩)
  have bad : ¬ MpS m → m.okB = false := fun hn => by
    cases ho : m.okB
    · rfl
    · exact absurd (Mp.okB_iff.1 ho) hn
  refine DS hb rfl (Ce (fun h1 => BD ?_) (fun h1 => BE (k8 (bad fun hm => h1 (by have := hm.n; omega)))))
  refine DS hb rfl (Ba (fun h2 => k8 (bad fun hm => by have := hm.k; omega)) (fun h2 => ?_))
  refine DS hb rfl (clB B7 (Hq (p := fun r => !decide (KH w.pn r)) h'.r hr (Dec.of EW fun r _ => Pm (w := w) (by omega) hb)) ?_)
  rw [h8]
  intro _
  refine Ib (fun ha => ?_) (fun ha => k5 ?_)
  · refine B3 s1 ⟨?_, rfl⟩
    unfold eM
    rw [bad fun hm => ?_]
    · rfl
    · obtain ⟨r, hr1, hr2⟩ := List.any_eq_true.1 ha
      have := hm.r r hr1
      rw [e1] at hr2
      simp [this] at hr2
  · rw [Mp.okB_iff]
    refine ⟨by omega, by omega, fun r hr1 => ?_⟩
    have := List.any_eq_false.1 ha r hr1
    rw [e1] at this
    simpa using this
end
end Go.Proofs.Ytkdjkkimngeloaa
