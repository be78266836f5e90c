/- Trimmed by wip/trim.py to what this claim rests on. -/
import Derived.Test.YtkdjkkimngeloaaYVb1
import Derived.Test.YtkdjkkimngeloaaYC1
namespace Go.Proofs.Ytkdjkkimngeloaa
open Go.RowKit
instance {n : Nat} {r : Rdt} : Decidable (KS n r) := by unfold KS; infer_instance
def Mp.okB (m : Mp) : Bool := decide (1 ≤ m.pk.length ∧ m.pk.length ≤ 12) && decide (m.rs.length ≤ 30) && m.rs.all fun r => decide (KS m.pk.length r)
theorem Mp.okB_iff {m : Mp} : m.okB = true ↔ MpS m := by
  unfold Mp.okB
  simp only [Bool.and_eq_true, decide_eq_true_eq, List.all_eq_true]
  exact ⟨fun h => ⟨h.1.1, h.1.2, h.2⟩, fun h => ⟨⟨h.n, h.k⟩, h.r⟩⟩
def lrB (n : Nat) (l : Lry) : Bool := decide ((0 ≤ l.h ∧ l.h ≤ 1000) ∧ (0 ≤ l.w ∧ l.w ≤ 1000) ∧ (0 ≤ l.fr ∧ l.fr < n) ∧ (0 ≤ l.rdy ∧ l.rdy ≤ 2000) ∧ (1 ≤ l.dr ∧ l.dr ≤ 500) ∧ (1 ≤ l.rst ∧ l.rst ≤ 500))
theorem Ke {m : Mp} {l : Lry} : lrB m.pk.length l = true ↔ A0 m l := by
  unfold lrB
  rw [decide_eq_true_eq]
  exact ⟨fun h => ⟨h.1, h.2.1, h.2.2.1, h.2.2.2.1, h.2.2.2.2.1, h.2.2.2.2.2⟩, fun h => ⟨h.h, h.w, h.f, h.y, h.d, h.s⟩⟩
def eM (m : Mp) : Int := if m.okB = true then 0 else 90
def eL (m : Mp) (l : Lry) : Int := if lrB m.pk.length l = true then 0 else 91
def eC (m : Mp) (ls : List Lry) : Int := if m.okB = true then (if ls.all (lrB m.pk.length) = true then 0 else 91) else 90
def eT (m : Mp) (ls : List Lry) (t : Int) : Int := if m.okB = true then (if 8 < ls.length then 2 else if ls.all (lrB m.pk.length) = true then (if 0 ≤ t ∧ t < m.pk.length then 0 else 1) else 91) else 90
structure MW where
  pA : Option Addr
  pn : Nat
  pc : Nat
  rA : Option Addr
  rn : Nat
  rc : Nat
abbrev MW.v (w : MW) : Value := .agg #[.slice w.pA w.pn w.pc, .slice w.rA w.rn w.rc]
abbrev sR : List Sh := [.int .i64, .int .i64, .int .i64, .int .i64, .int .i64]
abbrev sL : List Sh := [.int .i64, .int .i64, .int .i64, .int .i64, .int .i64, .int .i64]
structure MIn (σ : Hp) (w : MW) (m : Mp) : Prop where
  p : RdS [.bool] σ w.pA w.pn m.pk
  r : RdS sR σ w.rA w.rn m.rs
theorem MIn.up {σ σ' : Hp} {w : MW} {m : Mp} (h : MIn σ w m) (hs : Hp.Sub σ σ') : MIn σ' w m := ⟨h.p.sub hs, h.r.sub hs⟩
theorem MIn.pn {σ : Hp} {w : MW} {m : Mp} (h : MIn σ w m) : w.pn = m.pk.length := h.p.lenB
theorem RdS.lenR {σ : Hp} {A : Option Addr} {n : Nat} {xs : List Rdt} (h : RdS sR σ A n xs) : n = xs.length := h.1
theorem MIn.rn {σ : Hp} {w : MW} {m : Mp} (h : MIn σ w m) : w.rn = m.rs.length := h.r.lenR
abbrev rdV (r : Rdt) : Value := .agg #[.int .i64 r.1, .int .i64 r.2.1, .int .i64 r.2.2.1, .int .i64 r.2.2.2.1, .int .i64 r.2.2.2.2]
abbrev LrT := Int × Int × Int × Int × Int × Int
abbrev Lry.t (l : Lry) : LrT := (l.h, l.w, l.fr, l.rdy, l.dr, l.rst)
abbrev Lry.v (l : Lry) : Value := .agg #[.int .i64 l.h, .int .i64 l.w, .int .i64 l.fr, .int .i64 l.rdy, .int .i64 l.dr, .int .i64 l.rst]
def DG (t : LrT) : Lry := ⟨t.1, t.2.1, t.2.2.1, t.2.2.2.1, t.2.2.2.2.1, t.2.2.2.2.2⟩
theorem RdS.lenL {σ : Hp} {A : Option Addr} {n : Nat} {xs : List LrT} (h : RdS sL σ A n xs) : n = xs.length := h.1
section
variable {σ : Hp}
theorem Qb {A : Option Addr} {n : Nat} {xs : List Rdt} {i : Int} {K : Int → Int → Int → Int → Int → Prop} (h : RdS sR σ A n xs) (hi : 0 ≤ i) (hn : i.toNat < xs.length) (hk : K xs[i.toNat].1 xs[i.toNat].2.1 xs[i.toNat].2.2.1 xs[i.toNat].2.2.2.1 xs[i.toNat].2.2.2.2) :
    ix A n i 5 fun b a => ldI σ .i64 b a fun x1 => ldI σ .i64 b (a + 1) fun x2 => ldI σ .i64 b (a + 2) fun x3 => ldI σ .i64 b (a + 3) fun x4 => ldI σ .i64 b (a + 4) fun x5 => K x1 x2 x3 x4 x5 := by
  refine I5 (ss := sR) h rfl hi hn fun b o hc => ?_
  exact Bj (hc 0 (by decide)) (Bj (hc 1 (by decide)) (Bj (hc 2 (by decide)) (Bj (hc 3 (by decide)) (Bj (hc 4 (by decide)) hk))))
theorem QW {A : Option Addr} {n : Nat} {xs : List LrT} {i : Int} {K : Int → Int → Int → Int → Int → Int → Prop} (h : RdS sL σ A n xs) (hi : 0 ≤ i) (hn : i.toNat < xs.length) (hk : K xs[i.toNat].1 xs[i.toNat].2.1 xs[i.toNat].2.2.1 xs[i.toNat].2.2.2.1 xs[i.toNat].2.2.2.2.1 xs[i.toNat].2.2.2.2.2) :
    ix A n i 6 fun b a => ldI σ .i64 b a fun x1 => ldI σ .i64 b (a + 1) fun x2 => ldI σ .i64 b (a + 2) fun x3 => ldI σ .i64 b (a + 3) fun x4 => ldI σ .i64 b (a + 4) fun x5 => ldI σ .i64 b (a + 5) fun x6 => K x1 x2 x3 x4 x5 x6 := by
  refine I5 (ss := sL) h rfl hi hn fun b o hc => ?_
  exact Bj (hc 0 (by decide)) (Bj (hc 1 (by decide)) (Bj (hc 2 (by decide)) (Bj (hc 3 (by decide)) (Bj (hc 4 (by decide)) (Bj (hc 5 (by decide)) hk)))))
theorem OR {n lo hi : Int} : Ad Try.prog EX #[.int .i64 n, .int .i64 lo, .int .i64 hi] σ fun v σ' => v = .bool (decide (lo ≤ n ∧ n ≤ hi)) ∧ σ' = σ := by
  refine Gg _ _ _ _ _ ?_
  unfold CY
  refine Bn (fun h => AA ⟨?_, rfl⟩) (fun h => AA ⟨?_, rfl⟩)
  · simp [h]
  · simp [h]
theorem BW {n lo hi : Int} {K : Bool → Hp → Prop} (h1 : lo ≤ n ∧ n ≤ hi → K true σ) (h2 : ¬ (lo ≤ n ∧ n ≤ hi) → K false σ) : cl Try.prog (.func (.func EX) #[] #[]) #[.int .i64 n, .int .i64 lo, .int .i64 hi] σ fun v σ' => ∃ t : Bool, (v = .bool t ∧ K t σ') :=
  clB E7 OR (by by_cases h : lo ≤ n ∧ n ≤ hi <;> simp only [h] <;> first | exact h1 h | exact h2 h)
theorem QH {w : MW} {n : Int} (hw : w.pn ≤ 4294967296) : Ad Try.prog DV #[w.v, .int .i64 n] σ fun v σ' => v = .bool (decide (0 ≤ n ∧ n < w.pn)) ∧ σ' = σ := by
  refine Hv _ _ _ _ _ _ _ _ _ ?_
  unfold DX
  refine Bx (by omega) (BW (fun h => AA ⟨?_, rfl⟩) (fun h => AA ⟨?_, rfl⟩))
  · rw [decide_eq_true (by omega)]
  · rw [decide_eq_false (by omega)]
theorem Lx {w : MW} {n : Int} {K : Bool → Hp → Prop} (hw : w.pn ≤ 4294967296) (h1 : 0 ≤ n ∧ n < w.pn → K true σ) (h2 : ¬ (0 ≤ n ∧ n < w.pn) → K false σ) : cl Try.prog (.func (.func DV) #[] #[]) #[w.v, .int .i64 n] σ fun v σ' => ∃ t : Bool, (v = .bool t ∧ K t σ') :=
  clB FZ (QH hw) (by by_cases h : 0 ≤ n ∧ n < w.pn <;> simp only [h] <;> first | exact h1 h | exact h2 h)
theorem ND {w : MW} {r : Rdt} {b : Nat} {f : Nat × Nat} {rw : Bool} (hw : w.pn ≤ 4294967296) (hb : σ b = some (.cells #[.slice w.pA w.pn w.pc, .slice w.rA w.rn w.rc] 25 f, rw)) : Ad Try.prog HD #[rdV r, .pointer (some ⟨b, 0, none⟩)] σ fun v σ' => v = .bool (!decide (KS w.pn r)) ∧ σ' = σ := by
  refine F0 _ _ _ _ _ _ _ _ ?_
  unfold CE
  have no : ¬ KS w.pn r → rt σ (fun v σ' => v = .bool (!decide (KS w.pn r)) ∧ σ' = σ) (.bool true) := fun h => AA ⟨by rw [decide_eq_false h]; rfl, rfl⟩
  have ld : ∀ {K : Bool → Hp → Prop} {n : Int}, (0 ≤ n ∧ n < w.pn → K true σ) → (¬ (0 ≤ n ∧ n < w.pn) → K false σ) → dr (some ⟨b, 0, none⟩) fun b1 o2 => ldS σ b1 o2 fun A3 l3 c3 => ldS σ b1 (o2 + 1) fun A4 l4 c4 => cl Try.prog (.func (.func DV) #[] #[]) #[.agg #[.slice A3 l3 c3, .slice A4 l4 c4], .int .i64 n] σ fun v σ' => ∃ t : Bool, (v = .bool t ∧ K t σ') := fun h1 h2 =>
    AM (Ez hb rfl (Ez hb rfl (Lx (w := w) hw h1 h2)))
  refine ld (fun h1 => Dk ?_) (fun h1 => Dv (no fun h => h1 h.1))
  refine ld (fun h2 => Dk ?_) (fun h2 => Dv (no fun h => h2 h.2.1))
  refine Bn (fun h3 => no fun h => h.2.2.1 h3) (fun h3 => ?_)
  refine BW (fun h4 => Dk ?_) (fun h4 => Dv (no fun h => h4 h.2.2.2.1))
  refine BW (fun h5 => Dk ?_) (fun h5 => Dv (no fun h => h5 h.2.2.2.2.1))
  refine BW (fun h6 => AA ⟨?_, rfl⟩) (fun h6 => AA ⟨?_, rfl⟩)
  · rw [decide_eq_true ⟨h1, h2, h3, h4, h5, h6⟩]
  · rw [decide_eq_false fun h => h6 h.2.2.2.2.2]
def LG {α : Type} (p : α → Bool) (xs : List α) : Int := if xs.findIdx p < xs.length then (xs.findIdx p : Int) else -1
theorem PY {α : Type} {p : α → Bool} {xs : List α} {k : Nat} (hk : k < xs.length) (h : p xs[k] = true) (hj : ∀ j, (h : j < xs.length) → j < k → p xs[j] = false) : LG p xs = k := by
  have : xs.findIdx p = k := (List.findIdx_eq hk).2 ⟨h, fun j hjk => hj j (by omega) hjk⟩
  unfold LG
  rw [this, if_pos hk]
theorem Nk {α : Type} {p : α → Bool} {xs : List α} (h : ∀ j, (h : j < xs.length) → p xs[j] = false) : LG p xs = -1 := by
  have : xs.findIdx p = xs.length := List.findIdx_eq_length.2 fun x hx => by
    obtain ⟨i, hi, rfl⟩ := List.getElem_of_mem hx
    exact h i hi
  unfold LG
  rw [this, if_neg (by omega)]
theorem NV {α : Type} {p : α → Bool} {xs : List α} : decide (0 ≤ LG p xs) = xs.any p := by
  unfold LG
  split
  · rename_i h
    have : xs.any p = true := List.any_eq_true.2 ⟨_, List.getElem_mem h, List.findIdx_getElem⟩
    rw [this]
    simp
  · rename_i h
    have h1 : xs.findIdx p = xs.length := by have := List.findIdx_le_length (p := p) (xs := xs); omega
    have := List.findIdx_eq_length.1 h1
    simp
    intro x hx
    simp [this x hx]
def Dec {α : Type} (f : Value) (enc : α → Array Value) (p : α → Bool) (xs : List α) (σ : Hp) : Prop := ∀ a ∈ xs, ∀ K : Bool → Hp → Prop, K (p a) σ → cl Try.prog f (enc a) σ fun v σ' => ∃ t : Bool, (v = .bool t ∧ K t σ')
theorem Dec.of {α : Type} {g : FuncId} {caps : Array Value} {enc : α → Array Value} {p : α → Bool} {xs : List α} {σ : Hp} (he : As Try.prog g = true) (h : ∀ a ∈ xs, Ad Try.prog g (JQ #[] (enc a) caps) σ fun u σ' => u = .bool (p a) ∧ σ' = σ) : Dec (.func (.func g) #[] caps) enc p xs σ :=
  fun a ha _ hk => Gp.func he ((h a ha).mono fun _ _ ⟨e1, e2⟩ => by subst e1; subst e2; exact ⟨_, rfl, hk⟩)
abbrev Qc (r : Rdt) : Array Value := #[rdV r]
theorem Iv {A : Option Addr} {n c : Nat} {f : Value} {xs : List Rdt} {p : Rdt → Bool} (hx : RdS sR σ A n xs) (hl : xs.length ≤ 4294967296) (hf : Dec f Qc p xs σ) :
    Ad Try.prog C7 #[.slice A n c, f] σ fun v σ' => v = .int .i64 (LG p xs) ∧ σ' = σ := by
  refine CF _ _ _ _ _ _ ?_
  unfold AY
  refine Ai fun J hJ => ?_
  have hn := hx.lenR
  refine ⟨fun n i σ' => ∃ k : Nat, n = xs.length - k ∧ i = k ∧ k ≤ xs.length ∧ σ' = σ ∧ ∀ j, (h : j < xs.length) → j < k → p xs[j] = false, ⟨_, 0, rfl, rfl, by omega, rfl, fun j _ h => by omega⟩, ?_⟩
  rintro n i σ' ⟨k, rfl, rfl, hk, rfl, hj⟩ _
  refine Bn (fun hlt => ?_) (fun hlt => ?_)
  · have hkl : k < xs.length := by omega
    refine Qb hx (by omega) (by simpa using hkl) ?_
    refine hf _ (List.getElem_mem (show (k : Int).toNat < xs.length by simpa using hkl)) _ ?_
    simp only [Int.toNat_natCast]
    refine Kw (fun h => AA ⟨?_, rfl⟩) (fun h => Bx (by omega) (CN _ (by omega) ⟨k + 1, rfl, rfl, by omega, rfl, fun j h' hjk => ?_⟩))
    · rw [PY hkl h hj]
    · rcases Nat.lt_or_ge j k with hlt | hge
      · exact hj j h' hlt
      · have : j = k := by omega
        subst this
        exact h
  · subst hJ
    intro _
    refine AA ⟨?_, rfl⟩
    rw [Nk fun j h => hj j h (by omega)]
theorem GE {A : Option Addr} {n c : Nat} {f : Value} {xs : List Rdt} {p : Rdt → Bool} (hx : RdS sR σ A n xs) (hl : xs.length ≤ 4294967296) (hf : Dec f Qc p xs σ) :
    Ad Try.prog CG #[.slice A n c, f] σ fun v σ' => v = .bool (xs.any p) ∧ σ' = σ := by
  refine Ck _ _ _ _ _ _ ?_
  unfold AN
  refine clI Cj (Iv hx hl hf) (AA ⟨?_, rfl⟩)
  rw [NV]
theorem P2 {w : MW} {m : Mp} (h : MIn σ w m) (hp : m.pk.length ≤ 4294967296) (hr : m.rs.length ≤ 4294967296) : Ad Try.prog Fs #[w.v] σ fun v σ' => v = .int .i64 (eM m) ∧ σ' = σ := by
  refine G8 _ _ _ _ _ _ _ _ ?_
  unfold Dp
  intro b1 n1
  have s1 := Hp.Sub.ins (.cells #[.slice w.pA w.pn w.pc, .slice w.rA w.rn w.rc] 25 (0, 0)) n1
  have hb := Hp.ins_same σ b1 (.cells #[.slice w.pA w.pn w.pc, .slice w.rA w.rn w.rc] 25 (0, 0))
  have h' := h.up s1
  have e1 := h.pn
  have e2 := h.rn
  generalize σ.ins b1 (.cells #[.slice w.pA w.pn w.pc, .slice w.rA w.rn w.rc] 25 (0, 0)) = σ2 at s1 hb h' ⊢
  refine Ai fun J5 h5 => Ai fun J8 h8 => ?_
  have k5 : m.okB = true → J5 σ2 := fun ho => by
    rw [h5]
    intro _
    exact BJ s1 ⟨by unfold eM; rw [if_pos ho], rfl⟩
  have k8 : m.okB = false → J8 true σ2 := fun ho => by
    rw [h8]
    intro _
    exact Gm (BJ s1 ⟨by unfold eM; rw [ho]; rfl, rfl⟩)
  have bad : ¬ MpS m → m.okB = false := fun hn => by
    cases ho : m.okB
    · rfl
    · exact absurd (Mp.okB_iff.1 ho) hn
  refine Ez hb rfl (BW (fun h1 => Dk ?_) (fun h1 => Dv (k8 (bad fun hm => h1 (by have := hm.n; omega)))))
  refine Ez hb rfl (Bn (fun h2 => k8 (bad fun hm => by have := hm.k; omega)) (fun h2 => ?_))
  refine Ez hb rfl (clB BT (GE (p := fun r => !decide (KS w.pn r)) h'.r hr (Dec.of ES fun r _ => ND (w := w) (by omega) hb)) ?_)
  rw [h8]
  intro _
  refine Kw (fun ha => ?_) (fun ha => k5 ?_)
  · refine BJ s1 ⟨?_, rfl⟩
    unfold eM
    rw [bad fun hm => ?_]
    · rfl
    · obtain ⟨r, hr1, hr2⟩ := List.any_eq_true.1 ha
      have := hm.r r hr1
      rw [e1] at hr2
      simp [this] at hr2
  · rw [Mp.okB_iff]
    refine ⟨by omega, by omega, fun r hr1 => ?_⟩
    have := List.any_eq_false.1 ha r hr1
    rw [e1] at this
    simpa using this
end
end Go.Proofs.Ytkdjkkimngeloaa
