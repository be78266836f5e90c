/- Trimmed by wip/trim.py to what this claim rests on. -/
import Derived.Test.YtkdjkkimngeloaaXVb1
import Derived.Test.YtkdjkkimngeloaaXC1
namespace Go.Proofs.Ytkdjkkimngeloaa
open Go.RowKit
instance {n : Nat} {r : Rdt} : Decidable (Ni n r) := by unfold Ni; infer_instance
def Mp.okB (m : Mp) : Bool := decide (1 ≤ m.pk.length ∧ m.pk.length ≤ 12) && decide (m.rs.length ≤ 30) && m.rs.all fun r => decide (Ni m.pk.length r)
theorem Mp.okB_iff {m : Mp} : m.okB = true ↔ MpS m := by
  unfold Mp.okB
  simp only [Bool.and_eq_true, decide_eq_true_eq, List.all_eq_true]
  exact ⟨fun h => ⟨h.1.1, h.1.2, h.2⟩, fun h => ⟨⟨h.n, h.k⟩, h.r⟩⟩
def lrB (n : Nat) (l : Lry) : Bool := decide ((0 ≤ l.h ∧ l.h ≤ 1000) ∧ (0 ≤ l.w ∧ l.w ≤ 1000) ∧ (0 ≤ l.fr ∧ l.fr < n) ∧ (0 ≤ l.rdy ∧ l.rdy ≤ 2000) ∧ (1 ≤ l.dr ∧ l.dr ≤ 500) ∧ (1 ≤ l.rst ∧ l.rst ≤ 500))
theorem Jy {m : Mp} {l : Lry} : lrB m.pk.length l = true ↔ AZ m l := by
  unfold lrB
  rw [decide_eq_true_eq]
  exact ⟨fun h => ⟨h.1, h.2.1, h.2.2.1, h.2.2.2.1, h.2.2.2.2.1, h.2.2.2.2.2⟩, fun h => ⟨h.h, h.w, h.f, h.y, h.d, h.s⟩⟩
def eM (m : Mp) : Int := if m.okB = true then 0 else 90
def eL (m : Mp) (l : Lry) : Int := if lrB m.pk.length l = true then 0 else 91
def eC (m : Mp) (ls : List Lry) : Int := if m.okB = true then (if ls.all (lrB m.pk.length) = true then 0 else 91) else 90
def eT (m : Mp) (ls : List Lry) (t : Int) : Int := if m.okB = true then (if 8 < ls.length then 2 else if ls.all (lrB m.pk.length) = true then (if 0 ≤ t ∧ t < m.pk.length then 0 else 1) else 91) else 90
structure MW where
  pA : Option Addr
  pn : Nat
  pc : Nat
  rA : Option Addr
  rn : Nat
  rc : Nat
abbrev MW.v (w : MW) : Value := .agg #[.slice w.pA w.pn w.pc, .slice w.rA w.rn w.rc]
abbrev sR : List Sh := [.int .i64, .int .i64, .int .i64, .int .i64, .int .i64]
abbrev sL : List Sh := [.int .i64, .int .i64, .int .i64, .int .i64, .int .i64, .int .i64]
structure MIn (σ : Hp) (w : MW) (m : Mp) : Prop where
  p : RdS [.bool] σ w.pA w.pn m.pk
  r : RdS sR σ w.rA w.rn m.rs
theorem MIn.up {σ σ' : Hp} {w : MW} {m : Mp} (h : MIn σ w m) (hs : Hp.Sub σ σ') : MIn σ' w m := ⟨h.p.sub hs, h.r.sub hs⟩
theorem MIn.pn {σ : Hp} {w : MW} {m : Mp} (h : MIn σ w m) : w.pn = m.pk.length := h.p.lenB
theorem RdS.lenR {σ : Hp} {A : Option Addr} {n : Nat} {xs : List Rdt} (h : RdS sR σ A n xs) : n = xs.length := h.1
theorem MIn.rn {σ : Hp} {w : MW} {m : Mp} (h : MIn σ w m) : w.rn = m.rs.length := h.r.lenR
abbrev rdV (r : Rdt) : Value := .agg #[.int .i64 r.1, .int .i64 r.2.1, .int .i64 r.2.2.1, .int .i64 r.2.2.2.1, .int .i64 r.2.2.2.2]
abbrev LrT := Int × Int × Int × Int × Int × Int
abbrev Lry.t (l : Lry) : LrT := (l.h, l.w, l.fr, l.rdy, l.dr, l.rst)
abbrev Lry.v (l : Lry) : Value := .agg #[.int .i64 l.h, .int .i64 l.w, .int .i64 l.fr, .int .i64 l.rdy, .int .i64 l.dr, .int .i64 l.rst]
def AN (t : LrT) : Lry := ⟨t.1, t.2.1, t.2.2.1, t.2.2.2.1, t.2.2.2.2.1, t.2.2.2.2.2⟩
theorem RdS.lenL {σ : Hp} {A : Option Addr} {n : Nat} {xs : List LrT} (h : RdS sL σ A n xs) : n = xs.length := h.1
section
variable {σ : Hp}
theorem Sm {A : Option Addr} {n : Nat} {xs : List Rdt} {i : Int} {K : Int → Int → Int → Int → Int → Prop} (h : RdS sR σ A n xs) (hi : 0 ≤ i) (hn : i.toNat < xs.length) (hk : K xs[i.toNat].1 xs[i.toNat].2.1 xs[i.toNat].2.2.1 xs[i.toNat].2.2.2.1 xs[i.toNat].2.2.2.2) :
    ix A n i 5 fun b a => ldI σ .i64 b a fun x1 => ldI σ .i64 b (a + 1) fun x2 => ldI σ .i64 b (a + 2) fun x3 => ldI σ .i64 b (a + 3) fun x4 => ldI σ .i64 b (a + 4) fun x5 => K x1 x2 x3 x4 x5 := by
  refine Hd (ss := sR) h rfl hi hn fun b o hc => ?_
  exact BA (hc 0 (by decide)) (BA (hc 1 (by decide)) (BA (hc 2 (by decide)) (BA (hc 3 (by decide)) (BA (hc 4 (by decide)) hk))))
theorem Oi {A : Option Addr} {n : Nat} {xs : List LrT} {i : Int} {K : Int → Int → Int → Int → Int → Int → Prop} (h : RdS sL σ A n xs) (hi : 0 ≤ i) (hn : i.toNat < xs.length) (hk : K xs[i.toNat].1 xs[i.toNat].2.1 xs[i.toNat].2.2.1 xs[i.toNat].2.2.2.1 xs[i.toNat].2.2.2.2.1 xs[i.toNat].2.2.2.2.2) :
    ix A n i 6 fun b a => ldI σ .i64 b a fun x1 => ldI σ .i64 b (a + 1) fun x2 => ldI σ .i64 b (a + 2) fun x3 => ldI σ .i64 b (a + 3) fun x4 => ldI σ .i64 b (a + 4) fun x5 => ldI σ .i64 b (a + 5) fun x6 => K x1 x2 x3 x4 x5 x6 := by
  refine Hd (ss := sL) h rfl hi hn fun b o hc => ?_
  exact BA (hc 0 (by decide)) (BA (hc 1 (by decide)) (BA (hc 2 (by decide)) (BA (hc 3 (by decide)) (BA (hc 4 (by decide)) (BA (hc 5 (by decide)) hk)))))
theorem Rh {n lo hi : Int} : Af Try.prog FO #[.int .i64 n, .int .i64 lo, .int .i64 hi] σ fun v σ' => v = .bool (decide (lo ≤ n ∧ n ≤ hi)) ∧ σ' = σ := by
  refine Hz _ _ _ _ _ ?_
  unfold DC
  refine Bd (fun h => AC ⟨?_, rfl⟩) (fun h => AC ⟨?_, rfl⟩)
  · simp [h]
  · simp [h]
theorem BF {n lo hi : Int} {K : Bool → Hp → Prop} (h1 : lo ≤ n ∧ n ≤ hi → K true σ) (h2 : ¬ (lo ≤ n ∧ n ≤ hi) → K false σ) : cl Try.prog (.func (.func FO) #[] #[]) #[.int .i64 n, .int .i64 lo, .int .i64 hi] σ fun v σ' => ∃ t : Bool, (v = .bool t ∧ K t σ') :=
  clB F2 Rh (by by_cases h : lo ≤ n ∧ n ≤ hi <;> simp only [h] <;> first | exact h1 h | exact h2 h)
theorem SC {w : MW} {n : Int} (hw : w.pn ≤ 4294967296) : Af Try.prog EH #[w.v, .int .i64 n] σ fun v σ' => v = .bool (decide (0 ≤ n ∧ n < w.pn)) ∧ σ' = σ := by
  refine IC _ _ _ _ _ _ _ _ _ ?_
  unfold EA
  refine AT (by omega) (BF (fun h => AC ⟨?_, rfl⟩) (fun h => AC ⟨?_, rfl⟩))
  · rw [decide_eq_true (by omega)]
  · rw [decide_eq_false (by omega)]
theorem NF {w : MW} {n : Int} {K : Bool → Hp → Prop} (hw : w.pn ≤ 4294967296) (h1 : 0 ≤ n ∧ n < w.pn → K true σ) (h2 : ¬ (0 ≤ n ∧ n < w.pn) → K false σ) : cl Try.prog (.func (.func EH) #[] #[]) #[w.v, .int .i64 n] σ fun v σ' => ∃ t : Bool, (v = .bool t ∧ K t σ') :=
  clB GZ (SC hw) (by by_cases h : 0 ≤ n ∧ n < w.pn <;> simp only [h] <;> first | exact h1 h | exact h2 h)
theorem Pw {w : MW} {r : Rdt} {b : Nat} {f : Nat × Nat} {rw : Bool} (hw : w.pn ≤ 4294967296) (hb : σ b = some (.cells #[.slice w.pA w.pn w.pc, .slice w.rA w.rn w.rc] 25 f, rw)) : Af Try.prog I3 #[rdV r, .pointer (some ⟨b, 0, none⟩)] σ fun v σ' => v = .bool (!decide (Ni w.pn r)) ∧ σ' = σ := by
  refine GW _ _ _ _ _ _ _ _ ?_
  unfold C6
  have no : ¬ Ni w.pn r → rt σ (fun v σ' => v = .bool (!decide (Ni w.pn r)) ∧ σ' = σ) (.bool true) := fun h => AC ⟨by rw [decide_eq_false h]; rfl, rfl⟩
  have ld : ∀ {K : Bool → Hp → Prop} {n : Int}, (0 ≤ n ∧ n < w.pn → K true σ) → (¬ (0 ≤ n ∧ n < w.pn) → K false σ) → dr (some ⟨b, 0, none⟩) fun b1 o2 => ldS σ b1 o2 fun A3 l3 c3 => ldS σ b1 (o2 + 1) fun A4 l4 c4 => cl Try.prog (.func (.func EH) #[] #[]) #[.agg #[.slice A3 l3 c3, .slice A4 l4 c4], .int .i64 n] σ fun v σ' => ∃ t : Bool, (v = .bool t ∧ K t σ') := fun h1 h2 =>
    AP (DK hb rfl (DK hb rfl (NF (w := w) hw h1 h2)))
  refine ld (fun h1 => CX ?_) (fun h1 => C1 (no fun h => h1 h.1))
  refine ld (fun h2 => CX ?_) (fun h2 => C1 (no fun h => h2 h.2.1))
  refine Bd (fun h3 => no fun h => h.2.2.1 h3) (fun h3 => ?_)
  refine BF (fun h4 => CX ?_) (fun h4 => C1 (no fun h => h4 h.2.2.2.1))
  refine BF (fun h5 => CX ?_) (fun h5 => C1 (no fun h => h5 h.2.2.2.2.1))
  refine BF (fun h6 => AC ⟨?_, rfl⟩) (fun h6 => AC ⟨?_, rfl⟩)
  · rw [decide_eq_true ⟨h1, h2, h3, h4, h5, h6⟩]
  · rw [decide_eq_false fun h => h6 h.2.2.2.2.2]
def KQ {α : Type} (p : α → Bool) (xs : List α) : Int := if xs.findIdx p < xs.length then (xs.findIdx p : Int) else -1
theorem Ov {α : Type} {p : α → Bool} {xs : List α} {k : Nat} (hk : k < xs.length) (h : p xs[k] = true) (hj : ∀ j, (h : j < xs.length) → j < k → p xs[j] = false) : KQ p xs = k := by
  have : xs.findIdx p = k := (List.findIdx_eq hk).2 ⟨h, fun j hjk => hj j (by omega) hjk⟩
  unfold KQ
  rw [this, if_pos hk]
theorem I2 {α : Type} {p : α → Bool} {xs : List α} (h : ∀ j, (h : j < xs.length) → p xs[j] = false) : KQ p xs = -1 := by
  have : xs.findIdx p = xs.length := List.findIdx_eq_length.2 fun x hx => by
    obtain ⟨i, hi, rfl⟩ := List.getElem_of_mem hx
    exact h i hi
  unfold KQ
  rw [this, if_neg (by omega)]
theorem Mi {α : Type} {p : α → Bool} {xs : List α} : decide (0 ≤ KQ p xs) = xs.any p := by
  unfold KQ
  split
  · rename_i h
    have : xs.any p = true := List.any_eq_true.2 ⟨_, List.getElem_mem h, List.findIdx_getElem⟩
    rw [this]
    simp
  · rename_i h
    have h1 : xs.findIdx p = xs.length := by have := List.findIdx_le_length (p := p) (xs := xs); omega
    have := List.findIdx_eq_length.1 h1
    simp
    intro x hx
    simp [this x hx]
def Dec {α : Type} (f : Value) (enc : α → Array Value) (p : α → Bool) (xs : List α) (σ : Hp) : Prop := ∀ a ∈ xs, ∀ K : Bool → Hp → Prop, K (p a) σ → cl Try.prog f (enc a) σ fun v σ' => ∃ t : Bool, (v = .bool t ∧ K t σ')
theorem Dec.of {α : Type} {g : FuncId} {caps : Array Value} {enc : α → Array Value} {p : α → Bool} {xs : List α} {σ : Hp} (he : AA Try.prog g = true) (h : ∀ a ∈ xs, Af Try.prog g (Ll #[] (enc a) caps) σ fun u σ' => u = .bool (p a) ∧ σ' = σ) : Dec (.func (.func g) #[] caps) enc p xs σ :=
  fun a ha _ hk => Hj.func he ((h a ha).mono fun _ _ ⟨e1, e2⟩ => by subst e1; subst e2; exact ⟨_, rfl, hk⟩)
abbrev Sp (r : Rdt) : Array Value := #[rdV r]
theorem KC {A : Option Addr} {n c : Nat} {f : Value} {xs : List Rdt} {p : Rdt → Bool} (hx : RdS sR σ A n xs) (hl : xs.length ≤ 4294967296) (hf : Dec f Sp p xs σ) :
    Af Try.prog DG #[.slice A n c, f] σ fun v σ' => v = .int .i64 (KQ p xs) ∧ σ' = σ := by
  refine Db _ _ _ _ _ _ ?_
  unfold Bp
  refine Ag fun J hJ => ?_
  have hn := hx.lenR
  refine ⟨fun n i σ' => ∃ k : Nat, n = xs.length - k ∧ i = k ∧ k ≤ xs.length ∧ σ' = σ ∧ ∀ j, (h : j < xs.length) → j < k → p xs[j] = false, ⟨_, 0, rfl, rfl, by omega, rfl, fun j _ h => by omega⟩, ?_⟩
  rintro n i σ' ⟨k, rfl, rfl, hk, rfl, hj⟩ _
  refine Bd (fun hlt => ?_) (fun hlt => ?_)
  · have hkl : k < xs.length := by omega
    refine Sm hx (by omega) (by simpa using hkl) ?_
    refine hf _ (List.getElem_mem (show (k : Int).toNat < xs.length by simpa using hkl)) _ ?_
    simp only [Int.toNat_natCast]
    refine IU (fun h => AC ⟨?_, rfl⟩) (fun h => AT (by omega) (BP _ (by omega) ⟨k + 1, rfl, rfl, by omega, rfl, fun j h' hjk => ?_⟩))
    · rw [Ov hkl h hj]
    · rcases Nat.lt_or_ge j k with hlt | hge
      · exact hj j h' hlt
      · have : j = k := by omega
        subst this
        exact h
  · subst hJ
    intro _
    refine AC ⟨?_, rfl⟩
    rw [I2 fun j h => hj j h (by omega)]
theorem HV {A : Option Addr} {n c : Nat} {f : Value} {xs : List Rdt} {p : Rdt → Bool} (hx : RdS sR σ A n xs) (hl : xs.length ≤ 4294967296) (hf : Dec f Sp p xs σ) :
    Af Try.prog Dc #[.slice A n c, f] σ fun v σ' => v = .bool (xs.any p) ∧ σ' = σ := by
  refine CF _ _ _ _ _ _ ?_
  unfold Bb
  refine clI CE (KC hx hl hf) (AC ⟨?_, rfl⟩)
  rw [Mi]
theorem RJ {w : MW} {m : Mp} (h : MIn σ w m) (hp : m.pk.length ≤ 4294967296) (hr : m.rs.length ≤ 4294967296) : Af Try.prog Gd #[w.v] σ fun v σ' => v = .int .i64 (eM m) ∧ σ' = σ := by
  refine Ic _ _ _ _ _ _ _ _ ?_
  unfold D8
  intro b1 n1
  have s1 := Hp.Sub.ins (.cells #[.slice w.pA w.pn w.pc, .slice w.rA w.rn w.rc] 25 (0, 0)) n1
  have hb := Hp.ins_same σ b1 (.cells #[.slice w.pA w.pn w.pc, .slice w.rA w.rn w.rc] 25 (0, 0))
  have h' := h.up s1
  have e1 := h.pn
  have e2 := h.rn
  generalize σ.ins b1 (.cells #[.slice w.pA w.pn w.pc, .slice w.rA w.rn w.rc] 25 (0, 0)) = σ2 at s1 hb h' ⊢
  refine Ag fun J5 h5 => Ag fun J8 h8 => ?_
  have k5 : m.okB = true → J5 σ2 := fun ho => by
    rw [h5]
    intro _
    exact BN s1 ⟨by unfold eM; rw [if_pos ho], rfl⟩
  have k8 : m.okB = false → J8 true σ2 := fun ho => by
    rw [h8]
    intro _
    exact Hu (BN s1 ⟨by unfold eM; rw [ho]; rfl, rfl⟩)
  have bad : ¬ MpS m → m.okB = false := fun hn => by
    cases ho : m.okB
    · rfl
    · exact absurd (Mp.okB_iff.1 ho) hn
  refine DK hb rfl (BF (fun h1 => CX ?_) (fun h1 => C1 (k8 (bad fun hm => h1 (by have := hm.n; omega)))))
  refine DK hb rfl (Bd (fun h2 => k8 (bad fun hm => by have := hm.k; omega)) (fun h2 => ?_))
  refine DK hb rfl (clB Cg (HV (p := fun r => !decide (Ni w.pn r)) h'.r hr (Dec.of Fy fun r _ => Pw (w := w) (by omega) hb)) ?_)
  rw [h8]
  intro _
  refine IU (fun ha => ?_) (fun ha => k5 ?_)
  · refine BN s1 ⟨?_, rfl⟩
    unfold eM
    rw [bad fun hm => ?_]
    · rfl
    · obtain ⟨r, hr1, hr2⟩ := List.any_eq_true.1 ha
      have := hm.r r hr1
      rw [e1] at hr2
      simp [this] at hr2
  · rw [Mp.okB_iff]
    refine ⟨by omega, by omega, fun r hr1 => ?_⟩
    have := List.any_eq_false.1 ha r hr1
    rw [e1] at this
    simpa using this
end
end Go.Proofs.Ytkdjkkimngeloaa
namespace Go.Proofs.Ytkdjkkimngeloaa
open Go.RowKit
section
variable {σ : Hp}
theorem SS {r : Rdt} {l : Lry} : Af Try.prog Dk #[rdV r, l.v] σ fun v σ' => v = .bool (decide (Gp l r)) ∧ σ' = σ := by
  refine Ix _ _ _ _ _ _ _ _ _ _ _ _ _ ?_
  unfold EM Gp
  refine Bd (fun h => AC ⟨?_, rfl⟩) (fun h => AC ⟨?_, rfl⟩)
  · simp [h]
  · simp [h]
theorem P3 {r : Rdt} {l : Lry} {K : Bool → Hp → Prop} (h1 : Gp l r → K true σ) (h2 : ¬ Gp l r → K false σ) : cl Try.prog (.func (.func Dk) #[] #[]) #[rdV r, l.v] σ fun v σ' => ∃ t : Bool, (v = .bool t ∧ K t σ') :=
  clB G1 SS (by by_cases h : Gp l r <;> simp only [h] <;> first | exact h1 h | exact h2 h)
theorem OQ {w : MW} {m : Mp} {K : Int → Hp → Prop} (h : MIn σ w m) (hp : m.pk.length ≤ 4294967296) (hr : m.rs.length ≤ 4294967296) (h1 : MpS m → K 0 σ) (h2 : ¬ MpS m → K 90 σ) : cl Try.prog (.func (.func Gd) #[] #[]) #[w.v] σ fun v σ' => ∃ t : Int, (v = .int .i64 t ∧ K t σ') :=
  clI F7 (RJ h hp hr) (by
    unfold eM
    by_cases c : m.okB = true
    · rw [if_pos c]; exact h1 (Mp.okB_iff.1 c)
    · rw [if_neg c]; exact h2 fun h => c (Mp.okB_iff.2 h))
theorem OC {w : MW} {m : Mp} {A : Option Addr} {n c : Nat} {ls : List LrT} (h : MIn σ w m) (hp : m.pk.length ≤ 4294967296) (hr : m.rs.length ≤ 4294967296) (hl : RdS sL σ A n ls) (hll : ls.length ≤ 4294967296) :
    Af Try.prog GC #[w.v, .slice A n c] σ fun v σ' => v = .int .i64 (eC m (ls.map AN)) ∧ σ' = σ := by
  refine HT _ _ _ _ _ _ _ _ _ _ _ ?_
  unfold DT
  have hpn := h.pn
  have hn := hl.lenL
  refine OQ h hp hr (fun hm => Bu (fun h => absurd rfl h) (fun _ => ?_)) (fun hm => Bu (fun _ => AC ⟨?_, rfl⟩) (fun h => absurd h (by decide)))
  · have ho := Mp.okB_iff.2 hm
    refine Ag fun J6 h6 => ?_
    refine ⟨fun q i τ => ∃ k : Nat, q = ls.length - k ∧ i = k ∧ k ≤ ls.length ∧ τ = σ ∧ ∀ j, (h : j < ls.length) → j < k → lrB m.pk.length (AN ls[j]) = true, ⟨_, 0, rfl, rfl, by omega, rfl, fun j _ h => by omega⟩, ?_⟩
    rintro q i τ ⟨k, rfl, rfl, hk, rfl, hj⟩ _
    refine Bd (fun hlt => ?_) (fun hge => ?_)
    · have hkl : k < ls.length := by omega
      refine Ag fun J14 h14 => ?_
      refine Oi hl (by omega) (by simpa using hkl) ?_
      simp only [Int.toNat_natCast]
      refine Ag fun J28 h28 => ?_
      have bad : lrB m.pk.length (AN ls[k]) = false → J28 true τ := fun hb => by
        rw [h28]
        intro _
        refine Hu (AC ⟨?_, rfl⟩)
        unfold eC
        rw [if_pos ho, if_neg]
        intro ha
        have := List.all_eq_true.1 ha (AN ls[k]) (List.mem_map_of_mem (List.getElem_mem hkl))
        rw [hb] at this
        cases this
      have ne : (¬ ((0 ≤ (AN ls[k]).h ∧ (AN ls[k]).h ≤ 1000) ∧ (0 ≤ (AN ls[k]).w ∧ (AN ls[k]).w ≤ 1000) ∧ (0 ≤ (AN ls[k]).fr ∧ (AN ls[k]).fr < m.pk.length) ∧ (0 ≤ (AN ls[k]).rdy ∧ (AN ls[k]).rdy ≤ 2000) ∧ (1 ≤ (AN ls[k]).dr ∧ (AN ls[k]).dr ≤ 500) ∧ (1 ≤ (AN ls[k]).rst ∧ (AN ls[k]).rst ≤ 500))) → J28 true τ := fun hb => bad (by unfold lrB; rw [decide_eq_false hb])
      refine BF (fun g1 => CX ?_) (fun g1 => C1 (ne fun g => g1 g.1))
      refine BF (fun g2 => CX ?_) (fun g2 => C1 (ne fun g => g2 g.2.1))
      refine NF (w := w) (by omega) (fun g3 => CX ?_) (fun g3 => C1 (ne fun g => g3 ⟨g.2.2.1.1, by have := g.2.2.1.2; rw [hpn]; exact this⟩))
      refine BF (fun g4 => CX ?_) (fun g4 => C1 (ne fun g => g4 g.2.2.2.1))
      refine BF (fun g5 => CX ?_) (fun g5 => C1 (ne fun g => g5 g.2.2.2.2.1))
      refine BF (fun g6 => ?_) (fun g6 => ne fun g => g6 g.2.2.2.2.2)
      rw [h28]
      intro _
      refine FC ?_
      rw [h14]
      intro _
      refine AT (by omega) (BP _ (by omega) ⟨k + 1, rfl, rfl, by omega, rfl, fun j h' hjk => ?_⟩)
      rcases Nat.lt_or_ge j k with hlt | hge
      · exact hj j h' hlt
      · obtain rfl : j = k := by omega
        unfold lrB
        rw [decide_eq_true]
        exact ⟨g1, g2, ⟨g3.1, by have := g3.2; rw [hpn] at this; exact this⟩, g4, g5, g6⟩
    · subst h6
      intro _
      refine AC ⟨?_, rfl⟩
      unfold eC
      rw [if_pos ho, if_pos]
      refine List.all_eq_true.2 fun x hx => ?_
      obtain ⟨y, hy, rfl⟩ := List.mem_map.1 hx
      obtain ⟨j, hjl, rfl⟩ := List.mem_iff_getElem.1 hy
      exact hj j hjl (by omega)
  · unfold eC
    rw [if_neg fun h => hm (Mp.okB_iff.1 h)]
theorem P1 {w : MW} {m : Mp} {l : Lry} {e : TypeId} {A : Option Addr} {n c : Nat} {σ2 : Hp} {K : Int → Hp → Prop} (h : MIn σ w m) (hp : m.pk.length ≤ 4294967296) (hr : m.rs.length ≤ 4294967296) (ho : Ap e sL σ A n c [l.t] σ2)
    (h1 : MpS m → AZ m l → eC m [l] = 0 → K 0 σ2) (h2 : ¬ eC m [l] = 0 → K (eC m [l]) σ2) : cl Try.prog (.func (.func GC) #[] #[]) #[w.v, .slice A n c] σ2 fun v σ' => ∃ t : Int, (v = .int .i64 t ∧ K t σ') := by
  refine clI Dq (OC (h.up ho.sub) hp hr ho.rd (show (1 : Nat) ≤ _ by decide)) ?_
  show K (eC m [l]) σ2
  by_cases c1 : m.okB = true
  · by_cases c2 : lrB m.pk.length l = true
    · have e0 : eC m [l] = 0 := by unfold eC; rw [if_pos c1, if_pos (by simp [c2])]
      rw [e0]
      exact h1 (Mp.okB_iff.1 c1) (Jy.1 c2) e0
    · have e0 : eC m [l] = 91 := by unfold eC; rw [if_pos c1, if_neg (by simp [c2])]
      exact h2 (by rw [e0]; decide)
  · have e0 : eC m [l] = 90 := by unfold eC; rw [if_neg c1]
    exact h2 (by rw [e0]; decide)
def D7 (m : Mp) (x : Leg) : Bool := !decide ((0 ≤ x.1 ∧ x.1 < m.rs.length) ∧ (0 ≤ x.2 ∧ x.2 ≤ 100000))
def wlk (m : Mp) (l : Lry) : Std → Int → List Leg → Int × Int × Int × Int
  | s, _, [] => (s.tn, s.sn, 0, 0)
  | s, i, x :: j => match go1 m l s x with
    | some s1 => wlk m l s1 (i + 1) j
    | none => (0, 0, i, 92)
def jrn (m : Mp) (l : Lry) (j : List Leg) : Int × Int × Int × Int := if 60 < j.length then (0, 0, 0, 2) else if 0 ≤ KQ (D7 m) j then (0, 0, KQ (D7 m) j, 1) else wlk m l (bgn l) 0 j
abbrev qV (q : Int × Int × Int × Int) : Value := .tuple #[.int .i64 q.1, .int .i64 q.2.1, .int .i64 q.2.2.1, .int .i64 q.2.2.2]
abbrev sJ : List Sh := [.int .i64, .int .i64]
theorem RdS.lenJ {A : Option Addr} {n : Nat} {xs : List Leg} (h : RdS sJ σ A n xs) : n = xs.length := h.1
theorem Sg {A : Option Addr} {n : Nat} {xs : List Leg} {i : Int} {K : Int → Int → Prop} (h : RdS sJ σ A n xs) (hi : 0 ≤ i) (hn : i.toNat < xs.length) (hk : K xs[i.toNat].1 xs[i.toNat].2) :
    ix A n i 2 fun b a => ldI σ .i64 b a fun x1 => ldI σ .i64 b (a + 1) fun x2 => K x1 x2 := by
  refine Hd (ss := sJ) h rfl hi hn fun b o hc => ?_
  exact BA (hc 0 (by decide)) (BA (hc 1 (by decide)) hk)
theorem Oh {A : Option Addr} {n : Nat} {xs : List Bool} {i : Int} {K : Bool → Prop} (h : RdS [.bool] σ A n xs) (hi : 0 ≤ i) (hn : i < xs.length) (hk : K (gbp xs i)) : ix A n i 1 fun b a => ldB σ b a K := by
  refine Sx h hi (by omega) ?_
  have hk' : i.toNat < xs.length := by omega
  have e : gbp xs i = xs[i.toNat] := by unfold gbp; simp [List.getD, hk']
  rw [← e]
  exact hk
end
end Go.Proofs.Ytkdjkkimngeloaa
namespace Go.Proofs.Ytkdjkkimngeloaa
open Go.RowKit
section
variable {σ : Hp}
abbrev bx2 (b : Nat) (x y : Int) : Rel := Blk b (.cells #[.int .i64 x, .int .i64 y] 132 (0, 0))
theorem bx2.ld0 {b : Nat} {x y : Int} {σ' : Hp} {K : Int → Prop} (h : bx2 b x y σ σ') (hk : K x) : ldI σ' .i64 b 0 K := Bq h.get rfl hk
theorem bx2.ld1 {b : Nat} {x y : Int} {σ' : Hp} {K : Int → Prop} (h : bx2 b x y σ σ') (hk : K y) : ldI σ' .i64 b (0 + 1) K := Bq h.get rfl hk
theorem bx2.st0 {b : Nat} {x y v : Int} {σ' : Hp} {K : Hp → Prop} (h : bx2 b x y σ σ') (hk : ∀ σ2, bx2 b v y σ σ2 → K σ2) : st σ' b 0 (.int .i64 v) K := by
  obtain ⟨w, h2, _⟩ := h.st (Hp.Sub.refl _) (k := 0) (show (0 : Nat) < 2 by omega) (.int .i64 v)
  exact ⟨w, hk _ h2⟩
theorem bx2.st1 {b : Nat} {x y v : Int} {σ' : Hp} {K : Hp → Prop} (h : bx2 b x y σ σ') (hk : ∀ σ2, bx2 b x v σ σ2 → K σ2) : st σ' b (0 + 1) (.int .i64 v) K := by
  obtain ⟨w, h2, _⟩ := h.st (Hp.Sub.refl _) (k := 1) (show (1 : Nat) < 2 by omega) (.int .i64 v)
  exact ⟨w, hk _ h2⟩
theorem Blk.sub {b : Nat} {o : Obj} {σ σ' : Hp} (h : Blk b o σ σ') : Hp.Sub σ σ' := by
  obtain ⟨h1, rfl⟩ := h
  exact Hp.Sub.ins _ h1
theorem N1 {A : Option Addr} {n : Nat} {xs : List Leg} {i : Int} {K : Int → Int → Prop} (h : RdS sJ σ A n xs) (hi : 0 ≤ i) (hn : i.toNat < xs.length) (hk : ∀ x : Leg, xs[i.toNat] = x → K x.1 x.2) :
    ix A n i 2 fun b a => ldI σ .i64 b a fun x1 => ldI σ .i64 b (a + 1) fun x2 => K x1 x2 := Sg h hi hn (hk _ rfl)
theorem Oc {A : Option Addr} {n : Nat} {xs : List Rdt} {i : Int} {K : Int → Int → Int → Int → Int → Prop} (h : RdS sR σ A n xs) (hi : 0 ≤ i) (hn : i.toNat < xs.length) (hk : ∀ r : Rdt, xs[i.toNat] = r → K r.1 r.2.1 r.2.2.1 r.2.2.2.1 r.2.2.2.2) :
    ix A n i 5 fun b a => ldI σ .i64 b a fun x1 => ldI σ .i64 b (a + 1) fun x2 => ldI σ .i64 b (a + 2) fun x3 => ldI σ .i64 b (a + 3) fun x4 => ldI σ .i64 b (a + 4) fun x5 => K x1 x2 x3 x4 x5 := Sm h hi hn (hk _ rfl)
theorem MF {m : Mp} {x : Leg} (h : D7 m x = false) : (0 ≤ x.1 ∧ x.1 < m.rs.length) ∧ (0 ≤ x.2 ∧ x.2 ≤ 100000) := by
  unfold D7 at h
  simpa using h
theorem LS {m : Mp} {i : Int} (h : i.toNat < m.rs.length) : AD m i = m.rs[i.toNat] := by unfold AD; simp [List.getD, h]
theorem PI {w : MW} {m : Mp} {l : Lry} {A : Option Addr} {n c : Nat} {j : List Leg} (h : MIn σ w m) (hm : BJ m) (hl : AZ m l) (hj : RdS sJ σ A n j) (hjl : j.length ≤ 4294967296) :
    Af Try.prog IQ #[w.v, l.v, .slice A n c] σ fun v σ' => v = qV (jrn m l j) ∧ σ' = σ := by
  refine G5 _ _ _ _ _ _ _ _ _ _ _ _ _ _ _ _ _ ?_
  unfold Dh
  have hn := hj.lenJ
  have hrn := h.rn
  have hpn := h.pn
  have hk30 := hm.k
  have hn12 := hm.n
  refine Bd (fun h60 => AC ⟨?_, rfl⟩) (fun h60 => ?_)
  · unfold jrn; rw [if_pos (by omega)]
  refine Ag fun J3 h3 => ?_
  have k3 : (∀ i (_ : i < j.length), D7 m j[i] = false) → J3 σ := by
    intro hgood
    have hjr : jrn m l j = wlk m l (bgn l) 0 j := by
      unfold jrn
      rw [if_neg (by omega), I2 hgood]
      rfl
    rw [h3]
    intro _
    refine Ag fun J6 h6 => ?_
    have k6 : ∀ b τ, bx2 b l.fr 0 σ τ → J6 (some ⟨b, 0, none⟩) l.rdy τ := by
      intro b τ hb
      rw [h6]
      intro _
      refine Ag fun J11 h11 => ?_
      refine ⟨fun q now i τ => ∃ (k : Nat) (s : Std), q = j.length - k ∧ i = k ∧ k ≤ j.length ∧ now = s.sn ∧ bx2 b s.tn s.dv σ τ ∧ wlk m l (bgn l) 0 j = wlk m l s k (j.drop k) ∧ LD m l s ∧ s.sn ≤ 200000, ⟨_, 0, bgn l, rfl, rfl, by omega, rfl, hb, by rfl, hl.bgn, by have := hl.y; show l.rdy ≤ 200000; omega⟩, ?_⟩
      clear hb τ
      rintro q now i τ ⟨k, s, rfl, rfl, hk, rfl, hb, hw, hs, hs2⟩ _
      have ht := hs.t
      have hd := hs.d
      have hsn := hs.n
      have hy := hl.y
      have hdr := hl.d
      have hrs := hl.s
      refine Bd (fun hlt => ?_) (fun hge => ?_)
      · have hkl : k < j.length := by omega
        obtain ⟨hx1, hx2⟩ := MF (hgood k hkl)
        have hdrop : j.drop k = j[k] :: j.drop (k + 1) := List.drop_eq_getElem_cons hkl
        refine Ag fun J24 h24 => ?_
        refine N1 (hj.sub hb.sub) (by omega) (by simpa using hkl) fun x hx => ?_
        simp only [Int.toNat_natCast] at hx
        rw [hx] at hx1 hx2 hdrop
        have hxk : x.1.toNat < m.rs.length := by omega
        have hrd := hm.rd (x := x) hx1
        refine Oc (h.up hb.sub).r hx1.1 hxk fun r hr => ?_
        rw [← LS hxk] at hr
        rw [hr] at hrd
        obtain ⟨⟨a0, a1⟩, ⟨b0, b1⟩, hab, ⟨g0, g1⟩, _⟩ := hrd
        refine Ag fun J42 h42 => Ag fun J79 h79 => ?_
        have bad : go1 m l s x = none → rt τ (fun v σ' => v = qV (jrn m l j) ∧ σ' = σ) (.tuple #[.int .i64 0, .int .i64 0, .int .i64 k, .int .i64 92]) := fun hg => by
          refine BN hb.sub ⟨?_, rfl⟩
          rw [hjr, hw, hdrop]
          show _ = qV (match go1 m l s x with | some s1 => wlk m l s1 (k + 1) (j.drop (k + 1)) | none => (0, 0, (k : Int), 92))
          rw [hg]
        have kbad : go1 m l s x = none → J79 true τ := fun hg => by
          rw [h79]
          intro _
          exact Hu (bad hg)
        have k42 : (s.tn = r.1 ∨ s.tn = r.2.1) → Gp l r → s.sn ≤ x.2 → J42 τ := by
          intro c1 c2 c3
          rw [h42]
          intro _
          refine Ag fun J45 h45 => Ag fun J65 h65 => ?_
          have k45 : ∀ τ d, bx2 b s.tn d σ τ → d = AW m l s x → J45 τ := by
            intro τ d hb e
            have hd1 : 0 ≤ d ∧ d ≤ 500 := by
              rw [e]
              unfold AW
              split <;> omega
            rw [h45]
            intro _
            have hnt : 0 ≤ r.1 + r.2.1 - s.tn ∧ r.1 + r.2.1 - s.tn < m.pk.length := by rcases c1 with e | e <;> omega
            refine AT (by omega) (AP (hb.ld0 (AT (by omega) (AP (hb.ld1 (AT (by omega) (AP (hb.st0 fun τ hb => hb.st1 fun τ hb => ?_))))))))
            refine AP (hb.ld1 (Bd (fun c4 => ?_) (fun c4 => AT (by omega) ?_)))
            · refine BN hb.sub ⟨?_, rfl⟩
              have hg : go1 m l s x = none := by
                unfold go1
                rw [hr, if_pos ⟨c1, c2, c3⟩, if_neg (by omega)]
              rw [hjr, hw, hdrop]
              show _ = qV (match go1 m l s x with | some s1 => wlk m l s1 (k + 1) (j.drop (k + 1)) | none => (0, 0, (k : Int), 92))
              rw [hg]
            · have hg : go1 m l s x = some ⟨r.1 + r.2.1 - s.tn, x.2 + r.2.2.1, d + r.2.2.1⟩ := by
                unfold go1
                rw [hr, if_pos ⟨c1, c2, c3⟩, if_pos (by omega), ← e]
              obtain ⟨ok, _, _⟩ := hs.go hm (x := x) hx1 hg
              rw [h24]
              intro _
              refine AT (by omega) (BP _ (by omega) ⟨k + 1, ⟨r.1 + r.2.1 - s.tn, x.2 + r.2.2.1, d + r.2.2.1⟩, rfl, rfl, by omega, rfl, hb, ?_, ok, by show x.2 + r.2.2.1 ≤ 200000; omega⟩)
              rw [hw, hdrop]
              show (match go1 m l s x with | some s1 => wlk m l s1 (k + 1) (j.drop (k + 1)) | none => (0, 0, (k : Int), 92)) = _
              rw [hg]
              rfl
          have k65 : ∀ t, (t = true ↔ gbp m.pk s.tn = true ∧ l.rst ≤ x.2 - s.sn) → J65 t τ := by
            intro t e
            rw [h65]
            intro _
            refine IU (fun et => ?_) (fun et => ?_)
            · refine AP (hb.st1 fun τ hb => k45 _ _ hb ?_)
              unfold AW
              rw [if_pos (e.1 et)]
            · refine k45 _ _ hb ?_
              unfold AW
              rw [if_neg fun g => by rw [e.2 g] at et; cases et]
          refine AP (hb.ld0 (Oh (h.up hb.sub).p (by omega) (by omega) ?_))
          refine IU (fun g => AT (by omega) (k65 _ ?_)) (fun g => k65 _ ?_)
          · rw [g]; simp
          · rw [g]; simp
        have k79 : ∀ t, (t = false ↔ s.sn ≤ x.2) → (s.tn = r.1 ∨ s.tn = r.2.1) → Gp l r → J79 t τ := by
          intro t e c1 c2
          cases t with
          | true =>
            refine kbad ?_
            unfold go1
            rw [if_neg fun g => by have := e.2 g.2.2; cases this]
          | false =>
            rw [h79]
            intro _
            exact FC (k42 c1 c2 (e.1 rfl))
        have kf : (s.tn = r.1 ∨ s.tn = r.2.1) → cl Try.prog (.func (.func Dk) #[] #[]) #[rdV r, l.v] τ fun v σ91 => ∃ t : Bool, (v = .bool t ∧ bc (!t) (J79 true σ91) (J79 (decide (x.2 < s.sn)) σ91)) := fun c1 =>
          P3 (fun c2 => CX (k79 _ (by rw [decide_eq_false_iff_not]; omega) c1 c2)) (fun c2 => C1 (kbad (by unfold go1; rw [hr, if_neg fun g => c2 g.2.1])))
        refine AP (hb.ld0 (Bu (fun c1 => ?_) (fun c1 => kf (.inl c1.symm))))
        refine AP (hb.ld0 (Bu (fun c2 => kbad ?_) (fun c2 => kf (.inr c2.symm))))
        unfold go1
        rw [hr, if_neg fun g => g.1.elim (fun e => c1 e.symm) (fun e => c2 e.symm)]
      · rw [h11]
        intro _
        refine AP (hb.ld0 (BN hb.sub ⟨?_, rfl⟩))
        have : k = j.length := by omega
        subst this
        rw [hjr, hw, List.drop_length]
        rfl
    exact ⟨fun b hb => k6 b _ ⟨hb, rfl⟩, fun b hb => k6 b _ ⟨hb, rfl⟩⟩
  refine ⟨fun q i τ => ∃ k : Nat, q = j.length - k ∧ i = k ∧ k ≤ j.length ∧ τ = σ ∧ ∀ i, (h : i < j.length) → i < k → D7 m j[i] = false, ⟨_, 0, rfl, rfl, by omega, rfl, fun j _ h => by omega⟩, ?_⟩
  rintro q i τ ⟨k, rfl, rfl, hk, rfl, hg⟩ _
  refine Bd (fun hlt => ?_) (fun hge => k3 fun i hi => hg i hi (by omega))
  have hkl : k < j.length := by omega
  refine Ag fun J104 h104 => ?_
  refine Sg hj (by omega) (by simpa using hkl) ?_
  simp only [Int.toNat_natCast]
  refine Ag fun J114 h114 => ?_
  have kbad : ¬ ((0 ≤ j[k].1 ∧ j[k].1 < m.rs.length) ∧ (0 ≤ j[k].2 ∧ j[k].2 ≤ 100000)) → J114 true τ := fun hb => by
    rw [h114]
    intro _
    refine Hu (AC ⟨?_, rfl⟩)
    have hf : KQ (D7 m) j = k := Ov hkl (by unfold D7; rw [decide_eq_false hb]; rfl) hg
    unfold jrn
    rw [if_neg (by omega), hf, if_pos (by omega)]
  refine AT (by omega) (BF (fun g1 => CX ?_) (fun g1 => C1 (kbad fun g => g1 (by have := g.1; omega))))
  refine BF (fun g2 => ?_) (fun g2 => kbad fun g => g2 g.2)
  rw [h114]
  intro _
  refine FC ?_
  rw [h104]
  intro _
  refine AT (by omega) (BP _ (by omega) ⟨k + 1, rfl, rfl, by omega, rfl, fun i h' hik => ?_⟩)
  rcases Nat.lt_or_ge i k with hlt | hge
  · exact hg i h' hlt
  · obtain rfl : i = k := by omega
    unfold D7
    rw [decide_eq_true ⟨by omega, g2⟩]
    rfl
theorem El {w : MW} {m : Mp} {t : Int} {A : Option Addr} {n c : Nat} {ls : List LrT} (h : MIn σ w m) (hp : m.pk.length ≤ 4294967296) (hr : m.rs.length ≤ 4294967296) (hl : RdS sL σ A n ls) (hll : ls.length ≤ 4294967296) :
    Af Try.prog Hr #[w.v, .int .i64 t, .slice A n c] σ fun v σ' => v = .int .i64 (eT m (ls.map AN) t) ∧ σ' = σ := by
  refine FU _ _ _ _ _ _ _ _ _ _ _ _ ?_
  unfold Cv
  have hpn := h.pn
  have hn := hl.lenL
  refine OQ h hp hr (fun hm => Bu (fun h => absurd rfl h) (fun _ => ?_)) (fun hm => Bu (fun _ => AC ⟨?_, rfl⟩) (fun h => absurd h (by decide)))
  · have ho := Mp.okB_iff.2 hm
    refine Bd (fun h8 => AC ⟨?_, rfl⟩) (fun h8 => ?_)
    · unfold eT
      rw [if_pos ho, if_pos (by rw [List.length_map]; omega)]
    refine clI Dq (OC h hp hr hl hll) ?_
    have e : eT m (ls.map AN) t = if (ls.map AN).all (lrB m.pk.length) = true then (if 0 ≤ t ∧ t < m.pk.length then 0 else 1) else 91 := by
      unfold eT
      rw [if_pos ho, if_neg (by rw [List.length_map]; omega)]
    have e2 : eC m (ls.map AN) = if (ls.map AN).all (lrB m.pk.length) = true then 0 else 91 := by
      unfold eC
      rw [if_pos ho]
    rw [e2, e]
    by_cases ha : (ls.map AN).all (lrB m.pk.length) = true
    · rw [if_pos ha, if_pos ha]
      refine Bu (fun h => absurd rfl h) (fun _ => ?_)
      refine NF (w := w) (by omega) (fun g => CX (AC ⟨?_, rfl⟩)) (fun g => C1 (AC ⟨?_, rfl⟩))
      · rw [if_pos (by omega)]
      · rw [if_neg (by omega)]
    · rw [if_neg ha, if_neg ha]
      exact Bu (fun _ => AC ⟨rfl, rfl⟩) (fun h => absurd h (by decide))
  · unfold eT
    rw [if_neg fun h => hm (Mp.okB_iff.1 h)]
end
end Go.Proofs.Ytkdjkkimngeloaa
namespace Go.Proofs.Ytkdjkkimngeloaa
open Go.RowKit
section
variable {σ : Hp}
def F3 (σ : Hp) (A : Option Addr) (n : Nat) (js : List (List Leg)) : Prop := ∃ ss : List (Option Addr × Nat × Nat), RdS [.slc] σ A n ss ∧ ss.length = js.length ∧ ∀ i (h1 : i < ss.length) (h2 : i < js.length), RdS sJ σ ss[i].1 ss[i].2.1 js[i]
theorem F3.up {σ' : Hp} {A : Option Addr} {n : Nat} {js : List (List Leg)} (h : F3 σ A n js) (hs : Hp.Sub σ σ') : F3 σ' A n js := by
  obtain ⟨ss, h1, h2, h3⟩ := h
  exact ⟨ss, h1.sub hs, h2, fun i a b => (h3 i a b).sub hs⟩
theorem RdS.lenS {A : Option Addr} {n : Nat} {xs : List (Option Addr × Nat × Nat)} (h : RdS [.slc] σ A n xs) : n = xs.length := h.1
theorem F3.len {A : Option Addr} {n : Nat} {js : List (List Leg)} (h : F3 σ A n js) : n = js.length := by
  obtain ⟨ss, h1, h2, _⟩ := h
  rw [h1.lenS, h2]
theorem QY {A : Option Addr} {n : Nat} {xs : List (Option Addr × Nat × Nat)} {i : Int} {K : Option Addr → Nat → Nat → Prop} (h : RdS [.slc] σ A n xs) (hi : 0 ≤ i) (hn : i.toNat < xs.length) (hk : K xs[i.toNat].1 xs[i.toNat].2.1 xs[i.toNat].2.2) : ix A n i 1 fun b a => ldS σ b a K := by
  refine Hd (ss := [.slc]) h rfl hi hn fun b o hc => ?_
  exact Ss (hc 0 (by decide)) hk
theorem Qv {A : Option Addr} {n : Nat} {js : List (List Leg)} {i : Int} {K : Option Addr → Nat → Nat → Prop} (h : F3 σ A n js) (hi : 0 ≤ i) (hn : i.toNat < js.length) (hk : ∀ A n c, RdS sJ σ A n js[i.toNat] → K A n c) : ix A n i 1 fun b a => ldS σ b a K := by
  obtain ⟨ss, h1, h2, h3⟩ := h
  exact QY h1 hi (by omega) (hk _ _ _ (h3 _ (by omega) hn))
def Mj (m : Mp) (t g : Int) : Int → Int → List Lry → List (List Leg) → Int × Int
  | i, b, l :: ls, j :: js => if (jrn m l j).2.2.2 = 0 then (if (jrn m l j).1 = t ∧ ¬ (0 < i ∧ (jrn m l j).2.1 < b + g) then Mj m t g (i + 1) (jrn m l j).2.1 ls js else (i, 92)) else (i, (jrn m l j).2.2.2)
  | _, _, _, _ => (0, 0)
def cnv (m : Mp) (ls : List Lry) (t g : Int) (js : List (List Leg)) : Int × Int := if eT m ls t = 0 then (if (0 ≤ g ∧ g ≤ 100) ∧ js.length = ls.length then Mj m t g 0 0 ls js else (0, 1)) else (0, eT m ls t)
theorem OD {m : Mp} {l : Lry} (hm : BJ m) : ∀ {j : List Leg} {s : Std} {i : Int}, (∀ x ∈ j, F8 m x ∧ x.2 ≤ 100000) → LD m l s → 0 ≤ s.sn → s.sn ≤ 200000 → 0 ≤ (wlk m l s i j).2.1 ∧ (wlk m l s i j).2.1 ≤ 200000
  | [], _, _, _, _, h0, h1 => ⟨h0, h1⟩
  | x :: j, s, i, hx, hs, h0, h1 => by
    unfold wlk
    cases hg : go1 m l s x with
    | none => exact ⟨Int.le_refl _, show (0 : Int) ≤ 200000 by decide⟩
    | some s1 =>
      obtain ⟨hx1, hx2⟩ := hx x (List.mem_cons_self ..)
      obtain ⟨ok, h2, h3⟩ := hs.go hm hx1 hg
      have := (hm.rd hx1).2.2.2.1
      exact OD hm (fun y hy => hx y (List.mem_cons_of_mem _ hy)) ok (by omega) (by omega)
theorem RI {m : Mp} {l : Lry} (hm : BJ m) (hl : AZ m l) {j : List Leg} : 0 ≤ (jrn m l j).2.1 ∧ (jrn m l j).2.1 ≤ 200000 := by
  unfold jrn
  split
  · exact ⟨Int.le_refl _, show (0 : Int) ≤ 200000 by decide⟩
  · split
    · exact ⟨Int.le_refl _, show (0 : Int) ≤ 200000 by decide⟩
    · rename_i h1 h2
      refine OD hm (fun x hx => ?_) hl.bgn (by have := hl.y; show 0 ≤ l.rdy; omega) (by have := hl.y; show l.rdy ≤ 200000; omega)
      have ha : j.any (D7 m) = false := by
        rw [← Mi]
        exact decide_eq_false h2
      have := MF (by have := List.any_eq_false.1 ha x hx; simpa using this)
      exact ⟨this.1, this.2.2⟩
theorem JI {m : Mp} {ls : List Lry} {t : Int} (h : eT m ls t = 0) : MpS m ∧ ls.length ≤ 8 ∧ (∀ l ∈ ls, AZ m l) ∧ 0 ≤ t ∧ t < m.pk.length := by
  unfold eT at h
  split at h
  · rename_i h1
    split at h
    · cases h
    · rename_i h2
      split at h
      · rename_i h3
        split at h
        · rename_i h4
          exact ⟨Mp.okB_iff.1 h1, by omega, fun l hl => Jy.1 (List.all_eq_true.1 h3 l hl), h4⟩
        · cases h
      · cases h
  · cases h
theorem KJ {w : MW} {m : Mp} {t g : Int} {A A' : Option Addr} {n c n' c' : Nat} {ls : List LrT} {js : List (List Leg)} (h : MIn σ w m) (hp : m.pk.length ≤ 4294967296) (hr : m.rs.length ≤ 4294967296) (hl : RdS sL σ A n ls) (hll : ls.length ≤ 4294967296)
    (hj : F3 σ A' n' js) (hjl : ∀ j ∈ js, j.length ≤ 4294967296) :
    Af Try.prog Dx #[w.v, .slice A n c, .int .i64 t, .int .i64 g, .slice A' n' c'] σ fun v σ' => v = .tuple #[.int .i64 (cnv m (ls.map AN) t g js).1, .int .i64 (cnv m (ls.map AN) t g js).2] ∧ σ' = σ := by
  refine EP _ _ _ _ _ _ _ _ _ _ _ _ _ _ _ _ ?_
  unfold B3
  have hn := hl.lenL
  have hn' := hj.len
  refine clI Be (El h hp hr hl hll) ?_
  refine Bu (fun e => AC ⟨?_, rfl⟩) (fun e => ?_)
  · unfold cnv
    rw [if_neg e]
  obtain ⟨hm, h8, hlo, ht⟩ := JI e
  rw [List.length_map] at h8
  refine Ag fun J6 h6 => Ag fun J50 h50 => ?_
  have kbad : ¬ ((0 ≤ g ∧ g ≤ 100) ∧ js.length = ls.length) → J50 true σ := fun hb => by
    rw [h50]
    intro _
    refine Hu (AC ⟨?_, rfl⟩)
    unfold cnv
    rw [if_pos e, if_neg (by rw [List.length_map]; exact hb)]
  refine BF (fun g1 => CX ?_) (fun g1 => C1 (kbad fun x => g1 x.1))
  by_cases g2 : js.length = ls.length
  case neg =>
    rw [decide_eq_false (by omega)]
    exact kbad fun x => g2 x.2
  rw [decide_eq_true (by omega)]
  rw [h50]
  intro _
  refine FC ?_
  have hc : cnv m (ls.map AN) t g js = Mj m t g 0 0 (ls.map AN) js := by
    unfold cnv
    rw [if_pos e, if_pos (by rw [List.length_map]; exact ⟨g1, g2⟩)]
  rw [h6]
  intro _
  refine Ag fun J9 h9 => ?_
  refine ⟨fun q b i τ => ∃ k : Nat, q = ls.length - k ∧ i = k ∧ k ≤ ls.length ∧ τ = σ ∧ (0 ≤ b ∧ b ≤ 200000) ∧ cnv m (ls.map AN) t g js = Mj m t g k b ((ls.map AN).drop k) (js.drop k), ⟨_, 0, rfl, rfl, by omega, rfl, by omega, by rw [hc]; rfl⟩, ?_⟩
  rintro q b i τ ⟨k, rfl, rfl, hk, rfl, hb, hw⟩ _
  refine Bd (fun hlt => ?_) (fun hge => ?_)
  · have hkl : k < ls.length := by omega
    refine Ag fun J18 h18 => ?_
    refine Oi hl (by omega) (by simpa using hkl) ?_
    simp only [Int.toNat_natCast]
    refine Qv hj (by omega) (by simp; omega) fun A n c hjk => ?_
    simp only [Int.toNat_natCast] at hjk
    have hlk : AZ m (AN ls[k]) := hlo _ (List.mem_map_of_mem (List.getElem_mem hkl))
    have e1 : (ls.map AN).drop k = AN ls[k] :: (ls.map AN).drop (k + 1) := by
      rw [List.drop_eq_getElem_cons (by rw [List.length_map]; exact hkl), List.getElem_map]
    have e2 : js.drop k = js[k]'(by omega) :: js.drop (k + 1) := List.drop_eq_getElem_cons (by omega)
    refine Bg Fx (PI (l := AN ls[k]) h hm.ok hlk hjk (hjl _ (List.getElem_mem _))) ?_
    rintro v σ' ⟨rfl, rfl⟩
    rw [e1, e2] at hw
    unfold Mj at hw
    have hbn := RI (l := AN ls[k]) hm.ok hlk (j := js[k]'(by omega))
    generalize jrn m (AN ls[k]) (js[k]'(by omega)) = q at hw hbn ⊢
    refine ⟨_, _, _, _, rfl, Bu (fun g3 => AC ⟨?_, rfl⟩) (fun g3 => ?_)⟩
    · rw [hw, if_neg g3]
    · rw [if_pos g3] at hw
      refine Ag fun J42 h42 => Ag fun J45 h45 => ?_
      have k45 : ∀ z, (z = false ↔ q.1 = t ∧ ¬ (0 < (k : Int) ∧ q.2.1 < b + g)) → J45 z σ' := by
        intro z hz
        rw [h45]
        intro _
        refine IU (fun ez => AC ⟨?_, rfl⟩) (fun ez => ?_)
        · rw [hw, if_neg fun x => by have := hz.2 x; rw [ez] at this; cases this]
        · rw [if_pos (hz.1 ez)] at hw
          rw [h42]
          intro _
          rw [h18]
          intro _
          exact AT (by omega) (BP _ (by omega) ⟨k + 1, rfl, rfl, by omega, rfl, hbn, hw⟩)
      refine Bu (fun g4 => k45 true ⟨fun x => (by cases x), fun x => absurd x.1 g4⟩) (fun g4 => ?_)
      refine Bd (fun g5 => AT (by omega) (k45 _ ?_)) (fun g5 => k45 false ⟨fun _ => ⟨g4, fun x => g5 x.1⟩, fun _ => rfl⟩)
      rw [decide_eq_false_iff_not]
      exact ⟨fun x => ⟨g4, fun y => x y.2⟩, fun x y => x.2 ⟨g5, y⟩⟩
  · subst h9
    intro _
    refine AC ⟨?_, rfl⟩
    have : k = ls.length := by omega
    subst this
    rw [hw, List.drop_eq_nil_of_le (by rw [List.length_map]; exact Nat.le_refl _)]
    unfold Mj
    rfl
end
end Go.Proofs.Ytkdjkkimngeloaa
