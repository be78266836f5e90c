/- Trimmed by wip/trim.py to what this claim rests on. -/
import Derived.Test.YtkdjkkimngeloaaZVb1
import Derived.Test.YtkdjkkimngeloaaZC1
namespace Go.Proofs.Ytkdjkkimngeloaa
open Go.RowKit
instance {n : Nat} {r : Rdt} : Decidable (LD n r) := by unfold LD; infer_instance
def Mp.okB (m : Mp) : Bool := decide (1 ≤ m.pk.length ∧ m.pk.length ≤ 12) && decide (m.rs.length ≤ 30) && m.rs.all fun r => decide (LD m.pk.length r)
theorem Mp.okB_iff {m : Mp} : m.okB = true ↔ MpS m := by
  unfold Mp.okB
  simp only [Bool.and_eq_true, decide_eq_true_eq, List.all_eq_true]
  exact ⟨fun h => ⟨h.1.1, h.1.2, h.2⟩, fun h => ⟨⟨h.n, h.k⟩, h.r⟩⟩
def lrB (n : Nat) (l : Lry) : Bool := decide ((0 ≤ l.h ∧ l.h ≤ 1000) ∧ (0 ≤ l.w ∧ l.w ≤ 1000) ∧ (0 ≤ l.fr ∧ l.fr < n) ∧ (0 ≤ l.rdy ∧ l.rdy ≤ 2000) ∧ (1 ≤ l.dr ∧ l.dr ≤ 500) ∧ (1 ≤ l.rst ∧ l.rst ≤ 500))
theorem Ha {m : Mp} {l : Lry} : lrB m.pk.length l = true ↔ AU m l := by
  unfold lrB
  rw [decide_eq_true_eq]
  exact ⟨fun h => ⟨h.1, h.2.1, h.2.2.1, h.2.2.2.1, h.2.2.2.2.1, h.2.2.2.2.2⟩, fun h => ⟨h.h, h.w, h.f, h.y, h.d, h.s⟩⟩
def eM (m : Mp) : Int := if m.okB = true then 0 else 90
def eL (m : Mp) (l : Lry) : Int := if lrB m.pk.length l = true then 0 else 91
def eC (m : Mp) (ls : List Lry) : Int := if m.okB = true then (if ls.all (lrB m.pk.length) = true then 0 else 91) else 90
def eT (m : Mp) (ls : List Lry) (t : Int) : Int := if m.okB = true then (if 8 < ls.length then 2 else if ls.all (lrB m.pk.length) = true then (if 0 ≤ t ∧ t < m.pk.length then 0 else 1) else 91) else 90
structure MW where
  pA : Option Addr
  pn : Nat
  pc : Nat
  rA : Option Addr
  rn : Nat
  rc : Nat
abbrev MW.v (w : MW) : Value := .agg #[.slice w.pA w.pn w.pc, .slice w.rA w.rn w.rc]
abbrev sR : List Sh := [.int .i64, .int .i64, .int .i64, .int .i64, .int .i64]
abbrev sL : List Sh := [.int .i64, .int .i64, .int .i64, .int .i64, .int .i64, .int .i64]
structure MIn (σ : Hp) (w : MW) (m : Mp) : Prop where
  p : RdS [.bool] σ w.pA w.pn m.pk
  r : RdS sR σ w.rA w.rn m.rs
theorem MIn.up {σ σ' : Hp} {w : MW} {m : Mp} (h : MIn σ w m) (hs : Hp.Sub σ σ') : MIn σ' w m := ⟨h.p.sub hs, h.r.sub hs⟩
theorem MIn.pn {σ : Hp} {w : MW} {m : Mp} (h : MIn σ w m) : w.pn = m.pk.length := h.p.lenB
theorem RdS.lenR {σ : Hp} {A : Option Addr} {n : Nat} {xs : List Rdt} (h : RdS sR σ A n xs) : n = xs.length := h.1
theorem MIn.rn {σ : Hp} {w : MW} {m : Mp} (h : MIn σ w m) : w.rn = m.rs.length := h.r.lenR
abbrev rdV (r : Rdt) : Value := .agg #[.int .i64 r.1, .int .i64 r.2.1, .int .i64 r.2.2.1, .int .i64 r.2.2.2.1, .int .i64 r.2.2.2.2]
abbrev LrT := Int × Int × Int × Int × Int × Int
abbrev Lry.t (l : Lry) : LrT := (l.h, l.w, l.fr, l.rdy, l.dr, l.rst)
abbrev Lry.v (l : Lry) : Value := .agg #[.int .i64 l.h, .int .i64 l.w, .int .i64 l.fr, .int .i64 l.rdy, .int .i64 l.dr, .int .i64 l.rst]
def Ee (t : LrT) : Lry := ⟨t.1, t.2.1, t.2.2.1, t.2.2.2.1, t.2.2.2.2.1, t.2.2.2.2.2⟩
theorem RdS.lenL {σ : Hp} {A : Option Addr} {n : Nat} {xs : List LrT} (h : RdS sL σ A n xs) : n = xs.length := h.1
section
variable {σ : Hp}
theorem Tf {A : Option Addr} {n : Nat} {xs : List Rdt} {i : Int} {K : Int → Int → Int → Int → Int → Prop} (h : RdS sR σ A n xs) (hi : 0 ≤ i) (hn : i.toNat < xs.length) (hk : K xs[i.toNat].1 xs[i.toNat].2.1 xs[i.toNat].2.2.1 xs[i.toNat].2.2.2.1 xs[i.toNat].2.2.2.2) :
    ix A n i 5 fun b a => ldI σ .i64 b a fun x1 => ldI σ .i64 b (a + 1) fun x2 => ldI σ .i64 b (a + 2) fun x3 => ldI σ .i64 b (a + 3) fun x4 => ldI σ .i64 b (a + 4) fun x5 => K x1 x2 x3 x4 x5 := by
  refine GG (ss := sR) h rfl hi hn fun b o hc => ?_
  exact Bh (hc 0 (by decide)) (Bh (hc 1 (by decide)) (Bh (hc 2 (by decide)) (Bh (hc 3 (by decide)) (Bh (hc 4 (by decide)) hk))))
theorem Ug {A : Option Addr} {n : Nat} {xs : List LrT} {i : Int} {K : Int → Int → Int → Int → Int → Int → Prop} (h : RdS sL σ A n xs) (hi : 0 ≤ i) (hn : i.toNat < xs.length) (hk : K xs[i.toNat].1 xs[i.toNat].2.1 xs[i.toNat].2.2.1 xs[i.toNat].2.2.2.1 xs[i.toNat].2.2.2.2.1 xs[i.toNat].2.2.2.2.2) :
    ix A n i 6 fun b a => ldI σ .i64 b a fun x1 => ldI σ .i64 b (a + 1) fun x2 => ldI σ .i64 b (a + 2) fun x3 => ldI σ .i64 b (a + 3) fun x4 => ldI σ .i64 b (a + 4) fun x5 => ldI σ .i64 b (a + 5) fun x6 => K x1 x2 x3 x4 x5 x6 := by
  refine GG (ss := sL) h rfl hi hn fun b o hc => ?_
  exact Bh (hc 0 (by decide)) (Bh (hc 1 (by decide)) (Bh (hc 2 (by decide)) (Bh (hc 3 (by decide)) (Bh (hc 4 (by decide)) (Bh (hc 5 (by decide)) hk)))))
theorem Rl {n lo hi : Int} : Ah Try.prog F9 #[.int .i64 n, .int .i64 lo, .int .i64 hi] σ fun v σ' => v = .bool (decide (lo ≤ n ∧ n ≤ hi)) ∧ σ' = σ := by
  refine HY _ _ _ _ _ ?_
  unfold Dv
  refine AX (fun h => Ay ⟨?_, rfl⟩) (fun h => Ay ⟨?_, rfl⟩)
  · simp [h]
  · simp [h]
theorem BX {n lo hi : Int} {K : Bool → Hp → Prop} (h1 : lo ≤ n ∧ n ≤ hi → K true σ) (h2 : ¬ (lo ≤ n ∧ n ≤ hi) → K false σ) : cl Try.prog (.func (.func F9) #[] #[]) #[.int .i64 n, .int .i64 lo, .int .i64 hi] σ fun v σ' => ∃ t : Bool, (v = .bool t ∧ K t σ') :=
  clB Gj Rl (by by_cases h : lo ≤ n ∧ n ≤ hi <;> simp only [h] <;> first | exact h1 h | exact h2 h)
theorem TJ {w : MW} {n : Int} (hw : w.pn ≤ 4294967296) : Ah Try.prog EI #[w.v, .int .i64 n] σ fun v σ' => v = .bool (decide (0 ≤ n ∧ n < w.pn)) ∧ σ' = σ := by
  refine Je _ _ _ _ _ _ _ _ _ ?_
  unfold EE
  refine AN (by omega) (BX (fun h => Ay ⟨?_, rfl⟩) (fun h => Ay ⟨?_, rfl⟩))
  · rw [decide_eq_true (by omega)]
  · rw [decide_eq_false (by omega)]
theorem Ow {w : MW} {n : Int} {K : Bool → Hp → Prop} (hw : w.pn ≤ 4294967296) (h1 : 0 ≤ n ∧ n < w.pn → K true σ) (h2 : ¬ (0 ≤ n ∧ n < w.pn) → K false σ) : cl Try.prog (.func (.func EI) #[] #[]) #[w.v, .int .i64 n] σ fun v σ' => ∃ t : Bool, (v = .bool t ∧ K t σ') :=
  clB Hv (TJ hw) (by by_cases h : 0 ≤ n ∧ n < w.pn <;> simp only [h] <;> first | exact h1 h | exact h2 h)
theorem PX {w : MW} {r : Rdt} {b : Nat} {f : Nat × Nat} {rw : Bool} (hw : w.pn ≤ 4294967296) (hb : σ b = some (.cells #[.slice w.pA w.pn w.pc, .slice w.rA w.rn w.rc] 25 f, rw)) : Ah Try.prog Jj #[rdV r, .pointer (some ⟨b, 0, none⟩)] σ fun v σ' => v = .bool (!decide (LD w.pn r)) ∧ σ' = σ := by
  refine Hu _ _ _ _ _ _ _ _ ?_
  unfold Db
  have no : ¬ LD w.pn r → rt σ (fun v σ' => v = .bool (!decide (LD w.pn r)) ∧ σ' = σ) (.bool true) := fun h => Ay ⟨by rw [decide_eq_false h]; rfl, rfl⟩
  have ld : ∀ {K : Bool → Hp → Prop} {n : Int}, (0 ≤ n ∧ n < w.pn → K true σ) → (¬ (0 ≤ n ∧ n < w.pn) → K false σ) → dr (some ⟨b, 0, none⟩) fun b1 o2 => ldS σ b1 o2 fun A3 l3 c3 => ldS σ b1 (o2 + 1) fun A4 l4 c4 => cl Try.prog (.func (.func EI) #[] #[]) #[.agg #[.slice A3 l3 c3, .slice A4 l4 c4], .int .i64 n] σ fun v σ' => ∃ t : Bool, (v = .bool t ∧ K t σ') := fun h1 h2 =>
    AR (Ea hb rfl (Ea hb rfl (Ow (w := w) hw h1 h2)))
  refine ld (fun h1 => BI ?_) (fun h1 => BH (no fun h => h1 h.1))
  refine ld (fun h2 => BI ?_) (fun h2 => BH (no fun h => h2 h.2.1))
  refine AX (fun h3 => no fun h => h.2.2.1 h3) (fun h3 => ?_)
  refine BX (fun h4 => BI ?_) (fun h4 => BH (no fun h => h4 h.2.2.2.1))
  refine BX (fun h5 => BI ?_) (fun h5 => BH (no fun h => h5 h.2.2.2.2.1))
  refine BX (fun h6 => Ay ⟨?_, rfl⟩) (fun h6 => Ay ⟨?_, rfl⟩)
  · rw [decide_eq_true ⟨h1, h2, h3, h4, h5, h6⟩]
  · rw [decide_eq_false fun h => h6 h.2.2.2.2.2]
def KS {α : Type} (p : α → Bool) (xs : List α) : Int := if xs.findIdx p < xs.length then (xs.findIdx p : Int) else -1
theorem Px {α : Type} {p : α → Bool} {xs : List α} {k : Nat} (hk : k < xs.length) (h : p xs[k] = true) (hj : ∀ j, (h : j < xs.length) → j < k → p xs[j] = false) : KS p xs = k := by
  have : xs.findIdx p = k := (List.findIdx_eq hk).2 ⟨h, fun j hjk => hj j (by omega) hjk⟩
  unfold KS
  rw [this, if_pos hk]
theorem LM {α : Type} {p : α → Bool} {xs : List α} (h : ∀ j, (h : j < xs.length) → p xs[j] = false) : KS p xs = -1 := by
  have : xs.findIdx p = xs.length := List.findIdx_eq_length.2 fun x hx => by
    obtain ⟨i, hi, rfl⟩ := List.getElem_of_mem hx
    exact h i hi
  unfold KS
  rw [this, if_neg (by omega)]
theorem Nh {α : Type} {p : α → Bool} {xs : List α} : decide (0 ≤ KS p xs) = xs.any p := by
  unfold KS
  split
  · rename_i h
    have : xs.any p = true := List.any_eq_true.2 ⟨_, List.getElem_mem h, List.findIdx_getElem⟩
    rw [this]
    simp
  · rename_i h
    have h1 : xs.findIdx p = xs.length := by have := List.findIdx_le_length (p := p) (xs := xs); omega
    have := List.findIdx_eq_length.1 h1
    simp
    intro x hx
    simp [this x hx]
def Dec {α : Type} (f : Value) (enc : α → Array Value) (p : α → Bool) (xs : List α) (σ : Hp) : Prop := ∀ a ∈ xs, ∀ K : Bool → Hp → Prop, K (p a) σ → cl Try.prog f (enc a) σ fun v σ' => ∃ t : Bool, (v = .bool t ∧ K t σ')
theorem Dec.of {α : Type} {g : FuncId} {caps : Array Value} {enc : α → Array Value} {p : α → Bool} {xs : List α} {σ : Hp} (he : Aw Try.prog g = true) (h : ∀ a ∈ xs, Ah Try.prog g (MX #[] (enc a) caps) σ fun u σ' => u = .bool (p a) ∧ σ' = σ) : Dec (.func (.func g) #[] caps) enc p xs σ :=
  fun a ha _ hk => H0.func he ((h a ha).mono fun _ _ ⟨e1, e2⟩ => by subst e1; subst e2; exact ⟨_, rfl, hk⟩)
abbrev Th (r : Rdt) : Array Value := #[rdV r]
theorem KR {A : Option Addr} {n c : Nat} {f : Value} {xs : List Rdt} {p : Rdt → Bool} (hx : RdS sR σ A n xs) (hl : xs.length ≤ 4294967296) (hf : Dec f Th p xs σ) :
    Ah Try.prog DD #[.slice A n c, f] σ fun v σ' => v = .int .i64 (KS p xs) ∧ σ' = σ := by
  refine C1 _ _ _ _ _ _ ?_
  unfold Bn
  refine Ag fun J hJ => ?_
  have hn := hx.lenR
  refine ⟨fun n i σ' => ∃ k : Nat, n = xs.length - k ∧ i = k ∧ k ≤ xs.length ∧ σ' = σ ∧ ∀ j, (h : j < xs.length) → j < k → p xs[j] = false, ⟨_, 0, rfl, rfl, by omega, rfl, fun j _ h => by omega⟩, ?_⟩
  rintro n i σ' ⟨k, rfl, rfl, hk, rfl, hj⟩ _
  refine AX (fun hlt => ?_) (fun hlt => ?_)
  · have hkl : k < xs.length := by omega
    refine Tf hx (by omega) (by simpa using hkl) ?_
    refine hf _ (List.getElem_mem (show (k : Int).toNat < xs.length by simpa using hkl)) _ ?_
    simp only [Int.toNat_natCast]
    refine Gw (fun h => Ay ⟨?_, rfl⟩) (fun h => AN (by omega) (Bu _ (by omega) ⟨k + 1, rfl, rfl, by omega, rfl, fun j h' hjk => ?_⟩))
    · rw [Px hkl h hj]
    · rcases Nat.lt_or_ge j k with hlt | hge
      · exact hj j h' hlt
      · have : j = k := by omega
        subst this
        exact h
  · subst hJ
    intro _
    refine Ay ⟨?_, rfl⟩
    rw [LM fun j h => hj j h (by omega)]
theorem IQ {A : Option Addr} {n c : Nat} {f : Value} {xs : List Rdt} {p : Rdt → Bool} (hx : RdS sR σ A n xs) (hl : xs.length ≤ 4294967296) (hf : Dec f Th p xs σ) :
    Ah Try.prog De #[.slice A n c, f] σ fun v σ' => v = .bool (xs.any p) ∧ σ' = σ := by
  refine CJ _ _ _ _ _ _ ?_
  unfold Bd
  refine clI CK (KR hx hl hf) (Ay ⟨?_, rfl⟩)
  rw [Nh]
theorem SL {w : MW} {m : Mp} (h : MIn σ w m) (hp : m.pk.length ≤ 4294967296) (hr : m.rs.length ≤ 4294967296) : Ah Try.prog GW #[w.v] σ fun v σ' => v = .int .i64 (eM m) ∧ σ' = σ := by
  refine Ip _ _ _ _ _ _ _ _ ?_
  unfold DU
  intro b1 n1
  have s1 := Hp.Sub.ins (.cells #[.slice w.pA w.pn w.pc, .slice w.rA w.rn w.rc] 25 (0, 0)) n1
  have hb := Hp.ins_same σ b1 (.cells #[.slice w.pA w.pn w.pc, .slice w.rA w.rn w.rc] 25 (0, 0))
  have h' := h.up s1
  have e1 := h.pn
  have e2 := h.rn
  generalize σ.ins b1 (.cells #[.slice w.pA w.pn w.pc, .slice w.rA w.rn w.rc] 25 (0, 0)) = σ2 at s1 hb h' ⊢
  refine Ag fun J5 h5 => Ag fun J8 h8 => ?_
  have k5 : m.okB = true → J5 σ2 := fun ho => by
    rw [h5]
    intro _
    exact Bs s1 ⟨by unfold eM; rw [if_pos ho], rfl⟩
  have k8 : m.okB = false → J8 true σ2 := fun ho => by
    rw [h8]
    intro _
    exact EO (Bs s1 ⟨by unfold eM; rw [ho]; rfl, rfl⟩)
  have bad : ¬ MpS m → m.okB = false := fun hn => by
    cases ho : m.okB
    · rfl
    · exact absurd (Mp.okB_iff.1 ho) hn
  refine Ea hb rfl (BX (fun h1 => BI ?_) (fun h1 => BH (k8 (bad fun hm => h1 (by have := hm.n; omega)))))
  refine Ea hb rfl (AX (fun h2 => k8 (bad fun hm => by have := hm.k; omega)) (fun h2 => ?_))
  refine Ea hb rfl (clB Cm (IQ (p := fun r => !decide (LD w.pn r)) h'.r hr (Dec.of FI fun r _ => PX (w := w) (by omega) hb)) ?_)
  rw [h8]
  intro _
  refine Gw (fun ha => ?_) (fun ha => k5 ?_)
  · refine Bs s1 ⟨?_, rfl⟩
    unfold eM
    rw [bad fun hm => ?_]
    · rfl
    · obtain ⟨r, hr1, hr2⟩ := List.any_eq_true.1 ha
      have := hm.r r hr1
      rw [e1] at hr2
      simp [this] at hr2
  · rw [Mp.okB_iff]
    refine ⟨by omega, by omega, fun r hr1 => ?_⟩
    have := List.any_eq_false.1 ha r hr1
    rw [e1] at this
    simpa using this
end
end Go.Proofs.Ytkdjkkimngeloaa
namespace Go.Proofs.Ytkdjkkimngeloaa
open Go.RowKit
section
variable {σ : Hp}
theorem TM {r : Rdt} {l : Lry} : Ah Try.prog Dg #[rdV r, l.v] σ fun v σ' => v = .bool (decide (D1 l r)) ∧ σ' = σ := by
  refine JE _ _ _ _ _ _ _ _ _ _ _ _ _ ?_
  unfold ED D1
  refine AX (fun h => Ay ⟨?_, rfl⟩) (fun h => Ay ⟨?_, rfl⟩)
  · simp [h]
  · simp [h]
theorem RQ {r : Rdt} {l : Lry} {K : Bool → Hp → Prop} (h1 : D1 l r → K true σ) (h2 : ¬ D1 l r → K false σ) : cl Try.prog (.func (.func Dg) #[] #[]) #[rdV r, l.v] σ fun v σ' => ∃ t : Bool, (v = .bool t ∧ K t σ') :=
  clB HB TM (by by_cases h : D1 l r <;> simp only [h] <;> first | exact h1 h | exact h2 h)
theorem Pr {w : MW} {m : Mp} {K : Int → Hp → Prop} (h : MIn σ w m) (hp : m.pk.length ≤ 4294967296) (hr : m.rs.length ≤ 4294967296) (h1 : MpS m → K 0 σ) (h2 : ¬ MpS m → K 90 σ) : cl Try.prog (.func (.func GW) #[] #[]) #[w.v] σ fun v σ' => ∃ t : Int, (v = .int .i64 t ∧ K t σ') :=
  clI GR (SL h hp hr) (by
    unfold eM
    by_cases c : m.okB = true
    · rw [if_pos c]; exact h1 (Mp.okB_iff.1 c)
    · rw [if_neg c]; exact h2 fun h => c (Mp.okB_iff.2 h))
theorem Pc {w : MW} {m : Mp} {A : Option Addr} {n c : Nat} {ls : List LrT} (h : MIn σ w m) (hp : m.pk.length ≤ 4294967296) (hr : m.rs.length ≤ 4294967296) (hl : RdS sL σ A n ls) (hll : ls.length ≤ 4294967296) :
    Ah Try.prog GL #[w.v, .slice A n c] σ fun v σ' => v = .int .i64 (eC m (ls.map Ee)) ∧ σ' = σ := by
  refine IF _ _ _ _ _ _ _ _ _ _ _ ?_
  unfold DW
  have hpn := h.pn
  have hn := hl.lenL
  refine Pr h hp hr (fun hm => Bi (fun h => absurd rfl h) (fun _ => ?_)) (fun hm => Bi (fun _ => Ay ⟨?_, rfl⟩) (fun h => absurd h (by decide)))
  · have ho := Mp.okB_iff.2 hm
    refine Ag fun J6 h6 => ?_
    refine ⟨fun q i τ => ∃ k : Nat, q = ls.length - k ∧ i = k ∧ k ≤ ls.length ∧ τ = σ ∧ ∀ j, (h : j < ls.length) → j < k → lrB m.pk.length (Ee ls[j]) = true, ⟨_, 0, rfl, rfl, by omega, rfl, fun j _ h => by omega⟩, ?_⟩
    rintro q i τ ⟨k, rfl, rfl, hk, rfl, hj⟩ _
    refine AX (fun hlt => ?_) (fun hge => ?_)
    · have hkl : k < ls.length := by omega
      refine Ag fun J14 h14 => ?_
      refine Ug hl (by omega) (by simpa using hkl) ?_
      simp only [Int.toNat_natCast]
      refine Ag fun J28 h28 => ?_
      have bad : lrB m.pk.length (Ee ls[k]) = false → J28 true τ := fun hb => by
        rw [h28]
        intro _
        refine EO (Ay ⟨?_, rfl⟩)
        unfold eC
        rw [if_pos ho, if_neg]
        intro ha
        have := List.all_eq_true.1 ha (Ee ls[k]) (List.mem_map_of_mem (List.getElem_mem hkl))
        rw [hb] at this
        cases this
      have ne : (¬ ((0 ≤ (Ee ls[k]).h ∧ (Ee ls[k]).h ≤ 1000) ∧ (0 ≤ (Ee ls[k]).w ∧ (Ee ls[k]).w ≤ 1000) ∧ (0 ≤ (Ee ls[k]).fr ∧ (Ee ls[k]).fr < m.pk.length) ∧ (0 ≤ (Ee ls[k]).rdy ∧ (Ee ls[k]).rdy ≤ 2000) ∧ (1 ≤ (Ee ls[k]).dr ∧ (Ee ls[k]).dr ≤ 500) ∧ (1 ≤ (Ee ls[k]).rst ∧ (Ee ls[k]).rst ≤ 500))) → J28 true τ := fun hb => bad (by unfold lrB; rw [decide_eq_false hb])
      refine BX (fun g1 => BI ?_) (fun g1 => BH (ne fun g => g1 g.1))
      refine BX (fun g2 => BI ?_) (fun g2 => BH (ne fun g => g2 g.2.1))
      refine Ow (w := w) (by omega) (fun g3 => BI ?_) (fun g3 => BH (ne fun g => g3 ⟨g.2.2.1.1, by have := g.2.2.1.2; rw [hpn]; exact this⟩))
      refine BX (fun g4 => BI ?_) (fun g4 => BH (ne fun g => g4 g.2.2.2.1))
      refine BX (fun g5 => BI ?_) (fun g5 => BH (ne fun g => g5 g.2.2.2.2.1))
      refine BX (fun g6 => ?_) (fun g6 => ne fun g => g6 g.2.2.2.2.2)
      rw [h28]
      intro _
      refine DO ?_
      rw [h14]
      intro _
      refine AN (by omega) (Bu _ (by omega) ⟨k + 1, rfl, rfl, by omega, rfl, fun j h' hjk => ?_⟩)
      rcases Nat.lt_or_ge j k with hlt | hge
      · exact hj j h' hlt
      · obtain rfl : j = k := by omega
        unfold lrB
        rw [decide_eq_true]
        exact ⟨g1, g2, ⟨g3.1, by have := g3.2; rw [hpn] at this; exact this⟩, g4, g5, g6⟩
    · subst h6
      intro _
      refine Ay ⟨?_, rfl⟩
      unfold eC
      rw [if_pos ho, if_pos]
      refine List.all_eq_true.2 fun x hx => ?_
      obtain ⟨y, hy, rfl⟩ := List.mem_map.1 hx
      obtain ⟨j, hjl, rfl⟩ := List.mem_iff_getElem.1 hy
      exact hj j hjl (by omega)
  · unfold eC
    rw [if_neg fun h => hm (Mp.okB_iff.1 h)]
theorem QG {w : MW} {m : Mp} {l : Lry} {e : TypeId} {A : Option Addr} {n c : Nat} {σ2 : Hp} {K : Int → Hp → Prop} (h : MIn σ w m) (hp : m.pk.length ≤ 4294967296) (hr : m.rs.length ≤ 4294967296) (ho : Au e sL σ A n c [l.t] σ2)
    (h1 : MpS m → AU m l → eC m [l] = 0 → K 0 σ2) (h2 : ¬ eC m [l] = 0 → K (eC m [l]) σ2) : cl Try.prog (.func (.func GL) #[] #[]) #[w.v, .slice A n c] σ2 fun v σ' => ∃ t : Int, (v = .int .i64 t ∧ K t σ') := by
  refine clI Dl (Pc (h.up ho.sub) hp hr ho.rd (show (1 : Nat) ≤ _ by decide)) ?_
  show K (eC m [l]) σ2
  by_cases c1 : m.okB = true
  · by_cases c2 : lrB m.pk.length l = true
    · have e0 : eC m [l] = 0 := by unfold eC; rw [if_pos c1, if_pos (by simp [c2])]
      rw [e0]
      exact h1 (Mp.okB_iff.1 c1) (Ha.1 c2) e0
    · have e0 : eC m [l] = 91 := by unfold eC; rw [if_pos c1, if_neg (by simp [c2])]
      exact h2 (by rw [e0]; decide)
  · have e0 : eC m [l] = 90 := by unfold eC; rw [if_neg c1]
    exact h2 (by rw [e0]; decide)
def D2 (m : Mp) (x : Leg) : Bool := !decide ((0 ≤ x.1 ∧ x.1 < m.rs.length) ∧ (0 ≤ x.2 ∧ x.2 ≤ 100000))
def wlk (m : Mp) (l : Lry) : Std → Int → List Leg → Int × Int × Int × Int
  | s, _, [] => (s.tn, s.sn, 0, 0)
  | s, i, x :: j => match go1 m l s x with
    | some s1 => wlk m l s1 (i + 1) j
    | none => (0, 0, i, 92)
def jrn (m : Mp) (l : Lry) (j : List Leg) : Int × Int × Int × Int := if 60 < j.length then (0, 0, 0, 2) else if 0 ≤ KS (D2 m) j then (0, 0, KS (D2 m) j, 1) else wlk m l (bgn l) 0 j
abbrev qV (q : Int × Int × Int × Int) : Value := .tuple #[.int .i64 q.1, .int .i64 q.2.1, .int .i64 q.2.2.1, .int .i64 q.2.2.2]
abbrev sJ : List Sh := [.int .i64, .int .i64]
theorem RdS.lenJ {A : Option Addr} {n : Nat} {xs : List Leg} (h : RdS sJ σ A n xs) : n = xs.length := h.1
theorem Tg {A : Option Addr} {n : Nat} {xs : List Leg} {i : Int} {K : Int → Int → Prop} (h : RdS sJ σ A n xs) (hi : 0 ≤ i) (hn : i.toNat < xs.length) (hk : K xs[i.toNat].1 xs[i.toNat].2) :
    ix A n i 2 fun b a => ldI σ .i64 b a fun x1 => ldI σ .i64 b (a + 1) fun x2 => K x1 x2 := by
  refine GG (ss := sJ) h rfl hi hn fun b o hc => ?_
  exact Bh (hc 0 (by decide)) (Bh (hc 1 (by decide)) hk)
theorem M4 {A : Option Addr} {n : Nat} {xs : List Bool} {i : Int} {K : Bool → Prop} (h : RdS [.bool] σ A n xs) (hi : 0 ≤ i) (hn : i < xs.length) (hk : K (gbp xs i)) : ix A n i 1 fun b a => ldB σ b a K := by
  refine Tp h hi (by omega) ?_
  have hk' : i.toNat < xs.length := by omega
  have e : gbp xs i = xs[i.toNat] := by unfold gbp; simp [List.getD, hk']
  rw [← e]
  exact hk
end
end Go.Proofs.Ytkdjkkimngeloaa
namespace Go.Proofs.Ytkdjkkimngeloaa
open Go.RowKit
section
variable {σ : Hp}
abbrev bx2 (b : Nat) (x y : Int) : Rel := Blk b (.cells #[.int .i64 x, .int .i64 y] 132 (0, 0))
theorem bx2.ld0 {b : Nat} {x y : Int} {σ' : Hp} {K : Int → Prop} (h : bx2 b x y σ σ') (hk : K x) : ldI σ' .i64 b 0 K := A0 h.get rfl hk
theorem bx2.ld1 {b : Nat} {x y : Int} {σ' : Hp} {K : Int → Prop} (h : bx2 b x y σ σ') (hk : K y) : ldI σ' .i64 b (0 + 1) K := A0 h.get rfl hk
theorem bx2.st0 {b : Nat} {x y v : Int} {σ' : Hp} {K : Hp → Prop} (h : bx2 b x y σ σ') (hk : ∀ σ2, bx2 b v y σ σ2 → K σ2) : st σ' b 0 (.int .i64 v) K := by
  obtain ⟨w, h2, _⟩ := h.st (Hp.Sub.refl _) (k := 0) (show (0 : Nat) < 2 by omega) (.int .i64 v)
  exact ⟨w, hk _ h2⟩
theorem bx2.st1 {b : Nat} {x y v : Int} {σ' : Hp} {K : Hp → Prop} (h : bx2 b x y σ σ') (hk : ∀ σ2, bx2 b x v σ σ2 → K σ2) : st σ' b (0 + 1) (.int .i64 v) K := by
  obtain ⟨w, h2, _⟩ := h.st (Hp.Sub.refl _) (k := 1) (show (1 : Nat) < 2 by omega) (.int .i64 v)
  exact ⟨w, hk _ h2⟩
theorem Blk.sub {b : Nat} {o : Obj} {σ σ' : Hp} (h : Blk b o σ σ') : Hp.Sub σ σ' := by
  obtain ⟨h1, rfl⟩ := h
  exact Hp.Sub.ins _ h1
theorem Oj {A : Option Addr} {n : Nat} {xs : List Leg} {i : Int} {K : Int → Int → Prop} (h : RdS sJ σ A n xs) (hi : 0 ≤ i) (hn : i.toNat < xs.length) (hk : ∀ x : Leg, xs[i.toNat] = x → K x.1 x.2) :
    ix A n i 2 fun b a => ldI σ .i64 b a fun x1 => ldI σ .i64 b (a + 1) fun x2 => K x1 x2 := Tg h hi hn (hk _ rfl)
theorem KE {A : Option Addr} {n : Nat} {xs : List Rdt} {i : Int} {K : Int → Int → Int → Int → Int → Prop} (h : RdS sR σ A n xs) (hi : 0 ≤ i) (hn : i.toNat < xs.length) (hk : ∀ r : Rdt, xs[i.toNat] = r → K r.1 r.2.1 r.2.2.1 r.2.2.2.1 r.2.2.2.2) :
    ix A n i 5 fun b a => ldI σ .i64 b a fun x1 => ldI σ .i64 b (a + 1) fun x2 => ldI σ .i64 b (a + 2) fun x3 => ldI σ .i64 b (a + 3) fun x4 => ldI σ .i64 b (a + 4) fun x5 => K x1 x2 x3 x4 x5 := Tf h hi hn (hk _ rfl)
theorem NL {m : Mp} {x : Leg} (h : D2 m x = false) : (0 ≤ x.1 ∧ x.1 < m.rs.length) ∧ (0 ≤ x.2 ∧ x.2 ≤ 100000) := by
  unfold D2 at h
  simpa using h
theorem Ky {m : Mp} {i : Int} (h : i.toNat < m.rs.length) : AF m i = m.rs[i.toNat] := by unfold AF; simp [List.getD, h]
theorem P4 {w : MW} {m : Mp} {l : Lry} {A : Option Addr} {n c : Nat} {j : List Leg} (h : MIn σ w m) (hm : BA m) (hl : AU m l) (hj : RdS sJ σ A n j) (hjl : j.length ≤ 4294967296) :
    Ah Try.prog JI #[w.v, l.v, .slice A n c] σ fun v σ' => v = qV (jrn m l j) ∧ σ' = σ := by
  refine Hz _ _ _ _ _ _ _ _ _ _ _ _ _ _ _ _ _ ?_
  unfold Df
  have hn := hj.lenJ
  have hrn := h.rn
  have hpn := h.pn
  have hk30 := hm.k
  have hn12 := hm.n
  refine AX (fun h60 => Ay ⟨?_, rfl⟩) (fun h60 => ?_)
  · unfold jrn; rw [if_pos (by omega)]
  refine Ag fun J3 h3 => ?_
  have k3 : (∀ i (_ : i < j.length), D2 m j[i] = false) → J3 σ := by
    intro hgood
    have hjr : jrn m l j = wlk m l (bgn l) 0 j := by
      unfold jrn
      rw [if_neg (by omega), LM hgood]
      rfl
    rw [h3]
    intro _
    refine Ag fun J6 h6 => ?_
    have k6 : ∀ b τ, bx2 b l.fr 0 σ τ → J6 (some ⟨b, 0, none⟩) l.rdy τ := by
      intro b τ hb
      rw [h6]
      intro _
      refine Ag fun J11 h11 => ?_
      refine ⟨fun q now i τ => ∃ (k : Nat) (s : Std), q = j.length - k ∧ i = k ∧ k ≤ j.length ∧ now = s.sn ∧ bx2 b s.tn s.dv σ τ ∧ wlk m l (bgn l) 0 j = wlk m l s k (j.drop k) ∧ LE m l s ∧ s.sn ≤ 200000, ⟨_, 0, bgn l, rfl, rfl, by omega, rfl, hb, by rfl, hl.bgn, by have := hl.y; show l.rdy ≤ 200000; omega⟩, ?_⟩
      clear hb τ
      rintro q now i τ ⟨k, s, rfl, rfl, hk, rfl, hb, hw, hs, hs2⟩ _
      have ht := hs.t
      have hd := hs.d
      have hsn := hs.n
      have hy := hl.y
      have hdr := hl.d
      have hrs := hl.s
      refine AX (fun hlt => ?_) (fun hge => ?_)
      · have hkl : k < j.length := by omega
        obtain ⟨hx1, hx2⟩ := NL (hgood k hkl)
        have hdrop : j.drop k = j[k] :: j.drop (k + 1) := List.drop_eq_getElem_cons hkl
        refine Ag fun J24 h24 => ?_
        refine Oj (hj.sub hb.sub) (by omega) (by simpa using hkl) fun x hx => ?_
        simp only [Int.toNat_natCast] at hx
        rw [hx] at hx1 hx2 hdrop
        have hxk : x.1.toNat < m.rs.length := by omega
        have hrd := hm.rd (x := x) hx1
        refine KE (h.up hb.sub).r hx1.1 hxk fun r hr => ?_
        rw [← Ky hxk] at hr
        rw [hr] at hrd
        obtain ⟨⟨a0, a1⟩, ⟨b0, b1⟩, hab, ⟨g0, g1⟩, _⟩ := hrd
        refine Ag fun J42 h42 => Ag fun J79 h79 => ?_
        have bad : go1 m l s x = none → rt τ (fun v σ' => v = qV (jrn m l j) ∧ σ' = σ) (.tuple #[.int .i64 0, .int .i64 0, .int .i64 k, .int .i64 92]) := fun hg => by
          refine Bs hb.sub ⟨?_, rfl⟩
          rw [hjr, hw, hdrop]
          show _ = qV (match go1 m l s x with | some s1 => wlk m l s1 (k + 1) (j.drop (k + 1)) | none => (0, 0, (k : Int), 92))
          rw [hg]
        have kbad : go1 m l s x = none → J79 true τ := fun hg => by
          rw [h79]
          intro _
          exact EO (bad hg)
        have k42 : (s.tn = r.1 ∨ s.tn = r.2.1) → D1 l r → s.sn ≤ x.2 → J42 τ := by
          intro c1 c2 c3
          rw [h42]
          intro _
          refine Ag fun J45 h45 => Ag fun J65 h65 => ?_
          have k45 : ∀ τ d, bx2 b s.tn d σ τ → d = Bb m l s x → J45 τ := by
            intro τ d hb e
            have hd1 : 0 ≤ d ∧ d ≤ 500 := by
              rw [e]
              unfold Bb
              split <;> omega
            rw [h45]
            intro _
            have hnt : 0 ≤ r.1 + r.2.1 - s.tn ∧ r.1 + r.2.1 - s.tn < m.pk.length := by rcases c1 with e | e <;> omega
            refine AN (by omega) (AR (hb.ld0 (AN (by omega) (AR (hb.ld1 (AN (by omega) (AR (hb.st0 fun τ hb => hb.st1 fun τ hb => ?_))))))))
            refine AR (hb.ld1 (AX (fun c4 => ?_) (fun c4 => AN (by omega) ?_)))
            · refine Bs hb.sub ⟨?_, rfl⟩
              have hg : go1 m l s x = none := by
                unfold go1
                rw [hr, if_pos ⟨c1, c2, c3⟩, if_neg (by omega)]
              rw [hjr, hw, hdrop]
              show _ = qV (match go1 m l s x with | some s1 => wlk m l s1 (k + 1) (j.drop (k + 1)) | none => (0, 0, (k : Int), 92))
              rw [hg]
            · have hg : go1 m l s x = some ⟨r.1 + r.2.1 - s.tn, x.2 + r.2.2.1, d + r.2.2.1⟩ := by
                unfold go1
                rw [hr, if_pos ⟨c1, c2, c3⟩, if_pos (by omega), ← e]
              obtain ⟨ok, _, _⟩ := hs.go hm (x := x) hx1 hg
              rw [h24]
              intro _
              refine AN (by omega) (Bu _ (by omega) ⟨k + 1, ⟨r.1 + r.2.1 - s.tn, x.2 + r.2.2.1, d + r.2.2.1⟩, rfl, rfl, by omega, rfl, hb, ?_, ok, by show x.2 + r.2.2.1 ≤ 200000; omega⟩)
              rw [hw, hdrop]
              show (match go1 m l s x with | some s1 => wlk m l s1 (k + 1) (j.drop (k + 1)) | none => (0, 0, (k : Int), 92)) = _
              rw [hg]
              rfl
          have k65 : ∀ t, (t = true ↔ gbp m.pk s.tn = true ∧ l.rst ≤ x.2 - s.sn) → J65 t τ := by
            intro t e
            rw [h65]
            intro _
            refine Gw (fun et => ?_) (fun et => ?_)
            · refine AR (hb.st1 fun τ hb => k45 _ _ hb ?_)
              unfold Bb
              rw [if_pos (e.1 et)]
            · refine k45 _ _ hb ?_
              unfold Bb
              rw [if_neg fun g => by rw [e.2 g] at et; cases et]
          refine AR (hb.ld0 (M4 (h.up hb.sub).p (by omega) (by omega) ?_))
          refine Gw (fun g => AN (by omega) (k65 _ ?_)) (fun g => k65 _ ?_)
          · rw [g]; simp
          · rw [g]; simp
        have k79 : ∀ t, (t = false ↔ s.sn ≤ x.2) → (s.tn = r.1 ∨ s.tn = r.2.1) → D1 l r → J79 t τ := by
          intro t e c1 c2
          cases t with
          | true =>
            refine kbad ?_
            unfold go1
            rw [if_neg fun g => by have := e.2 g.2.2; cases this]
          | false =>
            rw [h79]
            intro _
            exact DO (k42 c1 c2 (e.1 rfl))
        have kf : (s.tn = r.1 ∨ s.tn = r.2.1) → cl Try.prog (.func (.func Dg) #[] #[]) #[rdV r, l.v] τ fun v σ91 => ∃ t : Bool, (v = .bool t ∧ bc (!t) (J79 true σ91) (J79 (decide (x.2 < s.sn)) σ91)) := fun c1 =>
          RQ (fun c2 => BI (k79 _ (by rw [decide_eq_false_iff_not]; omega) c1 c2)) (fun c2 => BH (kbad (by unfold go1; rw [hr, if_neg fun g => c2 g.2.1])))
        refine AR (hb.ld0 (Bi (fun c1 => ?_) (fun c1 => kf (.inl c1.symm))))
        refine AR (hb.ld0 (Bi (fun c2 => kbad ?_) (fun c2 => kf (.inr c2.symm))))
        unfold go1
        rw [hr, if_neg fun g => g.1.elim (fun e => c1 e.symm) (fun e => c2 e.symm)]
      · rw [h11]
        intro _
        refine AR (hb.ld0 (Bs hb.sub ⟨?_, rfl⟩))
        have : k = j.length := by omega
        subst this
        rw [hjr, hw, List.drop_length]
        rfl
    exact ⟨fun b hb => k6 b _ ⟨hb, rfl⟩, fun b hb => k6 b _ ⟨hb, rfl⟩⟩
  refine ⟨fun q i τ => ∃ k : Nat, q = j.length - k ∧ i = k ∧ k ≤ j.length ∧ τ = σ ∧ ∀ i, (h : i < j.length) → i < k → D2 m j[i] = false, ⟨_, 0, rfl, rfl, by omega, rfl, fun j _ h => by omega⟩, ?_⟩
  rintro q i τ ⟨k, rfl, rfl, hk, rfl, hg⟩ _
  refine AX (fun hlt => ?_) (fun hge => k3 fun i hi => hg i hi (by omega))
  have hkl : k < j.length := by omega
  refine Ag fun J104 h104 => ?_
  refine Tg hj (by omega) (by simpa using hkl) ?_
  simp only [Int.toNat_natCast]
  refine Ag fun J114 h114 => ?_
  have kbad : ¬ ((0 ≤ j[k].1 ∧ j[k].1 < m.rs.length) ∧ (0 ≤ j[k].2 ∧ j[k].2 ≤ 100000)) → J114 true τ := fun hb => by
    rw [h114]
    intro _
    refine EO (Ay ⟨?_, rfl⟩)
    have hf : KS (D2 m) j = k := Px hkl (by unfold D2; rw [decide_eq_false hb]; rfl) hg
    unfold jrn
    rw [if_neg (by omega), hf, if_pos (by omega)]
  refine AN (by omega) (BX (fun g1 => BI ?_) (fun g1 => BH (kbad fun g => g1 (by have := g.1; omega))))
  refine BX (fun g2 => ?_) (fun g2 => kbad fun g => g2 g.2)
  rw [h114]
  intro _
  refine DO ?_
  rw [h104]
  intro _
  refine AN (by omega) (Bu _ (by omega) ⟨k + 1, rfl, rfl, by omega, rfl, fun i h' hik => ?_⟩)
  rcases Nat.lt_or_ge i k with hlt | hge
  · exact hg i h' hlt
  · obtain rfl : i = k := by omega
    unfold D2
    rw [decide_eq_true ⟨by omega, g2⟩]
    rfl
def Ke (m : Mp) (l : Lry) (j : List Leg) : Int × Int × Int × Int := if eC m [l] = 0 then jrn m l j else (0, 0, 0, eC m [l])
theorem Lb {w : MW} {m : Mp} {l : Lry} {A : Option Addr} {n c : Nat} {j : List Leg} (h : MIn σ w m) (hp : m.pk.length ≤ 4294967296) (hr : m.rs.length ≤ 4294967296) (hj : RdS sJ σ A n j) (hjl : j.length ≤ 4294967296) :
    Ah Try.prog Gi #[w.v, l.v, .slice A n c] σ fun v σ' => v = qV (Ke m l j) ∧ σ' = σ := by
  refine EJ _ _ _ _ _ _ _ _ _ _ _ _ _ _ _ _ _ ?_
  unfold B4
  intro A1 l1 c1 σ2 ho
  refine QG h hp hr ho (fun hm hl e0 => Bi (fun g => absurd rfl g) (fun _ => ?_)) (fun e0 => Bi (fun _ => Bs ho.sub ⟨?_, rfl⟩) (fun g => absurd g e0))
  · refine AY FR (P4 (h.up ho.sub) hm.ok hl (hj.sub ho.sub) hjl) ?_
    rintro v σ' ⟨rfl, rfl⟩
    refine ⟨_, _, _, _, rfl, Bs ho.sub ⟨?_, rfl⟩⟩
    unfold Ke
    rw [if_pos e0]
  · unfold Ke
    rw [if_neg e0]
theorem GE {w : MW} {m : Mp} {t : Int} {A : Option Addr} {n c : Nat} {ls : List LrT} (h : MIn σ w m) (hp : m.pk.length ≤ 4294967296) (hr : m.rs.length ≤ 4294967296) (hl : RdS sL σ A n ls) (hll : ls.length ≤ 4294967296) :
    Ah Try.prog HT #[w.v, .int .i64 t, .slice A n c] σ fun v σ' => v = .int .i64 (eT m (ls.map Ee) t) ∧ σ' = σ := by
  refine Gc _ _ _ _ _ _ _ _ _ _ _ _ ?_
  unfold Cy
  have hpn := h.pn
  have hn := hl.lenL
  refine Pr h hp hr (fun hm => Bi (fun h => absurd rfl h) (fun _ => ?_)) (fun hm => Bi (fun _ => Ay ⟨?_, rfl⟩) (fun h => absurd h (by decide)))
  · have ho := Mp.okB_iff.2 hm
    refine AX (fun h8 => Ay ⟨?_, rfl⟩) (fun h8 => ?_)
    · unfold eT
      rw [if_pos ho, if_pos (by rw [List.length_map]; omega)]
    refine clI Dl (Pc h hp hr hl hll) ?_
    have e : eT m (ls.map Ee) t = if (ls.map Ee).all (lrB m.pk.length) = true then (if 0 ≤ t ∧ t < m.pk.length then 0 else 1) else 91 := by
      unfold eT
      rw [if_pos ho, if_neg (by rw [List.length_map]; omega)]
    have e2 : eC m (ls.map Ee) = if (ls.map Ee).all (lrB m.pk.length) = true then 0 else 91 := by
      unfold eC
      rw [if_pos ho]
    rw [e2, e]
    by_cases ha : (ls.map Ee).all (lrB m.pk.length) = true
    · rw [if_pos ha, if_pos ha]
      refine Bi (fun h => absurd rfl h) (fun _ => ?_)
      refine Ow (w := w) (by omega) (fun g => BI (Ay ⟨?_, rfl⟩)) (fun g => BH (Ay ⟨?_, rfl⟩))
      · rw [if_pos (by omega)]
      · rw [if_neg (by omega)]
    · rw [if_neg ha, if_neg ha]
      exact Bi (fun _ => Ay ⟨rfl, rfl⟩) (fun h => absurd h (by decide))
  · unfold eT
    rw [if_neg fun h => hm (Mp.okB_iff.1 h)]
end
end Go.Proofs.Ytkdjkkimngeloaa
namespace Go.Proofs.Ytkdjkkimngeloaa
open Go.RowKit
section
variable {σ : Hp}
theorem RdS.lenS {A : Option Addr} {n : Nat} {xs : List (Option Addr × Nat × Nat)} (h : RdS [.slc] σ A n xs) : n = xs.length := h.1
theorem Tc {A : Option Addr} {n : Nat} {xs : List (Option Addr × Nat × Nat)} {i : Int} {K : Option Addr → Nat → Nat → Prop} (h : RdS [.slc] σ A n xs) (hi : 0 ≤ i) (hn : i.toNat < xs.length) (hk : K xs[i.toNat].1 xs[i.toNat].2.1 xs[i.toNat].2.2) : ix A n i 1 fun b a => ldS σ b a K := by
  refine GG (ss := [.slc]) h rfl hi hn fun b o hc => ?_
  exact RT (hc 0 (by decide)) hk
theorem Uj {m : Mp} {ls : List Lry} {t : Int} (h : eT m ls t = 0) : MpS m ∧ ls.length ≤ 8 ∧ (∀ l ∈ ls, AU m l) ∧ 0 ≤ t ∧ t < m.pk.length := by
  unfold eT at h
  split at h
  · rename_i h1
    split at h
    · cases h
    · rename_i h2
      split at h
      · rename_i h3
        split at h
        · rename_i h4
          exact ⟨Mp.okB_iff.1 h1, by omega, fun l hl => Ha.1 (List.all_eq_true.1 h3 l hl), h4⟩
        · cases h
      · cases h
  · cases h
end
end Go.Proofs.Ytkdjkkimngeloaa
