/- Trimmed by wip/trim.py to what this claim rests on. -/
import Derived.Test.YtkdjkkimngeloaaZVb1
import Derived.Test.YtkdjkkimngeloaaZC1
namespace Go.Proofs.Ytkdjkkimngeloaa
open Go.RowKit
instance {n : Nat} {r : Rdt} : Decidable (Nk n r) := by unfold Nk; infer_instance
def Mp.okB (m : Mp) : Bool := decide (1 ≤ m.pk.length ∧ m.pk.length ≤ 12) && decide (m.rs.length ≤ 30) && m.rs.all fun r => decide (Nk m.pk.length r)
theorem Mp.okB_iff {m : Mp} : m.okB = true ↔ MpS m := by
  unfold Mp.okB
  simp only [Bool.and_eq_true, decide_eq_true_eq, List.all_eq_true]
  exact ⟨fun h => ⟨h.1.1, h.1.2, h.2⟩, fun h => ⟨⟨h.n, h.k⟩, h.r⟩⟩
def lrB (n : Nat) (l : Lry) : Bool := decide ((0 ≤ l.h ∧ l.h ≤ 1000) ∧ (0 ≤ l.w ∧ l.w ≤ 1000) ∧ (0 ≤ l.fr ∧ l.fr < n) ∧ (0 ≤ l.rdy ∧ l.rdy ≤ 2000) ∧ (1 ≤ l.dr ∧ l.dr ≤ 500) ∧ (1 ≤ l.rst ∧ l.rst ≤ 500))
theorem Kk {m : Mp} {l : Lry} : lrB m.pk.length l = true ↔ Bi m l := by
  unfold lrB
  rw [decide_eq_true_eq]
  exact ⟨fun h => ⟨h.1, h.2.1, h.2.2.1, h.2.2.2.1, h.2.2.2.2.1, h.2.2.2.2.2⟩, fun h => ⟨h.h, h.w, h.f, h.y, h.d, h.s⟩⟩
def eM (m : Mp) : Int := if m.okB = true then 0 else 90
def eL (m : Mp) (l : Lry) : Int := if lrB m.pk.length l = true then 0 else 91
def eC (m : Mp) (ls : List Lry) : Int := if m.okB = true then (if ls.all (lrB m.pk.length) = true then 0 else 91) else 90
def eT (m : Mp) (ls : List Lry) (t : Int) : Int := if m.okB = true then (if 8 < ls.length then 2 else if ls.all (lrB m.pk.length) = true then (if 0 ≤ t ∧ t < m.pk.length then 0 else 1) else 91) else 90
structure MW where
  pA : Option Addr
  pn : Nat
  pc : Nat
  rA : Option Addr
  rn : Nat
  rc : Nat
abbrev MW.v (w : MW) : Value := .agg #[.slice w.pA w.pn w.pc, .slice w.rA w.rn w.rc]
abbrev sR : List Sh := [.int .i64, .int .i64, .int .i64, .int .i64, .int .i64]
abbrev sL : List Sh := [.int .i64, .int .i64, .int .i64, .int .i64, .int .i64, .int .i64]
structure MIn (σ : Hp) (w : MW) (m : Mp) : Prop where
  p : RdS [.bool] σ w.pA w.pn m.pk
  r : RdS sR σ w.rA w.rn m.rs
theorem MIn.up {σ σ' : Hp} {w : MW} {m : Mp} (h : MIn σ w m) (hs : Hp.Sub σ σ') : MIn σ' w m := ⟨h.p.sub hs, h.r.sub hs⟩
theorem MIn.pn {σ : Hp} {w : MW} {m : Mp} (h : MIn σ w m) : w.pn = m.pk.length := h.p.lenB
theorem RdS.lenR {σ : Hp} {A : Option Addr} {n : Nat} {xs : List Rdt} (h : RdS sR σ A n xs) : n = xs.length := h.1
theorem MIn.rn {σ : Hp} {w : MW} {m : Mp} (h : MIn σ w m) : w.rn = m.rs.length := h.r.lenR
abbrev rdV (r : Rdt) : Value := .agg #[.int .i64 r.1, .int .i64 r.2.1, .int .i64 r.2.2.1, .int .i64 r.2.2.2.1, .int .i64 r.2.2.2.2]
abbrev LrT := Int × Int × Int × Int × Int × Int
abbrev Lry.v (l : Lry) : Value := .agg #[.int .i64 l.h, .int .i64 l.w, .int .i64 l.fr, .int .i64 l.rdy, .int .i64 l.dr, .int .i64 l.rst]
def AJ (t : LrT) : Lry := ⟨t.1, t.2.1, t.2.2.1, t.2.2.2.1, t.2.2.2.2.1, t.2.2.2.2.2⟩
theorem RdS.lenL {σ : Hp} {A : Option Addr} {n : Nat} {xs : List LrT} (h : RdS sL σ A n xs) : n = xs.length := h.1
section
variable {σ : Hp}
theorem U8 {A : Option Addr} {n : Nat} {xs : List Rdt} {i : Int} {K : Int → Int → Int → Int → Int → Prop} (h : RdS sR σ A n xs) (hi : 0 ≤ i) (hn : i.toNat < xs.length) (hk : K xs[i.toNat].1 xs[i.toNat].2.1 xs[i.toNat].2.2.1 xs[i.toNat].2.2.2.1 xs[i.toNat].2.2.2.2) :
    ix A n i 5 fun b a => ldI σ .i64 b a fun x1 => ldI σ .i64 b (a + 1) fun x2 => ldI σ .i64 b (a + 2) fun x3 => ldI σ .i64 b (a + 3) fun x4 => ldI σ .i64 b (a + 4) fun x5 => K x1 x2 x3 x4 x5 := by
  refine HU (ss := sR) h rfl hi hn fun b o hc => ?_
  exact Br (hc 0 (by decide)) (Br (hc 1 (by decide)) (Br (hc 2 (by decide)) (Br (hc 3 (by decide)) (Br (hc 4 (by decide)) hk))))
theorem Py {A : Option Addr} {n : Nat} {xs : List LrT} {i : Int} {K : Int → Int → Int → Int → Int → Int → Prop} (h : RdS sL σ A n xs) (hi : 0 ≤ i) (hn : i.toNat < xs.length) (hk : K xs[i.toNat].1 xs[i.toNat].2.1 xs[i.toNat].2.2.1 xs[i.toNat].2.2.2.1 xs[i.toNat].2.2.2.2.1 xs[i.toNat].2.2.2.2.2) :
    ix A n i 6 fun b a => ldI σ .i64 b a fun x1 => ldI σ .i64 b (a + 1) fun x2 => ldI σ .i64 b (a + 2) fun x3 => ldI σ .i64 b (a + 3) fun x4 => ldI σ .i64 b (a + 4) fun x5 => ldI σ .i64 b (a + 5) fun x6 => K x1 x2 x3 x4 x5 x6 := by
  refine HU (ss := sL) h rfl hi hn fun b o hc => ?_
  exact Br (hc 0 (by decide)) (Br (hc 1 (by decide)) (Br (hc 2 (by decide)) (Br (hc 3 (by decide)) (Br (hc 4 (by decide)) (Br (hc 5 (by decide)) hk)))))
theorem TX {n lo hi : Int} : Ag Try.prog GY #[.int .i64 n, .int .i64 lo, .int .i64 hi] σ fun v σ' => v = .bool (decide (lo ≤ n ∧ n ≤ hi)) ∧ σ' = σ := by
  refine Jb _ _ _ _ _ ?_
  unfold D4
  refine AK (fun h => Av ⟨?_, rfl⟩) (fun h => Av ⟨?_, rfl⟩)
  · simp [h]
  · simp [h]
theorem Cz {n lo hi : Int} {K : Bool → Hp → Prop} (h1 : lo ≤ n ∧ n ≤ hi → K true σ) (h2 : ¬ (lo ≤ n ∧ n ≤ hi) → K false σ) : cl Try.prog (.func (.func GY) #[] #[]) #[.int .i64 n, .int .i64 lo, .int .i64 hi] σ fun v σ' => ∃ t : Bool, (v = .bool t ∧ K t σ') :=
  clB G1 TX (by by_cases h : lo ≤ n ∧ n ≤ hi <;> simp only [h] <;> first | exact h1 h | exact h2 h)
theorem V2 {w : MW} {n : Int} (hw : w.pn ≤ 4294967296) : Ag Try.prog Fj #[w.v, .int .i64 n] σ fun v σ' => v = .bool (decide (0 ≤ n ∧ n < w.pn)) ∧ σ' = σ := by
  refine KM _ _ _ _ _ _ _ _ _ ?_
  unfold FB
  refine AL (by omega) (Cz (fun h => Av ⟨?_, rfl⟩) (fun h => Av ⟨?_, rfl⟩))
  · rw [decide_eq_true (by omega)]
  · rw [decide_eq_false (by omega)]
theorem QT {w : MW} {n : Int} {K : Bool → Hp → Prop} (hw : w.pn ≤ 4294967296) (h1 : 0 ≤ n ∧ n < w.pn → K true σ) (h2 : ¬ (0 ≤ n ∧ n < w.pn) → K false σ) : cl Try.prog (.func (.func Fj) #[] #[]) #[w.v, .int .i64 n] σ fun v σ' => ∃ t : Bool, (v = .bool t ∧ K t σ') :=
  clB ID (V2 hw) (by by_cases h : 0 ≤ n ∧ n < w.pn <;> simp only [h] <;> first | exact h1 h | exact h2 h)
theorem RZ {w : MW} {r : Rdt} {b : Nat} {f : Nat × Nat} {rw : Bool} (hw : w.pn ≤ 4294967296) (hb : σ b = some (.cells #[.slice w.pA w.pn w.pc, .slice w.rA w.rn w.rc] 25 f, rw)) : Ag Try.prog KQ #[rdV r, .pointer (some ⟨b, 0, none⟩)] σ fun v σ' => v = .bool (!decide (Nk w.pn r)) ∧ σ' = σ := by
  refine IE _ _ _ _ _ _ _ _ ?_
  unfold DL
  have no : ¬ Nk w.pn r → rt σ (fun v σ' => v = .bool (!decide (Nk w.pn r)) ∧ σ' = σ) (.bool true) := fun h => Av ⟨by rw [decide_eq_false h]; rfl, rfl⟩
  have ld : ∀ {K : Bool → Hp → Prop} {n : Int}, (0 ≤ n ∧ n < w.pn → K true σ) → (¬ (0 ≤ n ∧ n < w.pn) → K false σ) → dr (some ⟨b, 0, none⟩) fun b1 o2 => ldS σ b1 o2 fun A3 l3 c3 => ldS σ b1 (o2 + 1) fun A4 l4 c4 => cl Try.prog (.func (.func Fj) #[] #[]) #[.agg #[.slice A3 l3 c3, .slice A4 l4 c4], .int .i64 n] σ fun v σ' => ∃ t : Bool, (v = .bool t ∧ K t σ') := fun h1 h2 =>
    AN (CP hb rfl (CP hb rfl (QT (w := w) hw h1 h2)))
  refine ld (fun h1 => BX ?_) (fun h1 => BW (no fun h => h1 h.1))
  refine ld (fun h2 => BX ?_) (fun h2 => BW (no fun h => h2 h.2.1))
  refine AK (fun h3 => no fun h => h.2.2.1 h3) (fun h3 => ?_)
  refine Cz (fun h4 => BX ?_) (fun h4 => BW (no fun h => h4 h.2.2.2.1))
  refine Cz (fun h5 => BX ?_) (fun h5 => BW (no fun h => h5 h.2.2.2.2.1))
  refine Cz (fun h6 => Av ⟨?_, rfl⟩) (fun h6 => Av ⟨?_, rfl⟩)
  · rw [decide_eq_true ⟨h1, h2, h3, h4, h5, h6⟩]
  · rw [decide_eq_false fun h => h6 h.2.2.2.2.2]
def PZ {α : Type} (p : α → Bool) (xs : List α) : Int := if xs.findIdx p < xs.length then (xs.findIdx p : Int) else -1
theorem Ut {α : Type} {p : α → Bool} {xs : List α} {k : Nat} (hk : k < xs.length) (h : p xs[k] = true) (hj : ∀ j, (h : j < xs.length) → j < k → p xs[j] = false) : PZ p xs = k := by
  have : xs.findIdx p = k := (List.findIdx_eq hk).2 ⟨h, fun j hjk => hj j (by omega) hjk⟩
  unfold PZ
  rw [this, if_pos hk]
theorem RW {α : Type} {p : α → Bool} {xs : List α} (h : ∀ j, (h : j < xs.length) → p xs[j] = false) : PZ p xs = -1 := by
  have : xs.findIdx p = xs.length := List.findIdx_eq_length.2 fun x hx => by
    obtain ⟨i, hi, rfl⟩ := List.getElem_of_mem hx
    exact h i hi
  unfold PZ
  rw [this, if_neg (by omega)]
theorem Ty {α : Type} {p : α → Bool} {xs : List α} : decide (0 ≤ PZ p xs) = xs.any p := by
  unfold PZ
  split
  · rename_i h
    have : xs.any p = true := List.any_eq_true.2 ⟨_, List.getElem_mem h, List.findIdx_getElem⟩
    rw [this]
    simp
  · rename_i h
    have h1 : xs.findIdx p = xs.length := by have := List.findIdx_le_length (p := p) (xs := xs); omega
    have := List.findIdx_eq_length.1 h1
    simp
    intro x hx
    simp [this x hx]
def Dec {α : Type} (f : Value) (enc : α → Array Value) (p : α → Bool) (xs : List α) (σ : Hp) : Prop := ∀ a ∈ xs, ∀ K : Bool → Hp → Prop, K (p a) σ → cl Try.prog f (enc a) σ fun v σ' => ∃ t : Bool, (v = .bool t ∧ K t σ')
theorem Dec.of {α : Type} {g : FuncId} {caps : Array Value} {enc : α → Array Value} {p : α → Bool} {xs : List α} {σ : Hp} (he : Aw Try.prog g = true) (h : ∀ a ∈ xs, Ag Try.prog g (Od #[] (enc a) caps) σ fun u σ' => u = .bool (p a) ∧ σ' = σ) : Dec (.func (.func g) #[] caps) enc p xs σ :=
  fun a ha _ hk => HY.func he ((h a ha).mono fun _ _ ⟨e1, e2⟩ => by subst e1; subst e2; exact ⟨_, rfl, hk⟩)
abbrev Vc (r : Rdt) : Array Value := #[rdV r]
theorem Mt {A : Option Addr} {n c : Nat} {f : Value} {xs : List Rdt} {p : Rdt → Bool} (hx : RdS sR σ A n xs) (hl : xs.length ≤ 4294967296) (hf : Dec f Vc p xs σ) :
    Ag Try.prog Ee #[.slice A n c, f] σ fun v σ' => v = .int .i64 (PZ p xs) ∧ σ' = σ := by
  refine DK _ _ _ _ _ _ ?_
  unfold BJ
  refine Ad fun J hJ => ?_
  have hn := hx.lenR
  refine ⟨fun n i σ' => ∃ k : Nat, n = xs.length - k ∧ i = k ∧ k ≤ xs.length ∧ σ' = σ ∧ ∀ j, (h : j < xs.length) → j < k → p xs[j] = false, ⟨_, 0, rfl, rfl, by omega, rfl, fun j _ h => by omega⟩, ?_⟩
  rintro n i σ' ⟨k, rfl, rfl, hk, rfl, hj⟩ _
  refine AK (fun hlt => ?_) (fun hlt => ?_)
  · have hkl : k < xs.length := by omega
    refine U8 hx (by omega) (by simpa using hkl) ?_
    refine hf _ (List.getElem_mem (show (k : Int).toNat < xs.length by simpa using hkl)) _ ?_
    simp only [Int.toNat_natCast]
    refine I2 (fun h => Av ⟨?_, rfl⟩) (fun h => AL (by omega) (Bf _ (by omega) ⟨k + 1, rfl, rfl, by omega, rfl, fun j h' hjk => ?_⟩))
    · rw [Ut hkl h hj]
    · rcases Nat.lt_or_ge j k with hlt | hge
      · exact hj j h' hlt
      · have : j = k := by omega
        subst this
        exact h
  · subst hJ
    intro _
    refine Av ⟨?_, rfl⟩
    rw [RW fun j h => hj j h (by omega)]
theorem JE {A : Option Addr} {n c : Nat} {f : Value} {xs : List Rdt} {p : Rdt → Bool} (hx : RdS sR σ A n xs) (hl : xs.length ≤ 4294967296) (hf : Dec f Vc p xs σ) :
    Ag Try.prog DM #[.slice A n c, f] σ fun v σ' => v = .bool (xs.any p) ∧ σ' = σ := by
  refine Dd _ _ _ _ _ _ ?_
  unfold Bq
  refine clI Dg (Mt hx hl hf) (Av ⟨?_, rfl⟩)
  rw [Ty]
theorem UT {w : MW} {m : Mp} (h : MIn σ w m) (hp : m.pk.length ≤ 4294967296) (hr : m.rs.length ≤ 4294967296) : Ag Try.prog HV #[w.v] σ fun v σ' => v = .int .i64 (eM m) ∧ σ' = σ := by
  refine Jr _ _ _ _ _ _ _ _ ?_
  unfold Et
  intro b1 n1
  have s1 := Hp.Sub.ins (.cells #[.slice w.pA w.pn w.pc, .slice w.rA w.rn w.rc] 25 (0, 0)) n1
  have hb := Hp.ins_same σ b1 (.cells #[.slice w.pA w.pn w.pc, .slice w.rA w.rn w.rc] 25 (0, 0))
  have h' := h.up s1
  have e1 := h.pn
  have e2 := h.rn
  generalize σ.ins b1 (.cells #[.slice w.pA w.pn w.pc, .slice w.rA w.rn w.rc] 25 (0, 0)) = σ2 at s1 hb h' ⊢
  refine Ad fun J5 h5 => Ad fun J8 h8 => ?_
  have k5 : m.okB = true → J5 σ2 := fun ho => by
    rw [h5]
    intro _
    exact CY s1 ⟨by unfold eM; rw [if_pos ho], rfl⟩
  have k8 : m.okB = false → J8 true σ2 := fun ho => by
    rw [h8]
    intro _
    exact Ef (CY s1 ⟨by unfold eM; rw [ho]; rfl, rfl⟩)
  have bad : ¬ MpS m → m.okB = false := fun hn => by
    cases ho : m.okB
    · rfl
    · exact absurd (Mp.okB_iff.1 ho) hn
  refine CP hb rfl (Cz (fun h1 => BX ?_) (fun h1 => BW (k8 (bad fun hm => h1 (by have := hm.n; omega)))))
  refine CP hb rfl (AK (fun h2 => k8 (bad fun hm => by have := hm.k; omega)) (fun h2 => ?_))
  refine CP hb rfl (clB CI (JE (p := fun r => !decide (Nk w.pn r)) h'.r hr (Dec.of F6 fun r _ => RZ (w := w) (by omega) hb)) ?_)
  rw [h8]
  intro _
  refine I2 (fun ha => ?_) (fun ha => k5 ?_)
  · refine CY s1 ⟨?_, rfl⟩
    unfold eM
    rw [bad fun hm => ?_]
    · rfl
    · obtain ⟨r, hr1, hr2⟩ := List.any_eq_true.1 ha
      have := hm.r r hr1
      rw [e1] at hr2
      simp [this] at hr2
  · rw [Mp.okB_iff]
    refine ⟨by omega, by omega, fun r hr1 => ?_⟩
    have := List.any_eq_false.1 ha r hr1
    rw [e1] at this
    simpa using this
end
end Go.Proofs.Ytkdjkkimngeloaa
namespace Go.Proofs.Ytkdjkkimngeloaa
open Go.RowKit
section
variable {σ : Hp}
theorem VL {r : Rdt} {l : Lry} : Ag Try.prog Fw #[rdV r, l.v] σ fun v σ' => v = .bool (decide (Ft l r)) ∧ σ' = σ := by
  refine KB _ _ _ _ _ _ _ _ _ _ _ _ _ ?_
  unfold Fv Ft
  refine AK (fun h => Av ⟨?_, rfl⟩) (fun h => Av ⟨?_, rfl⟩)
  · simp [h]
  · simp [h]
theorem VE {r : Rdt} {l : Lry} {K : Bool → Hp → Prop} (h1 : Ft l r → K true σ) (h2 : ¬ Ft l r → K false σ) : cl Try.prog (.func (.func Fw) #[] #[]) #[rdV r, l.v] σ fun v σ' => ∃ t : Bool, (v = .bool t ∧ K t σ') :=
  clB Iz VL (by by_cases h : Ft l r <;> simp only [h] <;> first | exact h1 h | exact h2 h)
theorem Rb {w : MW} {m : Mp} {K : Int → Hp → Prop} (h : MIn σ w m) (hp : m.pk.length ≤ 4294967296) (hr : m.rs.length ≤ 4294967296) (h1 : MpS m → K 0 σ) (h2 : ¬ MpS m → K 90 σ) : cl Try.prog (.func (.func HV) #[] #[]) #[w.v] σ fun v σ' => ∃ t : Int, (v = .int .i64 t ∧ K t σ') :=
  clI HZ (UT h hp hr) (by
    unfold eM
    by_cases c : m.okB = true
    · rw [if_pos c]; exact h1 (Mp.okB_iff.1 c)
    · rw [if_neg c]; exact h2 fun h => c (Mp.okB_iff.2 h))
theorem U5 {w : MW} {m : Mp} {A : Option Addr} {n c : Nat} {ls : List LrT} (h : MIn σ w m) (hp : m.pk.length ≤ 4294967296) (hr : m.rs.length ≤ 4294967296) (hl : RdS sL σ A n ls) (hll : ls.length ≤ 4294967296) :
    Ag Try.prog MZ #[w.v, .slice A n c] σ fun v σ' => v = .int .i64 (eC m (ls.map AJ)) ∧ σ' = σ := by
  refine JD _ _ _ _ _ _ _ _ _ _ _ ?_
  unfold Ey
  have hpn := h.pn
  have hn := hl.lenL
  refine Rb h hp hr (fun hm => Bj (fun h => absurd rfl h) (fun _ => ?_)) (fun hm => Bj (fun _ => Av ⟨?_, rfl⟩) (fun h => absurd h (by decide)))
  · have ho := Mp.okB_iff.2 hm
    refine Ad fun J6 h6 => ?_
    refine ⟨fun q i τ => ∃ k : Nat, q = ls.length - k ∧ i = k ∧ k ≤ ls.length ∧ τ = σ ∧ ∀ j, (h : j < ls.length) → j < k → lrB m.pk.length (AJ ls[j]) = true, ⟨_, 0, rfl, rfl, by omega, rfl, fun j _ h => by omega⟩, ?_⟩
    rintro q i τ ⟨k, rfl, rfl, hk, rfl, hj⟩ _
    refine AK (fun hlt => ?_) (fun hge => ?_)
    · have hkl : k < ls.length := by omega
      refine Ad fun J14 h14 => ?_
      refine Py hl (by omega) (by simpa using hkl) ?_
      simp only [Int.toNat_natCast]
      refine Ad fun J28 h28 => ?_
      have bad : lrB m.pk.length (AJ ls[k]) = false → J28 true τ := fun hb => by
        rw [h28]
        intro _
        refine Ef (Av ⟨?_, rfl⟩)
        unfold eC
        rw [if_pos ho, if_neg]
        intro ha
        have := List.all_eq_true.1 ha (AJ ls[k]) (List.mem_map_of_mem (List.getElem_mem hkl))
        rw [hb] at this
        cases this
      have ne : (¬ ((0 ≤ (AJ ls[k]).h ∧ (AJ ls[k]).h ≤ 1000) ∧ (0 ≤ (AJ ls[k]).w ∧ (AJ ls[k]).w ≤ 1000) ∧ (0 ≤ (AJ ls[k]).fr ∧ (AJ ls[k]).fr < m.pk.length) ∧ (0 ≤ (AJ ls[k]).rdy ∧ (AJ ls[k]).rdy ≤ 2000) ∧ (1 ≤ (AJ ls[k]).dr ∧ (AJ ls[k]).dr ≤ 500) ∧ (1 ≤ (AJ ls[k]).rst ∧ (AJ ls[k]).rst ≤ 500))) → J28 true τ := fun hb => bad (by unfold lrB; rw [decide_eq_false hb])
      refine Cz (fun g1 => BX ?_) (fun g1 => BW (ne fun g => g1 g.1))
      refine Cz (fun g2 => BX ?_) (fun g2 => BW (ne fun g => g2 g.2.1))
      refine QT (w := w) (by omega) (fun g3 => BX ?_) (fun g3 => BW (ne fun g => g3 ⟨g.2.2.1.1, by have := g.2.2.1.2; rw [hpn]; exact this⟩))
      refine Cz (fun g4 => BX ?_) (fun g4 => BW (ne fun g => g4 g.2.2.2.1))
      refine Cz (fun g5 => BX ?_) (fun g5 => BW (ne fun g => g5 g.2.2.2.2.1))
      refine Cz (fun g6 => ?_) (fun g6 => ne fun g => g6 g.2.2.2.2.2)
      rw [h28]
      intro _
      refine Dw ?_
      rw [h14]
      intro _
      refine AL (by omega) (Bf _ (by omega) ⟨k + 1, rfl, rfl, by omega, rfl, fun j h' hjk => ?_⟩)
      rcases Nat.lt_or_ge j k with hlt | hge
      · exact hj j h' hlt
      · obtain rfl : j = k := by omega
        unfold lrB
        rw [decide_eq_true]
        exact ⟨g1, g2, ⟨g3.1, by have := g3.2; rw [hpn] at this; exact this⟩, g4, g5, g6⟩
    · subst h6
      intro _
      refine Av ⟨?_, rfl⟩
      unfold eC
      rw [if_pos ho, if_pos]
      refine List.all_eq_true.2 fun x hx => ?_
      obtain ⟨y, hy, rfl⟩ := List.mem_map.1 hx
      obtain ⟨j, hjl, rfl⟩ := List.mem_iff_getElem.1 hy
      exact hj j hjl (by omega)
  · unfold eC
    rw [if_neg fun h => hm (Mp.okB_iff.1 h)]
abbrev sJ : List Sh := [.int .i64, .int .i64]
theorem RdS.lenJ {A : Option Addr} {n : Nat} {xs : List Leg} (h : RdS sJ σ A n xs) : n = xs.length := h.1
theorem V9 {A : Option Addr} {n : Nat} {xs : List Leg} {i : Int} {K : Int → Int → Prop} (h : RdS sJ σ A n xs) (hi : 0 ≤ i) (hn : i.toNat < xs.length) (hk : K xs[i.toNat].1 xs[i.toNat].2) :
    ix A n i 2 fun b a => ldI σ .i64 b a fun x1 => ldI σ .i64 b (a + 1) fun x2 => K x1 x2 := by
  refine HU (ss := sJ) h rfl hi hn fun b o hc => ?_
  exact Br (hc 0 (by decide)) (Br (hc 1 (by decide)) hk)
theorem RJ {A : Option Addr} {n : Nat} {xs : List Bool} {i : Int} {K : Bool → Prop} (h : RdS [.bool] σ A n xs) (hi : 0 ≤ i) (hn : i < xs.length) (hk : K (gbp xs i)) : ix A n i 1 fun b a => ldB σ b a K := by
  refine Vl h hi (by omega) ?_
  have hk' : i.toNat < xs.length := by omega
  have e : gbp xs i = xs[i.toNat] := by unfold gbp; simp [List.getD, hk']
  rw [← e]
  exact hk
end
end Go.Proofs.Ytkdjkkimngeloaa
namespace Go.Proofs.Ytkdjkkimngeloaa
open Go.RowKit
section
variable {σ : Hp}
theorem Blk.sub {b : Nat} {o : Obj} {σ σ' : Hp} (h : Blk b o σ σ') : Hp.Sub σ σ' := by
  obtain ⟨h1, rfl⟩ := h
  exact Hp.Sub.ins _ h1
theorem T1 {A : Option Addr} {n : Nat} {xs : List Leg} {i : Int} {K : Int → Int → Prop} (h : RdS sJ σ A n xs) (hi : 0 ≤ i) (hn : i.toNat < xs.length) (hk : ∀ x : Leg, xs[i.toNat] = x → K x.1 x.2) :
    ix A n i 2 fun b a => ldI σ .i64 b a fun x1 => ldI σ .i64 b (a + 1) fun x2 => K x1 x2 := V9 h hi hn (hk _ rfl)
theorem Ob {A : Option Addr} {n : Nat} {xs : List Rdt} {i : Int} {K : Int → Int → Int → Int → Int → Prop} (h : RdS sR σ A n xs) (hi : 0 ≤ i) (hn : i.toNat < xs.length) (hk : ∀ r : Rdt, xs[i.toNat] = r → K r.1 r.2.1 r.2.2.1 r.2.2.2.1 r.2.2.2.2) :
    ix A n i 5 fun b a => ldI σ .i64 b a fun x1 => ldI σ .i64 b (a + 1) fun x2 => ldI σ .i64 b (a + 2) fun x3 => ldI σ .i64 b (a + 3) fun x4 => ldI σ .i64 b (a + 4) fun x5 => K x1 x2 x3 x4 x5 := U8 h hi hn (hk _ rfl)
theorem NS {m : Mp} {i : Int} (h : i.toNat < m.rs.length) : AF m i = m.rs[i.toNat] := by unfold AF; simp [List.getD, h]
theorem H3 {w : MW} {m : Mp} {t : Int} {A : Option Addr} {n c : Nat} {ls : List LrT} (h : MIn σ w m) (hp : m.pk.length ≤ 4294967296) (hr : m.rs.length ≤ 4294967296) (hl : RdS sL σ A n ls) (hll : ls.length ≤ 4294967296) :
    Ag Try.prog Jk #[w.v, .int .i64 t, .slice A n c] σ fun v σ' => v = .int .i64 (eT m (ls.map AJ) t) ∧ σ' = σ := by
  refine G9 _ _ _ _ _ _ _ _ _ _ _ _ ?_
  unfold C0
  have hpn := h.pn
  have hn := hl.lenL
  refine Rb h hp hr (fun hm => Bj (fun h => absurd rfl h) (fun _ => ?_)) (fun hm => Bj (fun _ => Av ⟨?_, rfl⟩) (fun h => absurd h (by decide)))
  · have ho := Mp.okB_iff.2 hm
    refine AK (fun h8 => Av ⟨?_, rfl⟩) (fun h8 => ?_)
    · unfold eT
      rw [if_pos ho, if_pos (by rw [List.length_map]; omega)]
    refine clI HK (U5 h hp hr hl hll) ?_
    have e : eT m (ls.map AJ) t = if (ls.map AJ).all (lrB m.pk.length) = true then (if 0 ≤ t ∧ t < m.pk.length then 0 else 1) else 91 := by
      unfold eT
      rw [if_pos ho, if_neg (by rw [List.length_map]; omega)]
    have e2 : eC m (ls.map AJ) = if (ls.map AJ).all (lrB m.pk.length) = true then 0 else 91 := by
      unfold eC
      rw [if_pos ho]
    rw [e2, e]
    by_cases ha : (ls.map AJ).all (lrB m.pk.length) = true
    · rw [if_pos ha, if_pos ha]
      refine Bj (fun h => absurd rfl h) (fun _ => ?_)
      refine QT (w := w) (by omega) (fun g => BX (Av ⟨?_, rfl⟩)) (fun g => BW (Av ⟨?_, rfl⟩))
      · rw [if_pos (by omega)]
      · rw [if_neg (by omega)]
    · rw [if_neg ha, if_neg ha]
      exact Bj (fun _ => Av ⟨rfl, rfl⟩) (fun h => absurd h (by decide))
  · unfold eT
    rw [if_neg fun h => hm (Mp.okB_iff.1 h)]
end
end Go.Proofs.Ytkdjkkimngeloaa
namespace Go.Proofs.Ytkdjkkimngeloaa
open Go.RowKit
section
variable {σ : Hp}
def Wc (σ : Hp) (A : Option Addr) (n : Nat) (js : List (List Leg)) : Prop := ∃ ss : List (Option Addr × Nat × Nat), RdS [.slc] σ A n ss ∧ ss.length = js.length ∧ ∀ i (h1 : i < ss.length) (h2 : i < js.length), RdS sJ σ ss[i].1 ss[i].2.1 js[i]
theorem ML {m : Mp} {ls : List Lry} {t : Int} (h : eT m ls t = 0) : MpS m ∧ ls.length ≤ 8 ∧ (∀ l ∈ ls, Bi m l) ∧ 0 ≤ t ∧ t < m.pk.length := by
  unfold eT at h
  split at h
  · rename_i h1
    split at h
    · cases h
    · rename_i h2
      split at h
      · rename_i h3
        split at h
        · rename_i h4
          exact ⟨Mp.okB_iff.1 h1, by omega, fun l hl => Kk.1 (List.all_eq_true.1 h3 l hl), h4⟩
        · cases h
      · cases h
  · cases h
end
end Go.Proofs.Ytkdjkkimngeloaa
