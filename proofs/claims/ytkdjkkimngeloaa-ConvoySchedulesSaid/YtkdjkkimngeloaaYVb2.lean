/- Trimmed by wip/trim.py to what this claim rests on. -/
import Derived.Test.YtkdjkkimngeloaaYVb1
import Derived.Test.YtkdjkkimngeloaaYC1
namespace Go.Proofs.Ytkdjkkimngeloaa
open Go.RowKit
instance {n : Nat} {r : Rdt} : Decidable (Mq n r) := by unfold Mq; infer_instance
def Mp.okB (m : Mp) : Bool := decide (1 ≤ m.pk.length ∧ m.pk.length ≤ 12) && decide (m.rs.length ≤ 30) && m.rs.all fun r => decide (Mq m.pk.length r)
theorem Mp.okB_iff {m : Mp} : m.okB = true ↔ MpS m := by
  unfold Mp.okB
  simp only [Bool.and_eq_true, decide_eq_true_eq, List.all_eq_true]
  exact ⟨fun h => ⟨h.1.1, h.1.2, h.2⟩, fun h => ⟨⟨h.n, h.k⟩, h.r⟩⟩
def lrB (n : Nat) (l : Lry) : Bool := decide ((0 ≤ l.h ∧ l.h ≤ 1000) ∧ (0 ≤ l.w ∧ l.w ≤ 1000) ∧ (0 ≤ l.fr ∧ l.fr < n) ∧ (0 ≤ l.rdy ∧ l.rdy ≤ 2000) ∧ (1 ≤ l.dr ∧ l.dr ≤ 500) ∧ (1 ≤ l.rst ∧ l.rst ≤ 500))
theorem K7 {m : Mp} {l : Lry} : lrB m.pk.length l = true ↔ Bj m l := by
  unfold lrB
  rw [decide_eq_true_eq]
  exact ⟨fun h => ⟨h.1, h.2.1, h.2.2.1, h.2.2.2.1, h.2.2.2.2.1, h.2.2.2.2.2⟩, fun h => ⟨h.h, h.w, h.f, h.y, h.d, h.s⟩⟩
def eM (m : Mp) : Int := if m.okB = true then 0 else 90
def eL (m : Mp) (l : Lry) : Int := if lrB m.pk.length l = true then 0 else 91
def eC (m : Mp) (ls : List Lry) : Int := if m.okB = true then (if ls.all (lrB m.pk.length) = true then 0 else 91) else 90
def eT (m : Mp) (ls : List Lry) (t : Int) : Int := if m.okB = true then (if 8 < ls.length then 2 else if ls.all (lrB m.pk.length) = true then (if 0 ≤ t ∧ t < m.pk.length then 0 else 1) else 91) else 90
structure MW where
  pA : Option Addr
  pn : Nat
  pc : Nat
  rA : Option Addr
  rn : Nat
  rc : Nat
abbrev MW.v (w : MW) : Value := .agg #[.slice w.pA w.pn w.pc, .slice w.rA w.rn w.rc]
abbrev sR : List Sh := [.int .i64, .int .i64, .int .i64, .int .i64, .int .i64]
abbrev sL : List Sh := [.int .i64, .int .i64, .int .i64, .int .i64, .int .i64, .int .i64]
structure MIn (σ : Hp) (w : MW) (m : Mp) : Prop where
  p : RdS [.bool] σ w.pA w.pn m.pk
  r : RdS sR σ w.rA w.rn m.rs
theorem MIn.up {σ σ' : Hp} {w : MW} {m : Mp} (h : MIn σ w m) (hs : Hp.Sub σ σ') : MIn σ' w m := ⟨h.p.sub hs, h.r.sub hs⟩
theorem MIn.pn {σ : Hp} {w : MW} {m : Mp} (h : MIn σ w m) : w.pn = m.pk.length := h.p.lenB
theorem RdS.lenR {σ : Hp} {A : Option Addr} {n : Nat} {xs : List Rdt} (h : RdS sR σ A n xs) : n = xs.length := h.1
theorem MIn.rn {σ : Hp} {w : MW} {m : Mp} (h : MIn σ w m) : w.rn = m.rs.length := h.r.lenR
abbrev rdV (r : Rdt) : Value := .agg #[.int .i64 r.1, .int .i64 r.2.1, .int .i64 r.2.2.1, .int .i64 r.2.2.2.1, .int .i64 r.2.2.2.2]
abbrev LrT := Int × Int × Int × Int × Int × Int
abbrev Lry.v (l : Lry) : Value := .agg #[.int .i64 l.h, .int .i64 l.w, .int .i64 l.fr, .int .i64 l.rdy, .int .i64 l.dr, .int .i64 l.rst]
def AM (t : LrT) : Lry := ⟨t.1, t.2.1, t.2.2.1, t.2.2.2.1, t.2.2.2.2.1, t.2.2.2.2.2⟩
theorem RdS.lenL {σ : Hp} {A : Option Addr} {n : Nat} {xs : List LrT} (h : RdS sL σ A n xs) : n = xs.length := h.1
section
variable {σ : Hp}
theorem T2 {A : Option Addr} {n : Nat} {xs : List Rdt} {i : Int} {K : Int → Int → Int → Int → Int → Prop} (h : RdS sR σ A n xs) (hi : 0 ≤ i) (hn : i.toNat < xs.length) (hk : K xs[i.toNat].1 xs[i.toNat].2.1 xs[i.toNat].2.2.1 xs[i.toNat].2.2.2.1 xs[i.toNat].2.2.2.2) :
    ix A n i 5 fun b a => ldI σ .i64 b a fun x1 => ldI σ .i64 b (a + 1) fun x2 => ldI σ .i64 b (a + 2) fun x3 => ldI σ .i64 b (a + 3) fun x4 => ldI σ .i64 b (a + 4) fun x5 => K x1 x2 x3 x4 x5 := by
  refine Gx (ss := sR) h rfl hi hn fun b o hc => ?_
  exact Bu (hc 0 (by decide)) (Bu (hc 1 (by decide)) (Bu (hc 2 (by decide)) (Bu (hc 3 (by decide)) (Bu (hc 4 (by decide)) hk))))
theorem NY {A : Option Addr} {n : Nat} {xs : List LrT} {i : Int} {K : Int → Int → Int → Int → Int → Int → Prop} (h : RdS sL σ A n xs) (hi : 0 ≤ i) (hn : i.toNat < xs.length) (hk : K xs[i.toNat].1 xs[i.toNat].2.1 xs[i.toNat].2.2.1 xs[i.toNat].2.2.2.1 xs[i.toNat].2.2.2.2.1 xs[i.toNat].2.2.2.2.2) :
    ix A n i 6 fun b a => ldI σ .i64 b a fun x1 => ldI σ .i64 b (a + 1) fun x2 => ldI σ .i64 b (a + 2) fun x3 => ldI σ .i64 b (a + 3) fun x4 => ldI σ .i64 b (a + 4) fun x5 => ldI σ .i64 b (a + 5) fun x6 => K x1 x2 x3 x4 x5 x6 := by
  refine Gx (ss := sL) h rfl hi hn fun b o hc => ?_
  exact Bu (hc 0 (by decide)) (Bu (hc 1 (by decide)) (Bu (hc 2 (by decide)) (Bu (hc 3 (by decide)) (Bu (hc 4 (by decide)) (Bu (hc 5 (by decide)) hk)))))
theorem Sm {n lo hi : Int} : Ah Try.prog Gy #[.int .i64 n, .int .i64 lo, .int .i64 hi] σ fun v σ' => v = .bool (decide (lo ≤ n ∧ n ≤ hi)) ∧ σ' = σ := by
  refine Ix _ _ _ _ _ ?_
  unfold DV
  refine Bc (fun h => Ay ⟨?_, rfl⟩) (fun h => Ay ⟨?_, rfl⟩)
  · simp [h]
  · simp [h]
theorem Cs {n lo hi : Int} {K : Bool → Hp → Prop} (h1 : lo ≤ n ∧ n ≤ hi → K true σ) (h2 : ¬ (lo ≤ n ∧ n ≤ hi) → K false σ) : cl Try.prog (.func (.func Gy) #[] #[]) #[.int .i64 n, .int .i64 lo, .int .i64 hi] σ fun v σ' => ∃ t : Bool, (v = .bool t ∧ K t σ') :=
  clB GG Sm (by by_cases h : lo ≤ n ∧ n ≤ hi <;> simp only [h] <;> first | exact h1 h | exact h2 h)
theorem Uy {w : MW} {n : Int} (hw : w.pn ≤ 4294967296) : Ah Try.prog EU #[w.v, .int .i64 n] σ fun v σ' => v = .bool (decide (0 ≤ n ∧ n < w.pn)) ∧ σ' = σ := by
  refine JH _ _ _ _ _ _ _ _ _ ?_
  unfold Fc
  refine AU (by omega) (Cs (fun h => Ay ⟨?_, rfl⟩) (fun h => Ay ⟨?_, rfl⟩))
  · rw [decide_eq_true (by omega)]
  · rw [decide_eq_false (by omega)]
theorem PA {w : MW} {n : Int} {K : Bool → Hp → Prop} (hw : w.pn ≤ 4294967296) (h1 : 0 ≤ n ∧ n < w.pn → K true σ) (h2 : ¬ (0 ≤ n ∧ n < w.pn) → K false σ) : cl Try.prog (.func (.func EU) #[] #[]) #[w.v, .int .i64 n] σ fun v σ' => ∃ t : Bool, (v = .bool t ∧ K t σ') :=
  clB H8 (Uy hw) (by by_cases h : 0 ≤ n ∧ n < w.pn <;> simp only [h] <;> first | exact h1 h | exact h2 h)
theorem Ry {w : MW} {r : Rdt} {b : Nat} {f : Nat × Nat} {rw : Bool} (hw : w.pn ≤ 4294967296) (hb : σ b = some (.cells #[.slice w.pA w.pn w.pc, .slice w.rA w.rn w.rc] 25 f, rw)) : Ah Try.prog JN #[rdV r, .pointer (some ⟨b, 0, none⟩)] σ fun v σ' => v = .bool (!decide (Mq w.pn r)) ∧ σ' = σ := by
  refine H4 _ _ _ _ _ _ _ _ ?_
  unfold Dq
  have no : ¬ Mq w.pn r → rt σ (fun v σ' => v = .bool (!decide (Mq w.pn r)) ∧ σ' = σ) (.bool true) := fun h => Ay ⟨by rw [decide_eq_false h]; rfl, rfl⟩
  have ld : ∀ {K : Bool → Hp → Prop} {n : Int}, (0 ≤ n ∧ n < w.pn → K true σ) → (¬ (0 ≤ n ∧ n < w.pn) → K false σ) → dr (some ⟨b, 0, none⟩) fun b1 o2 => ldS σ b1 o2 fun A3 l3 c3 => ldS σ b1 (o2 + 1) fun A4 l4 c4 => cl Try.prog (.func (.func EU) #[] #[]) #[.agg #[.slice A3 l3 c3, .slice A4 l4 c4], .int .i64 n] σ fun v σ' => ∃ t : Bool, (v = .bool t ∧ K t σ') := fun h1 h2 =>
    Bg (Df hb rfl (Df hb rfl (PA (w := w) hw h1 h2)))
  refine ld (fun h1 => BX ?_) (fun h1 => BY (no fun h => h1 h.1))
  refine ld (fun h2 => BX ?_) (fun h2 => BY (no fun h => h2 h.2.1))
  refine Bc (fun h3 => no fun h => h.2.2.1 h3) (fun h3 => ?_)
  refine Cs (fun h4 => BX ?_) (fun h4 => BY (no fun h => h4 h.2.2.2.1))
  refine Cs (fun h5 => BX ?_) (fun h5 => BY (no fun h => h5 h.2.2.2.2.1))
  refine Cs (fun h6 => Ay ⟨?_, rfl⟩) (fun h6 => Ay ⟨?_, rfl⟩)
  · rw [decide_eq_true ⟨h1, h2, h3, h4, h5, h6⟩]
  · rw [decide_eq_false fun h => h6 h.2.2.2.2.2]
def PH {α : Type} (p : α → Bool) (xs : List α) : Int := if xs.findIdx p < xs.length then (xs.findIdx p : Int) else -1
theorem TU {α : Type} {p : α → Bool} {xs : List α} {k : Nat} (hk : k < xs.length) (h : p xs[k] = true) (hj : ∀ j, (h : j < xs.length) → j < k → p xs[j] = false) : PH p xs = k := by
  have : xs.findIdx p = k := (List.findIdx_eq hk).2 ⟨h, fun j hjk => hj j (by omega) hjk⟩
  unfold PH
  rw [this, if_pos hk]
theorem Q6 {α : Type} {p : α → Bool} {xs : List α} (h : ∀ j, (h : j < xs.length) → p xs[j] = false) : PH p xs = -1 := by
  have : xs.findIdx p = xs.length := List.findIdx_eq_length.2 fun x hx => by
    obtain ⟨i, hi, rfl⟩ := List.getElem_of_mem hx
    exact h i hi
  unfold PH
  rw [this, if_neg (by omega)]
theorem R4 {α : Type} {p : α → Bool} {xs : List α} : decide (0 ≤ PH p xs) = xs.any p := by
  unfold PH
  split
  · rename_i h
    have : xs.any p = true := List.any_eq_true.2 ⟨_, List.getElem_mem h, List.findIdx_getElem⟩
    rw [this]
    simp
  · rename_i h
    have h1 : xs.findIdx p = xs.length := by have := List.findIdx_le_length (p := p) (xs := xs); omega
    have := List.findIdx_eq_length.1 h1
    simp
    intro x hx
    simp [this x hx]
def Dec {α : Type} (f : Value) (enc : α → Array Value) (p : α → Bool) (xs : List α) (σ : Hp) : Prop := ∀ a ∈ xs, ∀ K : Bool → Hp → Prop, K (p a) σ → cl Try.prog f (enc a) σ fun v σ' => ∃ t : Bool, (v = .bool t ∧ K t σ')
theorem Dec.of {α : Type} {g : FuncId} {caps : Array Value} {enc : α → Array Value} {p : α → Bool} {xs : List α} {σ : Hp} (he : AA Try.prog g = true) (h : ∀ a ∈ xs, Ah Try.prog g (Nu #[] (enc a) caps) σ fun u σ' => u = .bool (p a) ∧ σ' = σ) : Dec (.func (.func g) #[] caps) enc p xs σ :=
  fun a ha _ hk => IF.func he ((h a ha).mono fun _ _ ⟨e1, e2⟩ => by subst e1; subst e2; exact ⟨_, rfl, hk⟩)
abbrev T3 (r : Rdt) : Array Value := #[rdV r]
theorem L1 {A : Option Addr} {n c : Nat} {f : Value} {xs : List Rdt} {p : Rdt → Bool} (hx : RdS sR σ A n xs) (hl : xs.length ≤ 4294967296) (hf : Dec f T3 p xs σ) :
    Ah Try.prog D6 #[.slice A n c, f] σ fun v σ' => v = .int .i64 (PH p xs) ∧ σ' = σ := by
  refine Dp _ _ _ _ _ _ ?_
  unfold BG
  refine Ai fun J hJ => ?_
  have hn := hx.lenR
  refine ⟨fun n i σ' => ∃ k : Nat, n = xs.length - k ∧ i = k ∧ k ≤ xs.length ∧ σ' = σ ∧ ∀ j, (h : j < xs.length) → j < k → p xs[j] = false, ⟨_, 0, rfl, rfl, by omega, rfl, fun j _ h => by omega⟩, ?_⟩
  rintro n i σ' ⟨k, rfl, rfl, hk, rfl, hj⟩ _
  refine Bc (fun hlt => ?_) (fun hlt => ?_)
  · have hkl : k < xs.length := by omega
    refine T2 hx (by omega) (by simpa using hkl) ?_
    refine hf _ (List.getElem_mem (show (k : Int).toNat < xs.length by simpa using hkl)) _ ?_
    simp only [Int.toNat_natCast]
    refine JS (fun h => Ay ⟨?_, rfl⟩) (fun h => AU (by omega) (Bs _ (by omega) ⟨k + 1, rfl, rfl, by omega, rfl, fun j h' hjk => ?_⟩))
    · rw [TU hkl h hj]
    · rcases Nat.lt_or_ge j k with hlt | hge
      · exact hj j h' hlt
      · have : j = k := by omega
        subst this
        exact h
  · subst hJ
    intro _
    refine Ay ⟨?_, rfl⟩
    rw [Q6 fun j h => hj j h (by omega)]
theorem Jn {A : Option Addr} {n c : Nat} {f : Value} {xs : List Rdt} {p : Rdt → Bool} (hx : RdS sR σ A n xs) (hl : xs.length ≤ 4294967296) (hf : Dec f T3 p xs σ) :
    Ah Try.prog Dr #[.slice A n c, f] σ fun v σ' => v = .bool (xs.any p) ∧ σ' = σ := by
  refine CX _ _ _ _ _ _ ?_
  unfold Bv
  refine clI CW (L1 hx hl hf) (Ay ⟨?_, rfl⟩)
  rw [R4]
theorem TT {w : MW} {m : Mp} (h : MIn σ w m) (hp : m.pk.length ≤ 4294967296) (hr : m.rs.length ≤ 4294967296) : Ah Try.prog Ho #[w.v] σ fun v σ' => v = .int .i64 (eM m) ∧ σ' = σ := by
  refine Jt _ _ _ _ _ _ _ _ ?_
  unfold Ed
  intro b1 n1
  have s1 := Hp.Sub.ins (.cells #[.slice w.pA w.pn w.pc, .slice w.rA w.rn w.rc] 25 (0, 0)) n1
  have hb := Hp.ins_same σ b1 (.cells #[.slice w.pA w.pn w.pc, .slice w.rA w.rn w.rc] 25 (0, 0))
  have h' := h.up s1
  have e1 := h.pn
  have e2 := h.rn
  generalize σ.ins b1 (.cells #[.slice w.pA w.pn w.pc, .slice w.rA w.rn w.rc] 25 (0, 0)) = σ2 at s1 hb h' ⊢
  refine Ai fun J5 h5 => Ai fun J8 h8 => ?_
  have k5 : m.okB = true → J5 σ2 := fun ho => by
    rw [h5]
    intro _
    exact CM s1 ⟨by unfold eM; rw [if_pos ho], rfl⟩
  have k8 : m.okB = false → J8 true σ2 := fun ho => by
    rw [h8]
    intro _
    exact FB (CM s1 ⟨by unfold eM; rw [ho]; rfl, rfl⟩)
  have bad : ¬ MpS m → m.okB = false := fun hn => by
    cases ho : m.okB
    · rfl
    · exact absurd (Mp.okB_iff.1 ho) hn
  refine Df hb rfl (Cs (fun h1 => BX ?_) (fun h1 => BY (k8 (bad fun hm => h1 (by have := hm.n; omega)))))
  refine Df hb rfl (Bc (fun h2 => k8 (bad fun hm => by have := hm.k; omega)) (fun h2 => ?_))
  refine Df hb rfl (clB Cz (Jn (p := fun r => !decide (Mq w.pn r)) h'.r hr (Dec.of F3 fun r _ => Ry (w := w) (by omega) hb)) ?_)
  rw [h8]
  intro _
  refine JS (fun ha => ?_) (fun ha => k5 ?_)
  · refine CM s1 ⟨?_, rfl⟩
    unfold eM
    rw [bad fun hm => ?_]
    · rfl
    · obtain ⟨r, hr1, hr2⟩ := List.any_eq_true.1 ha
      have := hm.r r hr1
      rw [e1] at hr2
      simp [this] at hr2
  · rw [Mp.okB_iff]
    refine ⟨by omega, by omega, fun r hr1 => ?_⟩
    have := List.any_eq_false.1 ha r hr1
    rw [e1] at this
    simpa using this
end
end Go.Proofs.Ytkdjkkimngeloaa
namespace Go.Proofs.Ytkdjkkimngeloaa
open Go.RowKit
section
variable {σ : Hp}
theorem UL {r : Rdt} {l : Lry} : Ah Try.prog Fb #[rdV r, l.v] σ fun v σ' => v = .bool (decide (E5 l r)) ∧ σ' = σ := by
  refine JR _ _ _ _ _ _ _ _ _ _ _ _ _ ?_
  unfold EZ E5
  refine Bc (fun h => Ay ⟨?_, rfl⟩) (fun h => Ay ⟨?_, rfl⟩)
  · simp [h]
  · simp [h]
theorem UB {r : Rdt} {l : Lry} {K : Bool → Hp → Prop} (h1 : E5 l r → K true σ) (h2 : ¬ E5 l r → K false σ) : cl Try.prog (.func (.func Fb) #[] #[]) #[rdV r, l.v] σ fun v σ' => ∃ t : Bool, (v = .bool t ∧ K t σ') :=
  clB H1 UL (by by_cases h : E5 l r <;> simp only [h] <;> first | exact h1 h | exact h2 h)
theorem QO {w : MW} {m : Mp} {K : Int → Hp → Prop} (h : MIn σ w m) (hp : m.pk.length ≤ 4294967296) (hr : m.rs.length ≤ 4294967296) (h1 : MpS m → K 0 σ) (h2 : ¬ MpS m → K 90 σ) : cl Try.prog (.func (.func Ho) #[] #[]) #[w.v] σ fun v σ' => ∃ t : Int, (v = .int .i64 t ∧ K t σ') :=
  clI Hi (TT h hp hr) (by
    unfold eM
    by_cases c : m.okB = true
    · rw [if_pos c]; exact h1 (Mp.okB_iff.1 c)
    · rw [if_neg c]; exact h2 fun h => c (Mp.okB_iff.2 h))
theorem TM {w : MW} {m : Mp} {A : Option Addr} {n c : Nat} {ls : List LrT} (h : MIn σ w m) (hp : m.pk.length ≤ 4294967296) (hr : m.rs.length ≤ 4294967296) (hl : RdS sL σ A n ls) (hll : ls.length ≤ 4294967296) :
    Ah Try.prog Ld #[w.v, .slice A n c] σ fun v σ' => v = .int .i64 (eC m (ls.map AM)) ∧ σ' = σ := by
  refine Jo _ _ _ _ _ _ _ _ _ _ _ ?_
  unfold Ej
  have hpn := h.pn
  have hn := hl.lenL
  refine QO h hp hr (fun hm => Bl (fun h => absurd rfl h) (fun _ => ?_)) (fun hm => Bl (fun _ => Ay ⟨?_, rfl⟩) (fun h => absurd h (by decide)))
  · have ho := Mp.okB_iff.2 hm
    refine Ai fun J6 h6 => ?_
    refine ⟨fun q i τ => ∃ k : Nat, q = ls.length - k ∧ i = k ∧ k ≤ ls.length ∧ τ = σ ∧ ∀ j, (h : j < ls.length) → j < k → lrB m.pk.length (AM ls[j]) = true, ⟨_, 0, rfl, rfl, by omega, rfl, fun j _ h => by omega⟩, ?_⟩
    rintro q i τ ⟨k, rfl, rfl, hk, rfl, hj⟩ _
    refine Bc (fun hlt => ?_) (fun hge => ?_)
    · have hkl : k < ls.length := by omega
      refine Ai fun J14 h14 => ?_
      refine NY hl (by omega) (by simpa using hkl) ?_
      simp only [Int.toNat_natCast]
      refine Ai fun J28 h28 => ?_
      have bad : lrB m.pk.length (AM ls[k]) = false → J28 true τ := fun hb => by
        rw [h28]
        intro _
        refine FB (Ay ⟨?_, rfl⟩)
        unfold eC
        rw [if_pos ho, if_neg]
        intro ha
        have := List.all_eq_true.1 ha (AM ls[k]) (List.mem_map_of_mem (List.getElem_mem hkl))
        rw [hb] at this
        cases this
      have ne : (¬ ((0 ≤ (AM ls[k]).h ∧ (AM ls[k]).h ≤ 1000) ∧ (0 ≤ (AM ls[k]).w ∧ (AM ls[k]).w ≤ 1000) ∧ (0 ≤ (AM ls[k]).fr ∧ (AM ls[k]).fr < m.pk.length) ∧ (0 ≤ (AM ls[k]).rdy ∧ (AM ls[k]).rdy ≤ 2000) ∧ (1 ≤ (AM ls[k]).dr ∧ (AM ls[k]).dr ≤ 500) ∧ (1 ≤ (AM ls[k]).rst ∧ (AM ls[k]).rst ≤ 500))) → J28 true τ := fun hb => bad (by unfold lrB; rw [decide_eq_false hb])
      refine Cs (fun g1 => BX ?_) (fun g1 => BY (ne fun g => g1 g.1))
      refine Cs (fun g2 => BX ?_) (fun g2 => BY (ne fun g => g2 g.2.1))
      refine PA (w := w) (by omega) (fun g3 => BX ?_) (fun g3 => BY (ne fun g => g3 ⟨g.2.2.1.1, by have := g.2.2.1.2; rw [hpn]; exact this⟩))
      refine Cs (fun g4 => BX ?_) (fun g4 => BY (ne fun g => g4 g.2.2.2.1))
      refine Cs (fun g5 => BX ?_) (fun g5 => BY (ne fun g => g5 g.2.2.2.2.1))
      refine Cs (fun g6 => ?_) (fun g6 => ne fun g => g6 g.2.2.2.2.2)
      rw [h28]
      intro _
      refine Et ?_
      rw [h14]
      intro _
      refine AU (by omega) (Bs _ (by omega) ⟨k + 1, rfl, rfl, by omega, rfl, fun j h' hjk => ?_⟩)
      rcases Nat.lt_or_ge j k with hlt | hge
      · exact hj j h' hlt
      · obtain rfl : j = k := by omega
        unfold lrB
        rw [decide_eq_true]
        exact ⟨g1, g2, ⟨g3.1, by have := g3.2; rw [hpn] at this; exact this⟩, g4, g5, g6⟩
    · subst h6
      intro _
      refine Ay ⟨?_, rfl⟩
      unfold eC
      rw [if_pos ho, if_pos]
      refine List.all_eq_true.2 fun x hx => ?_
      obtain ⟨y, hy, rfl⟩ := List.mem_map.1 hx
      obtain ⟨j, hjl, rfl⟩ := List.mem_iff_getElem.1 hy
      exact hj j hjl (by omega)
  · unfold eC
    rw [if_neg fun h => hm (Mp.okB_iff.1 h)]
abbrev sJ : List Sh := [.int .i64, .int .i64]
theorem RdS.lenJ {A : Option Addr} {n : Nat} {xs : List Leg} (h : RdS sJ σ A n xs) : n = xs.length := h.1
theorem Sc {A : Option Addr} {n : Nat} {xs : List Leg} {i : Int} {K : Int → Int → Prop} (h : RdS sJ σ A n xs) (hi : 0 ≤ i) (hn : i.toNat < xs.length) (hk : K xs[i.toNat].1 xs[i.toNat].2) :
    ix A n i 2 fun b a => ldI σ .i64 b a fun x1 => ldI σ .i64 b (a + 1) fun x2 => K x1 x2 := by
  refine Gx (ss := sJ) h rfl hi hn fun b o hc => ?_
  exact Bu (hc 0 (by decide)) (Bu (hc 1 (by decide)) hk)
theorem Qj {A : Option Addr} {n : Nat} {xs : List Bool} {i : Int} {K : Bool → Prop} (h : RdS [.bool] σ A n xs) (hi : 0 ≤ i) (hn : i < xs.length) (hk : K (gbp xs i)) : ix A n i 1 fun b a => ldB σ b a K := by
  refine Ui h hi (by omega) ?_
  have hk' : i.toNat < xs.length := by omega
  have e : gbp xs i = xs[i.toNat] := by unfold gbp; simp [List.getD, hk']
  rw [← e]
  exact hk
end
end Go.Proofs.Ytkdjkkimngeloaa
namespace Go.Proofs.Ytkdjkkimngeloaa
open Go.RowKit
section
variable {σ : Hp}
theorem Blk.sub {b : Nat} {o : Obj} {σ σ' : Hp} (h : Blk b o σ σ') : Hp.Sub σ σ' := by
  obtain ⟨h1, rfl⟩ := h
  exact Hp.Sub.ins _ h1
theorem SH {A : Option Addr} {n : Nat} {xs : List Leg} {i : Int} {K : Int → Int → Prop} (h : RdS sJ σ A n xs) (hi : 0 ≤ i) (hn : i.toNat < xs.length) (hk : ∀ x : Leg, xs[i.toNat] = x → K x.1 x.2) :
    ix A n i 2 fun b a => ldI σ .i64 b a fun x1 => ldI σ .i64 b (a + 1) fun x2 => K x1 x2 := Sc h hi hn (hk _ rfl)
theorem Na {A : Option Addr} {n : Nat} {xs : List Rdt} {i : Int} {K : Int → Int → Int → Int → Int → Prop} (h : RdS sR σ A n xs) (hi : 0 ≤ i) (hn : i.toNat < xs.length) (hk : ∀ r : Rdt, xs[i.toNat] = r → K r.1 r.2.1 r.2.2.1 r.2.2.2.1 r.2.2.2.2) :
    ix A n i 5 fun b a => ldI σ .i64 b a fun x1 => ldI σ .i64 b (a + 1) fun x2 => ldI σ .i64 b (a + 2) fun x3 => ldI σ .i64 b (a + 3) fun x4 => ldI σ .i64 b (a + 4) fun x5 => K x1 x2 x3 x4 x5 := T2 h hi hn (hk _ rfl)
theorem NP {m : Mp} {i : Int} (h : i.toNat < m.rs.length) : AJ m i = m.rs[i.toNat] := by unfold AJ; simp [List.getD, h]
theorem G1 {w : MW} {m : Mp} {t : Int} {A : Option Addr} {n c : Nat} {ls : List LrT} (h : MIn σ w m) (hp : m.pk.length ≤ 4294967296) (hr : m.rs.length ≤ 4294967296) (hl : RdS sL σ A n ls) (hll : ls.length ≤ 4294967296) :
    Ah Try.prog ID #[w.v, .int .i64 t, .slice A n c] σ fun v σ' => v = .int .i64 (eT m (ls.map AM) t) ∧ σ' = σ := by
  refine GH _ _ _ _ _ _ _ _ _ _ _ _ ?_
  unfold CK
  have hpn := h.pn
  have hn := hl.lenL
  refine QO h hp hr (fun hm => Bl (fun h => absurd rfl h) (fun _ => ?_)) (fun hm => Bl (fun _ => Ay ⟨?_, rfl⟩) (fun h => absurd h (by decide)))
  · have ho := Mp.okB_iff.2 hm
    refine Bc (fun h8 => Ay ⟨?_, rfl⟩) (fun h8 => ?_)
    · unfold eT
      rw [if_pos ho, if_pos (by rw [List.length_map]; omega)]
    refine clI GS (TM h hp hr hl hll) ?_
    have e : eT m (ls.map AM) t = if (ls.map AM).all (lrB m.pk.length) = true then (if 0 ≤ t ∧ t < m.pk.length then 0 else 1) else 91 := by
      unfold eT
      rw [if_pos ho, if_neg (by rw [List.length_map]; omega)]
    have e2 : eC m (ls.map AM) = if (ls.map AM).all (lrB m.pk.length) = true then 0 else 91 := by
      unfold eC
      rw [if_pos ho]
    rw [e2, e]
    by_cases ha : (ls.map AM).all (lrB m.pk.length) = true
    · rw [if_pos ha, if_pos ha]
      refine Bl (fun h => absurd rfl h) (fun _ => ?_)
      refine PA (w := w) (by omega) (fun g => BX (Ay ⟨?_, rfl⟩)) (fun g => BY (Ay ⟨?_, rfl⟩))
      · rw [if_pos (by omega)]
      · rw [if_neg (by omega)]
    · rw [if_neg ha, if_neg ha]
      exact Bl (fun _ => Ay ⟨rfl, rfl⟩) (fun h => absurd h (by decide))
  · unfold eT
    rw [if_neg fun h => hm (Mp.okB_iff.1 h)]
end
end Go.Proofs.Ytkdjkkimngeloaa
namespace Go.Proofs.Ytkdjkkimngeloaa
open Go.RowKit
section
variable {σ : Hp}
def GT (σ : Hp) (A : Option Addr) (n : Nat) (js : List (List Leg)) : Prop := ∃ ss : List (Option Addr × Nat × Nat), RdS [.slc] σ A n ss ∧ ss.length = js.length ∧ ∀ i (h1 : i < ss.length) (h2 : i < js.length), RdS sJ σ ss[i].1 ss[i].2.1 js[i]
theorem GT.up {σ' : Hp} {A : Option Addr} {n : Nat} {js : List (List Leg)} (h : GT σ A n js) (hs : Hp.Sub σ σ') : GT σ' A n js := by
  obtain ⟨ss, h1, h2, h3⟩ := h
  exact ⟨ss, h1.sub hs, h2, fun i a b => (h3 i a b).sub hs⟩
theorem RdS.lenS {A : Option Addr} {n : Nat} {xs : List (Option Addr × Nat × Nat)} (h : RdS [.slc] σ A n xs) : n = xs.length := h.1
theorem GT.len {A : Option Addr} {n : Nat} {js : List (List Leg)} (h : GT σ A n js) : n = js.length := by
  obtain ⟨ss, h1, h2, _⟩ := h
  rw [h1.lenS, h2]
theorem R7 {A : Option Addr} {n : Nat} {xs : List (Option Addr × Nat × Nat)} {i : Int} {K : Option Addr → Nat → Nat → Prop} (h : RdS [.slc] σ A n xs) (hi : 0 ≤ i) (hn : i.toNat < xs.length) (hk : K xs[i.toNat].1 xs[i.toNat].2.1 xs[i.toNat].2.2) : ix A n i 1 fun b a => ldS σ b a K := by
  refine Gx (ss := [.slc]) h rfl hi hn fun b o hc => ?_
  exact RF (hc 0 (by decide)) hk
theorem T8 {A : Option Addr} {n : Nat} {js : List (List Leg)} {i : Int} {K : Option Addr → Nat → Nat → Prop} (h : GT σ A n js) (hi : 0 ≤ i) (hn : i.toNat < js.length) (hk : ∀ A n c, RdS sJ σ A n js[i.toNat] → K A n c) : ix A n i 1 fun b a => ldS σ b a K := by
  obtain ⟨ss, h1, h2, h3⟩ := h
  exact R7 h1 hi (by omega) (hk _ _ _ (h3 _ (by omega) hn))
theorem L6 {m : Mp} {ls : List Lry} {t : Int} (h : eT m ls t = 0) : MpS m ∧ ls.length ≤ 8 ∧ (∀ l ∈ ls, Bj m l) ∧ 0 ≤ t ∧ t < m.pk.length := by
  unfold eT at h
  split at h
  · rename_i h1
    split at h
    · cases h
    · rename_i h2
      split at h
      · rename_i h3
        split at h
        · rename_i h4
          exact ⟨Mp.okB_iff.1 h1, by omega, fun l hl => K7.1 (List.all_eq_true.1 h3 l hl), h4⟩
        · cases h
      · cases h
  · cases h
end
end Go.Proofs.Ytkdjkkimngeloaa
