/- Trimmed by wip/trim.py to what this claim rests on. -/
import Derived.Test.YtecodlefcmjihaaGreatWB10
namespace Go.Proofs.YtecodlefcmjihaaGreat
open Go.RowKit
def ldI (σ : Hp) (k : IntKind) (b off : Nat) (K : Int → Prop) : Prop := ∃ n, σ.cell? ⟨b, off, none⟩ = some (.int k n) ∧ K n
def ldB (σ : Hp) (b off : Nat) (K : Bool → Prop) : Prop := ∃ x, σ.cell? ⟨b, off, none⟩ = some (.bool x) ∧ K x
def ldP (σ : Hp) (b off : Nat) (K : Option Addr → Prop) : Prop := ∃ x, σ.cell? ⟨b, off, none⟩ = some (.pointer x) ∧ K x
def ldS (σ : Hp) (b off : Nat) (K : Option Addr → Nat → Nat → Prop) : Prop := ∃ A n c, σ.cell? ⟨b, off, none⟩ = some (.slice A n c) ∧ K A n c
def bx (σ : Hp) (o : Obj) (K : Nat → Hp → Prop) : Prop := ∀ b, σ b = none → K b (σ.ins b o)
def st (σ : Hp) (b off : Nat) (v : Value) (K : Hp → Prop) : Prop := σ.wr ⟨b, off, none⟩ ∧ K (σ.put ⟨b, off, none⟩ v)
def ix (A : Option Addr) (n : Nat) (i : Int) (w : Nat) (K : Nat → Nat → Prop) : Prop := dr A fun b o => 0 ≤ i ∧ i < (n : Int) ∧ K b (o + Oq i.toNat w)
def wk (k : IntKind) (e : Int) (K : Int → Prop) : Prop := K (k.wrap e)
def bk (σ : Hp) (n : Nat) (f : Nat → Hp → Prop) : Prop := ∃ σ'', Hp.Sub σ'' σ ∧ ∃ m, m < n ∧ f m σ''
def rt (σ : Hp) (R : Value → Hp → Prop) (v : Value) : Prop := ∃ σ', Hp.Sub σ' σ ∧ R v σ'
def cl (P : Program) (f : Value) (args : Array Value) (σ : Hp) (K : Value → Hp → Prop) : Prop := D2 P f args σ K
def cpy (P : Program) (ts : Array TypeId) (t : TypeId) (args : Array Value) (σ : Hp) (K : Int → Hp → Prop) : Prop :=
  swp P (Builtin.copy_ ts t args) (fun v σ' => ∃ n, v = .int .i64 n ∧ K n σ') σ
def clr (P : Program) (ts : Array TypeId) (t : TypeId) (args : Array Value) (σ : Hp) (K : Hp → Prop) : Prop :=
  swp P (Builtin.clear_ ts t args) (fun v σ' => v = .tuple #[] ∧ K σ') σ
end Go.Proofs.YtecodlefcmjihaaGreat
namespace Go.Proofs.YtecodlefcmjihaaGreat
open Go.RowKit
theorem bcd (p : Prop) [Decidable p] (A B : Prop) : bc (decide p) A B ↔ (p → A) ∧ (¬ p → B) := by by_cases h : p <;> simp [bc, h]
theorem Ya (p : Prop) [Decidable p] (A B : Prop) : bc (!decide p) A B ↔ (p → B) ∧ (¬ p → A) := by by_cases h : p <;> simp [bc, h]
theorem Az {σ : Hp} {R : Value → Hp → Prop} {v : Value} (h : R v σ) : rt σ R v := ⟨σ, Hp.Sub.refl _, h⟩
theorem Ms {σ σ' : Hp} {R : Value → Hp → Prop} {v : Value} (hs : Hp.Sub σ' σ) (h : R v σ') : rt σ R v := ⟨σ', hs, h⟩
theorem UR {e : Int} (h : -9223372036854775808 ≤ e ∧ e ≤ 9223372036854775807) : IntKind.i64.wrap e = e := by
  have h1 : IntKind.i64.wrap e = (e + 9223372036854775808) % 18446744073709551616 - 9223372036854775808 := by
    unfold IntKind.wrap
    simp [IntKind.signed, IntKind.bits]
    omega
  rw [h1]
  omega
theorem WM {e : Int} {K : Int → Prop} (h : -9223372036854775808 ≤ e ∧ e ≤ 9223372036854775807) : wk .i64 e K ↔ K e := by
  unfold wk
  rw [UR h]
theorem Va (a : Array Value) : RX #[] a #[] = a := by cases a; simp [RX]
theorem AM {P : Program} {g : FuncId} {args : Array Value} {σ : Hp} {R K : Value → Hp → Prop} (he : AA P g = true) (h : Al P g args σ R) (hk : ∀ v σ', R v σ' → K v σ') : cl P (.func (.func g) #[] #[]) args σ K :=
  D2.func he (by rw [Va]; exact h.mono hk)
theorem Bb {σ : Hp} {n : Nat} {f : Nat → Hp → Prop} (m : Nat) (hm : m < n) (h : f m σ) : bk σ n f := ⟨σ, Hp.Sub.refl _, m, hm, h⟩
theorem UZ {σ σ' : Hp} {n : Nat} {f : Nat → Hp → Prop} (m : Nat) (hm : m < n) (hs : Hp.Sub σ' σ) (h : f m σ') : bk σ n f := ⟨σ', hs, m, hm, h⟩
theorem RdS.at1 {s : Sh} {σ : Hp} {A : Option Addr} {n : Nat} {xs : List (TyR [s])} (h : RdS [s] σ A n xs) {i : Nat} (hi : i < xs.length) : ∃ b off, A = some ⟨b, off, none⟩ ∧ σ.cell? ⟨b, off + i, none⟩ = some (My s xs[i]) := by
  obtain ⟨b, off, hA, hc⟩ := h.cell hi
  refine ⟨b, off, hA, ?_⟩
  have := hc 0 (by simp)
  simp only [List.length_cons, List.length_nil, Nat.zero_add, Nat.mul_one, Nat.add_zero] at this
  rw [this]
  rfl
theorem WT {k : IntKind} {σ : Hp} {A : Option Addr} {n : Nat} {xs : List Int} {i : Int} {K : Int → Prop} (h : RdS [.int k] σ A n xs) (hi : 0 ≤ i) (hn : i.toNat < xs.length) (hk : K xs[i.toNat]) : ix A n i 1 fun b a => ldI σ k b a K := by
  have hl : n = xs.length := h.1
  obtain ⟨b, off, rfl, hc⟩ := h.at1 hn
  refine ⟨hi, ?_, xs[i.toNat], ?_, hk⟩
  · rw [hl]; clear hc hk; omega
  · exact hc
theorem Bs {σ : Hp} {k : IntKind} {b off : Nat} {n : Int} {K : Int → Prop} (h : σ.cell? ⟨b, off, none⟩ = some (.int k n)) (hk : K n) : ldI σ k b off K := ⟨n, h, hk⟩
theorem Xt {σ : Hp} {b off : Nat} {n : Bool} {K : Bool → Prop} (h : σ.cell? ⟨b, off, none⟩ = some (.bool n)) (hk : K n) : ldB σ b off K := ⟨n, h, hk⟩
theorem WZ {σ : Hp} {b off : Nat} {p : Option Addr} {K : Option Addr → Prop} (h : σ.cell? ⟨b, off, none⟩ = some (.pointer p)) (hk : K p) : ldP σ b off K := ⟨p, h, hk⟩
theorem VA {σ : Hp} {b off : Nat} {A : Option Addr} {n c : Nat} {K : Option Addr → Nat → Nat → Prop} (h : σ.cell? ⟨b, off, none⟩ = some (.slice A n c)) (hk : K A n c) : ldS σ b off K := ⟨A, n, c, h, hk⟩
theorem NS {ss : List Sh} {σ : Hp} {A : Option Addr} {n : Nat} {xs : List (TyR ss)} {i : Int} {w : Nat} {K : Nat → Nat → Prop} (h : RdS ss σ A n xs) (hw : w = ss.length) (hi : 0 ≤ i) (hn : i.toNat < xs.length) (hk : ∀ b o, (∀ j, j < ss.length → σ.cell? ⟨b, o + j, none⟩ = (BH ss xs[i.toNat])[j]?) → K b o) : ix A n i w K := by
  obtain ⟨b, off, rfl, hc⟩ := h.cell hn
  have := h.1
  refine ⟨hi, by omega, ?_⟩
  refine hk b _ fun j hj => ?_
  rw [← hc j hj, Cq, hw, Nat.add_assoc]
end Go.Proofs.YtecodlefcmjihaaGreat
namespace Go.Proofs.YtecodlefcmjihaaGreat
open Go.RowKit
theorem N9 {A B : Prop} (h : A) : bc true A B := by simpa [bc] using h
theorem M8 {A B : Prop} (h : B) : bc false A B := by simpa [bc] using h
theorem XR {A B : Prop} (h : B) : bc (!true) A B := by simpa [bc] using h
theorem AK {p : Prop} [Decidable p] {A B : Prop} (h : p → A) (h' : ¬ p → B) : bc (decide p) A B := (bcd p A B).2 ⟨h, h'⟩
theorem BA {p : Prop} [Decidable p] {A B : Prop} (h : ¬ p → A) (h' : p → B) : bc (!decide p) A B := (Ya p A B).2 ⟨h', h⟩
theorem El {b : Bool} {A B : Prop} (h : b = true → A) (h' : b = false → B) : bc b A B := by cases b <;> first | exact h rfl | exact h' rfl
theorem WD {b : Bool} {A B : Prop} (h : b = false → A) (h' : b = true → B) : bc (!b) A B := by cases b <;> first | exact h rfl | exact h' rfl
theorem AJ {e : Int} {K : Int → Prop} (h : -9223372036854775808 ≤ e ∧ e ≤ 9223372036854775807) (hk : K e) : wk .i64 e K := (WM h).2 hk
theorem AD {b off : Nat} {k : Nat → Nat → Prop} (h : k b off) : dr (some ⟨b, off, none⟩) k := h
theorem BF {n : Nat} {p : Prop} (h : n ≤ 4294967296) (hp : p) : B1 n p := ⟨h, hp⟩
section
variable {P : Program} {g : FuncId} {args : Array Value} {σ : Hp}
theorem clB {b : Bool} {K : Bool → Hp → Prop} (he : AA P g = true) (h : Al P g args σ fun u σ' => u = .bool b ∧ σ' = σ) (hk : K b σ) : cl P (.func (.func g) #[] #[]) args σ fun v σ' => ∃ t : Bool, (v = .bool t ∧ K t σ') :=
  AM he h fun _ _ ⟨e1, e2⟩ => by subst e1; subst e2; exact ⟨b, rfl, hk⟩
theorem clI {b : Int} {K : Int → Hp → Prop} (he : AA P g = true) (h : Al P g args σ fun u σ' => u = .int .i64 b ∧ σ' = σ) (hk : K b σ) : cl P (.func (.func g) #[] #[]) args σ fun v σ' => ∃ t : Int, (v = .int .i64 t ∧ K t σ') :=
  AM he h fun _ _ ⟨e1, e2⟩ => by subst e1; subst e2; exact ⟨b, rfl, hk⟩
def Yb (e : TypeId) (ss : List Sh) (σ : Hp) (xs : List (TyR ss)) : Value → Hp → Prop := fun v σ' => ∃ A n c, v = .slice A n c ∧ An e ss σ A n c xs σ'
end
theorem CA {e : TypeId} {ss : List Sh} {σ σ' : Hp} {A : Option Addr} {n c : Nat} {xs : List (TyR ss)} {K : List (TyR ss) → Hp → Prop} (h : An e ss σ A n c xs σ') (hk : K xs σ) : adp e ss A n c σ' K := ⟨xs, σ, h, hk⟩
theorem An.RdI {e : TypeId} {k : IntKind} {σ σ' : Hp} {A : Option Addr} {n c : Nat} {xs : List Int} (h : An e [.int k] σ A n c xs σ') : RdS [.int k] σ' A n xs := h.rd
theorem RdS.lenI {k : IntKind} {σ : Hp} {A : Option Addr} {n : Nat} {xs : List Int} (h : RdS [.int k] σ A n xs) : n = xs.length := h.1
end Go.Proofs.YtecodlefcmjihaaGreat
namespace Go.Proofs.YtecodlefcmjihaaGreat
open Go.RowKit
theorem Vs {σ : Hp} {b b' : Nat} {o o' : Obj} (h : b ≠ b') : (σ.ins b o).ins b' o' = (σ.ins b' o').ins b o := by
  funext k
  unfold Hp.ins
  by_cases h1 : k = b
  · have h2 : k ≠ b' := fun e => h (h1.symm.trans e)
    rw [if_neg h2, if_pos h1, if_pos h1]
  · by_cases h2 : k = b'
    · rw [if_pos h2, if_neg h1, if_pos h2]
    · rw [if_neg h2, if_neg h1, if_neg h1, if_neg h2]
theorem Qh {σ : Hp} {b k : Nat} {o : Obj} (h : σ.ins b o k = none) : k ≠ b ∧ σ k = none := by
  unfold Hp.ins at h
  split at h
  · cases h
  · rename_i hk; exact ⟨hk, h⟩
theorem Hp.Sub.none {σ σ' : Hp} (h : Hp.Sub σ σ') {b : Nat} (hb : σ' b = none) : σ b = none := by
  cases e : σ b with
  | none => rfl
  | some x => have := h _ _ e; rw [hb] at this; cases this
theorem An.ins_base {e : TypeId} {ss : List Sh} {σ σ' : Hp} {A : Option Addr} {n c : Nat} {xs : List (TyR ss)} (h : An e ss σ A n c xs σ') {b : Nat} (hb : σ' b = none) (o : Obj) : An e ss (σ.ins b o) A n c xs (σ'.ins b o) := by
  rcases h with ⟨h1, h2, h3, h4, rfl⟩ | ⟨b', off, cells, hA, hn, hnc, hb', rfl, hs, hr⟩
  · exact .inl ⟨h1, h2, h3, h4, rfl⟩
  · obtain ⟨h1, h2⟩ := Qh hb
    refine .inr ⟨b', off, cells, hA, hn, hnc, ?_, Vs (fun e => h1 e.symm), hs, hr⟩
    rw [Hp.ins_ne _ (fun e => h1 e.symm)]
    exact hb'
theorem An.swap {e e' : TypeId} {ss ss' : List Sh} {σ σ1 σ2 : Hp} {A A' : Option Addr} {n c n' c' : Nat} {xs : List (TyR ss)} {ys : List (TyR ss')} (h : An e ss σ A n c xs σ1) (h' : An e' ss' σ1 A' n' c' ys σ2) : ∃ σ1', An e' ss' σ A' n' c' ys σ1' ∧ An e ss σ1' A n c xs σ2 := by
  rcases h' with ⟨h1, h2, h3, h4, rfl⟩ | ⟨b', off, cells, hA, hn, hnc, hb', rfl, hs, hr⟩
  · exact ⟨σ, .inl ⟨h1, h2, h3, h4, rfl⟩, h⟩
  · exact ⟨_, .inr ⟨b', off, cells, hA, hn, hnc, h.sub.none hb', rfl, hs, hr⟩, h.ins_base hb' _⟩
theorem An.put {e : TypeId} {ss : List Sh} {σ σ' τ : Hp} {A : Option Addr} {n c : Nat} {xs : List (TyR ss)} (h : An e ss σ A n c xs σ') (hs : Hp.Sub σ' τ) {i : Nat} (hi : i < xs.length) :
    ∃ b off, A = some ⟨b, off, none⟩ ∧ ∀ j v r, setR ss xs[i] j v = some r → τ.wr ⟨b, off + (i * ss.length + j), none⟩ ∧ ∃ σ2, An e ss σ A n c (xs.set i r) σ2 ∧ Hp.Sub σ2 (τ.put ⟨b, off + (i * ss.length + j), none⟩ v) := by
  rcases h with ⟨h1, h2, h3, rfl, rfl⟩ | ⟨b, off, cells, hA, hn, hnc, hb, rfl, hsz, hr⟩
  · simp at hi
  · refine ⟨b, off, hA, fun j v r hset => ?_⟩
    obtain ⟨hj, _, _⟩ := NJ hset
    have hlt : i * ss.length + j < c * ss.length := IQ (by omega) hj
    have hτ : τ b = some (.cells cells e (0, 0), true) := hs _ _ (Hp.ins_same ..)
    refine ⟨⟨cells, e, hτ, show off + (i * ss.length + j) < cells.size by omega, rfl⟩, σ.ins b (.cells (cells.setIfInBounds (off + (i * ss.length + j)) v) e (0, 0)), ?_, ?_⟩
    · refine .inr ⟨b, off, _, hA, by simpa using hn, hnc, hb, rfl, by simpa using hsz, hr.set hi hset (by omega)⟩
    · intro k x hk
      unfold Hp.ins at hk
      split at hk <;> rename_i hkb
      · subst hkb
        rw [Hp.put_same hτ]
        exact hk
      · rw [Hp.put_ne hkb]
        exact hs _ _ (by rw [Hp.ins_ne _ hkb]; exact hk)
theorem An.ix_stI {e : TypeId} {σ σ' τ : Hp} {A : Option Addr} {n c : Nat} {xs : List Int} {i v : Int} {K : Hp → Prop} (h : An e [.int .i64] σ A n c xs σ') (hs : Hp.Sub σ' τ) (hi : 0 ≤ i) (hn : i.toNat < xs.length)
    (hk : ∀ σ2 τ2, An e [.int .i64] σ A n c (xs.set i.toNat v) σ2 → Hp.Sub σ2 τ2 → K τ2) : ix A n i 1 fun b a => st τ b a (.int .i64 v) K := by
  obtain ⟨b, off, rfl, hp⟩ := h.put hs hn
  have hl : n = xs.length := h.len
  obtain ⟨hw, σ2, ho2, hs2⟩ := hp 0 (.int .i64 v) v rfl
  refine ⟨hi, by omega, ?_, ?_⟩
  · simpa [Cq] using hw
  · refine hk σ2 _ ho2 ?_
    simpa [Cq] using hs2
end Go.Proofs.YtecodlefcmjihaaGreat
namespace Go.Proofs.YtecodlefcmjihaaGreat
open Go.RowKit
theorem UQ {P : Program} {t0 t1 ty e : TypeId} {ie : TypeInfo} {σ : Hp} {base xb : Option Addr} {dLen dc m xc : Nat} {new : List Value} {K : Value → Hp → Prop}
    (hund : P.underlying t0 = some (.slice e)) (hie : P.info? e = some ie) (hn : RdC σ xb new) (hnl : new.length = min m dLen * ie.size) (hnA : xb = none → new = [])
    (h0 : base = none → K (.int .i64 (min m dLen : Nat)) σ) (h1 : ∀ a, base = some a → ∃ b off, a = ⟨b, off, none⟩ ∧ stc σ b off 0 new fun σ' => K (.int .i64 (min m dLen : Nat)) σ') :
    swp P (Builtin.copy_ #[t0, t1] ty #[.slice base dLen dc, .slice xb m xc]) K σ := by
  unfold Builtin.copy_
  simp only [List.getElem?_toArray, List.getElem?_cons_zero, List.getElem?_cons_succ]
  refine Jy hund ?_
  simp only
  refine AU (P := P) (Builtin.lenOf _) _ _ _ ?_
  refine Qd _ _ _ ?_
  refine I1 hie ?_
  refine AU _ _ _ _ ?_
  have e1 : Builtin.firstCells ie.size (Nat.min m dLen) (.slice xb m xc) = Builtin.firstCells ie.size (min m dLen) (.slice xb (min m dLen) 0) := by cases xb <;> rfl
  rw [e1]
  refine D8 hn hnl hnA ?_
  cases base with
  | none => exact h0 rfl
  | some a =>
    obtain ⟨b, off, rfl, h2⟩ := h1 a rfl
    simp only
    refine AU _ _ _ _ ?_
    exact D7 new 0 σ h2
def SA (P : Program) (t0 e : TypeId) (w : Nat) : Bool := match P.underlying t0 with
  | some (.slice e') => Nat.beq e' e && match P.info? e with
    | some ie => Nat.beq ie.size w
    | none => false
  | _ => false
theorem UU {P : Program} {t0 e : TypeId} {w : Nat} (h : SA P t0 e w = true) : P.underlying t0 = some (.slice e) ∧ ∃ ie, P.info? e = some ie ∧ ie.size = w := by
  unfold SA at h
  split at h
  · rename_i e' he
    simp only [Bool.and_eq_true] at h
    have := Nat.eq_of_beq_eq_true h.1
    subst this
    split at h
    · rename_i ie hie
      exact ⟨he, ie, hie, Nat.eq_of_beq_eq_true h.2⟩
    · simp at h
  · cases h
theorem SE {P : Program} {t0 t1 ty e : TypeId} {ss : List Sh} {σ σ' τ : Hp} {A base xb : Option Addr} {n c dc m xc k : Nat} {xs ys : List (TyR ss)} {K : Int → Hp → Prop}
    (hok : SA P t0 e ss.length = true) (hna : JT ss = true) (h : An e ss σ A n c xs σ') (hs : Hp.Sub σ' τ) (hk : k ≤ n)
    (hb : ∀ b off, A = some ⟨b, off, none⟩ → base = some ⟨b, off + k * ss.length, none⟩) (hb0 : A = none → base = none) (hy : RdS ss τ xb m ys)
    (hK : ∀ σ2 τ2, An e ss σ A n c (xs.take k ++ (ys.take (min m (n - k)) ++ xs.drop (k + min m (n - k)))) σ2 → Hp.Sub σ2 τ2 → K (min m (n - k) : Nat) τ2) :
    cpy P #[t0, t1] ty #[.slice base (n - k) dc, .slice xb m xc] τ K := by
  obtain ⟨hund, ie, hie, hsz⟩ := UU hok
  obtain ⟨hym, _⟩ := id hy
  have hyt : RdS ss τ xb (min m (n - k)) (ys.take (min m (n - k))) := by
    refine ⟨by rw [List.length_take]; omega, ?_⟩
    rcases hy.2 with h0 | ⟨b, off, cells, e, f, rw, hA, hb, hr⟩
    · exact .inl (by omega)
    · exact .inr ⟨b, off, cells, e, f, rw, hA, hb, hr.take _⟩
  obtain ⟨hr, hr0⟩ := hyt.rdC
  have hlt : (ys.take (min m (n - k))).length = min m (n - k) := by rw [List.length_take]; omega
  have hfl : (CD ss (ys.take (min m (n - k)))).length = min m (n - k) * ss.length := by rw [Br, hlt]
  unfold cpy
  refine UQ hund hie hr (by rw [hfl, hsz]) hr0 (fun hbn => ⟨_, rfl, ?_⟩) (fun a ha => ?_)
  · rcases h with ⟨rfl, h2, h3, rfl, rfl⟩ | ⟨b, off, cells, hA, hn, hnc, hb', rfl, hsz', hr'⟩
    · subst h2
      refine hK _ _ (.inl ⟨rfl, rfl, h3, ?_, rfl⟩) hs
      simp
    · have := hb b off hA
      rw [hbn] at this
      cases this
  · rcases h with ⟨hA, _⟩ | ⟨b, off, cells, hA, hn, hnc, hb', rfl, hsz', hr'⟩
    · have := hb0 hA
      rw [ha] at this
      cases this
    · have e1 := hb b off hA
      rw [ha] at e1
      injection e1 with e1
      subst e1
      have hq : k + min m (n - k) ≤ n := by omega
      generalize hqq : min m (n - k) = q at *
      have hm1 : (k + q) * ss.length ≤ n * ss.length := Nat.mul_le_mul_right _ hq
      have hm2 : n * ss.length ≤ c * ss.length := Nat.mul_le_mul_right _ hnc
      rw [Nat.add_mul] at hm1
      refine ⟨b, _, rfl, Nt _ 0 cells τ (hs _ _ (Hp.ins_same ..)) (Q0 hna _) (by rw [hfl]; omega) ?_⟩
      intro c' τ2 h1 h2 h3 h4 h5 h6
      refine ⟨_, rfl, hK (σ.ins b (.cells c' e (0, 0))) τ2 (.inr ⟨b, off, c', hA, ?_, hnc, hb', rfl, by omega, ?_⟩) ?_⟩
      · simp only [List.length_append, List.length_take, List.length_drop]
        omega
      · intro i j hi hj
        have hi' : i < xs.length := by
          simp only [List.length_append, List.length_take, List.length_drop] at hi
          omega
        have hidx := IQ (n := n) (show i < n by omega) hj
        rcases Nat.lt_or_ge i k with hik | hik
        · have := IQ (w := ss.length) hik hj
          rw [h2 _ (by omega), hr' i j hi' hj]
          congr 2
          rw [List.getElem_append_left (by rw [List.length_take]; omega), List.getElem_take]
        · rcases Nat.lt_or_ge i (k + q) with hiq | hiq
          · have e2 : i = k + (i - k) := by omega
            have := h4 ((i - k) * ss.length + j) (by rw [hfl]; exact IQ (by omega) hj)
            have e3 : off + (i * ss.length + j) = off + k * ss.length + 0 + ((i - k) * ss.length + j) := by
              have : i * ss.length = k * ss.length + (i - k) * ss.length := by rw [← Nat.add_mul, ← e2]
              omega
            rw [e3, this, G5 ss _ (i - k) j (by rw [hlt]; omega) hj]
            congr 2
            rw [List.getElem_append_right (by rw [List.length_take]; omega), List.getElem_append_left (by simp only [List.length_take]; omega)]
            congr 1
            rw [List.length_take]
            omega
          · have hge : (k + q) * ss.length ≤ i * ss.length := Nat.mul_le_mul_right _ hiq
            rw [Nat.add_mul] at hge
            rw [h3 _ (by rw [hfl]; omega), hr' i j hi' hj]
            congr 2
            rw [List.getElem_append_right (by rw [List.length_take]; omega), List.getElem_append_right (by simp only [List.length_take]; omega), List.getElem_drop]
            congr 1
            simp only [List.length_take]
            omega
      · intro x y hxy
        by_cases hxb : x = b
        · subst hxb
          rw [Hp.ins_same] at hxy
          rw [h5, hxy]
        · rw [Hp.ins_ne _ hxb] at hxy
          rw [h6 _ hxb]
          exact hs _ _ (by rw [Hp.ins_ne _ hxb]; exact hxy)
end Go.Proofs.YtecodlefcmjihaaGreat
namespace Go.Proofs.YtecodlefcmjihaaGreat
open Go.RowKit
end Go.Proofs.YtecodlefcmjihaaGreat
