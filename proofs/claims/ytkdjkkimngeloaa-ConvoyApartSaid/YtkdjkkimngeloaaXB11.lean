/- Trimmed by wip/trim.py to what this claim rests on. -/
import Derived.Test.YtkdjkkimngeloaaXB10
namespace Go.Proofs.Ytkdjkkimngeloaa
open Go.RowKit
def ldI (σ : Hp) (k : IntKind) (b off : Nat) (K : Int → Prop) : Prop := ∃ n, σ.cell? ⟨b, off, none⟩ = some (.int k n) ∧ K n
def ldB (σ : Hp) (b off : Nat) (K : Bool → Prop) : Prop := ∃ x, σ.cell? ⟨b, off, none⟩ = some (.bool x) ∧ K x
def ldM (σ : Hp) (b off : Nat) (K : Option Nat → Prop) : Prop := ∃ x, σ.cell? ⟨b, off, none⟩ = some (.map x) ∧ K x
def ldS (σ : Hp) (b off : Nat) (K : Option Addr → Nat → Nat → Prop) : Prop := ∃ A n c, σ.cell? ⟨b, off, none⟩ = some (.slice A n c) ∧ K A n c
def ldV (σ : Hp) (b off : Nat) (K : Value → Prop) : Prop := ∃ v, σ.cell? ⟨b, off, none⟩ = some v ∧ K v
def bx (σ : Hp) (o : Obj) (K : Nat → Hp → Prop) : Prop := ∀ b, σ b = none → K b (σ.ins b o)
def st (σ : Hp) (b off : Nat) (v : Value) (K : Hp → Prop) : Prop := σ.wr ⟨b, off, none⟩ ∧ K (σ.put ⟨b, off, none⟩ v)
def ix (A : Option Addr) (n : Nat) (i : Int) (w : Nat) (K : Nat → Nat → Prop) : Prop := dr A fun b o => 0 ≤ i ∧ i < (n : Int) ∧ K b (o + JU i.toNat w)
def wk (k : IntKind) (e : Int) (K : Int → Prop) : Prop := K (k.wrap e)
def rgb (l : Nat) (Rec : RecT) (σ : Hp) (K : Hp → Prop) : Prop := σ l = some (Rec .ready none, true) ∧ K (σ.ins l (Rec .busy none))
def rgo (l : Nat) (Rec : RecT) (R : Value → Hp → Prop) (σ : Hp) : Prop := σ l = some (Rec .busy none, true) ∧ R (.bool true) (σ.ins l (Rec .ready none))
def rgx (l : Nat) (Rec : RecT) (R : Value → Hp → Prop) (σ : Hp) (c : Code) : Prop := σ l = some (Rec .busy none, true) ∧ R (.bool false) (σ.ins l (Rec .done (some c)))
def aft (p : Option Code) (N Rt : Prop) (Ex : Nat → Prop) : Prop := match p with
  | none => N
  | some .ret => Rt
  | some (.exit id) => Ex id
  | _ => False
def exb (id k : Nat) (A B : Prop) : Prop := match Nat.beq id k with
  | true => A
  | false => B
def bk (σ : Hp) (n : Nat) (f : Nat → Hp → Prop) : Prop := ∃ σ'', Hp.Sub σ'' σ ∧ ∃ m, m < n ∧ f m σ''
def rt (σ : Hp) (R : Value → Hp → Prop) (v : Value) : Prop := ∃ σ', Hp.Sub σ' σ ∧ R v σ'
def cl (P : Program) (f : Value) (args : Array Value) (σ : Hp) (K : Value → Hp → Prop) : Prop := Hj P f args σ K
def ivk (P : Program) (r : Value) (m : String) (args : Array Value) (σ : Hp) (K : Value → Hp → Prop) : Prop := SU P r m args σ K
def lkp (P : Program) (t : TypeId) (x i : Value) (σ : Hp) (K : Value → Prop) : Prop := ywp P (Instr.lookup t x i false) K σ
def lko (P : Program) (t : TypeId) (x i : Value) (σ : Hp) (K : Value → Bool → Prop) : Prop := ywp P (Instr.lookup t x i true) (fun v => ∃ u t, v = .tuple #[u, .bool t] ∧ K u t) σ
def upm (P : Program) (t : TypeId) (m k x : Value) (σ : Hp) (K : Hp → Prop) : Prop := swp P (Instr.mapUpdate t m k x) (fun _ σ' => K σ') σ
def rgm (P : Program) (t : TypeId) (x : Value) (σ : Hp) (K : Nat → Hp → Prop) : Prop := swp P (Instr.range t x) (fun v σ' => ∃ b, v = .pointer (some ⟨b, 0, none⟩) ∧ K b σ') σ
def nxm (P : Program) (it : Value) (s : Bool) (t : TypeId) (σ : Hp) (K : Bool → List Value → Hp → Prop) : Prop := swp P (Instr.next it s t) (fun v σ' => ∃ t vs, v = .tuple ⟨.bool t :: vs⟩ ∧ K t vs σ') σ
def ent (P : Program) (it : Value) (σ : Hp) (K : Value → Value → Prop) : Prop := ywp P (Instr.entry it) (fun v => ∃ k u, v = .tuple #[k, u] ∧ K k u) σ
def mkm (σ : Hp) (K : Nat → Hp → Prop) : Prop := ∀ b, σ b = none → K b (σ.ins b (.map #[] 0))
def tas (P : Program) (x : Value) (xt t : TypeId) (σ : Hp) (K : Value → Prop) : Prop := ywp P (Instr.typeAssert x xt t false) K σ
end Go.Proofs.Ytkdjkkimngeloaa
namespace Go.Proofs.Ytkdjkkimngeloaa
open Go.RowKit
theorem bcd (p : Prop) [Decidable p] (A B : Prop) : bc (decide p) A B ↔ (p → A) ∧ (¬ p → B) := by by_cases h : p <;> simp [bc, h]
theorem Tv (p : Prop) [Decidable p] (A B : Prop) : bc (!decide p) A B ↔ (p → B) ∧ (¬ p → A) := by by_cases h : p <;> simp [bc, h]
theorem AC {σ : Hp} {R : Value → Hp → Prop} {v : Value} (h : R v σ) : rt σ R v := ⟨σ, Hp.Sub.refl _, h⟩
theorem BN {σ σ' : Hp} {R : Value → Hp → Prop} {v : Value} (hs : Hp.Sub σ' σ) (h : R v σ') : rt σ R v := ⟨σ', hs, h⟩
theorem P6 {e : Int} (h : -9223372036854775808 ≤ e ∧ e ≤ 9223372036854775807) : IntKind.i64.wrap e = e := by
  have h1 : IntKind.i64.wrap e = (e + 9223372036854775808) % 18446744073709551616 - 9223372036854775808 := by
    unfold IntKind.wrap
    simp [IntKind.signed, IntKind.bits]
    omega
  rw [h1]
  omega
theorem SV {e : Int} {K : Int → Prop} (h : -9223372036854775808 ≤ e ∧ e ≤ 9223372036854775807) : wk .i64 e K ↔ K e := by
  unfold wk
  rw [P6 h]
theorem Ra (a : Array Value) : Ll #[] a #[] = a := by cases a; simp [Ll]
theorem Bg {P : Program} {g : FuncId} {args : Array Value} {σ : Hp} {R K : Value → Hp → Prop} (he : AA P g = true) (h : Af P g args σ R) (hk : ∀ v σ', R v σ' → K v σ') : cl P (.func (.func g) #[] #[]) args σ K :=
  Hj.func he (by rw [Ra]; exact h.mono hk)
theorem S1 {α : Type} {xs : List α} {i : Nat} {K : α → Prop} (h : i < xs.length) (hk : K xs[i]) : lat xs i K := ⟨h, hk⟩
theorem BP {σ : Hp} {n : Nat} {f : Nat → Hp → Prop} (m : Nat) (hm : m < n) (h : f m σ) : bk σ n f := ⟨σ, Hp.Sub.refl _, m, hm, h⟩
theorem NK {σ σ' : Hp} {n : Nat} {f : Nat → Hp → Prop} (m : Nat) (hm : m < n) (hs : Hp.Sub σ' σ) (h : f m σ') : bk σ n f := ⟨σ', hs, m, hm, h⟩
theorem RdS.at1 {s : Sh} {σ : Hp} {A : Option Addr} {n : Nat} {xs : List (TyR [s])} (h : RdS [s] σ A n xs) {i : Nat} (hi : i < xs.length) : ∃ b off, A = some ⟨b, off, none⟩ ∧ σ.cell? ⟨b, off + i, none⟩ = some (IX s xs[i]) := by
  obtain ⟨b, off, hA, hc⟩ := h.cell hi
  refine ⟨b, off, hA, ?_⟩
  have := hc 0 (by simp)
  simp only [List.length_cons, List.length_nil, Nat.zero_add, Nat.mul_one, Nat.add_zero] at this
  rw [this]
  rfl
theorem EN {k : IntKind} {σ : Hp} {A : Option Addr} {n : Nat} {xs : List Int} {i : Int} {K : Int → Prop} (h : RdS [.int k] σ A n xs) (hi : 0 ≤ i) (hn : i.toNat < xs.length) (hk : K xs[i.toNat]) : ix A n i 1 fun b a => ldI σ k b a K := by
  have hl : n = xs.length := h.1
  obtain ⟨b, off, rfl, hc⟩ := h.at1 hn
  refine ⟨hi, ?_, xs[i.toNat], ?_, hk⟩
  · rw [hl]; clear hc hk; omega
  · exact hc
theorem Sx {σ : Hp} {A : Option Addr} {n : Nat} {xs : List Bool} {i : Int} {K : Bool → Prop} (h : RdS [.bool] σ A n xs) (hi : 0 ≤ i) (hn : i.toNat < xs.length) (hk : K xs[i.toNat]) : ix A n i 1 fun b a => ldB σ b a K := by
  have hl : n = xs.length := h.1
  obtain ⟨b, off, rfl, hc⟩ := h.at1 hn
  refine ⟨hi, ?_, xs[i.toNat], ?_, hk⟩
  · rw [hl]; clear hc hk; omega
  · exact hc
theorem BA {σ : Hp} {k : IntKind} {b off : Nat} {n : Int} {K : Int → Prop} (h : σ.cell? ⟨b, off, none⟩ = some (.int k n)) (hk : K n) : ldI σ k b off K := ⟨n, h, hk⟩
theorem Ss {σ : Hp} {b off : Nat} {A : Option Addr} {n c : Nat} {K : Option Addr → Nat → Nat → Prop} (h : σ.cell? ⟨b, off, none⟩ = some (.slice A n c)) (hk : K A n c) : ldS σ b off K := ⟨A, n, c, h, hk⟩
theorem Hd {ss : List Sh} {σ : Hp} {A : Option Addr} {n : Nat} {xs : List (TyR ss)} {i : Int} {w : Nat} {K : Nat → Nat → Prop} (h : RdS ss σ A n xs) (hw : w = ss.length) (hi : 0 ≤ i) (hn : i.toNat < xs.length) (hk : ∀ b o, (∀ j, j < ss.length → σ.cell? ⟨b, o + j, none⟩ = (B9 ss xs[i.toNat])[j]?) → K b o) : ix A n i w K := by
  obtain ⟨b, off, rfl, hc⟩ := h.cell hn
  have := h.1
  refine ⟨hi, by omega, ?_⟩
  refine hk b _ fun j hj => ?_
  rw [← hc j hj, BW, hw, Nat.add_assoc]
end Go.Proofs.Ytkdjkkimngeloaa
namespace Go.Proofs.Ytkdjkkimngeloaa
open Go.RowKit
theorem Hu {A B : Prop} (h : A) : bc true A B := by simpa [bc] using h
theorem FC {A B : Prop} (h : B) : bc false A B := by simpa [bc] using h
theorem CX {A B : Prop} (h : B) : bc (!true) A B := by simpa [bc] using h
theorem C1 {A B : Prop} (h : A) : bc (!false) A B := by simpa [bc] using h
theorem Bd {p : Prop} [Decidable p] {A B : Prop} (h : p → A) (h' : ¬ p → B) : bc (decide p) A B := (bcd p A B).2 ⟨h, h'⟩
theorem Bu {p : Prop} [Decidable p] {A B : Prop} (h : ¬ p → A) (h' : p → B) : bc (!decide p) A B := (Tv p A B).2 ⟨h', h⟩
theorem IU {b : Bool} {A B : Prop} (h : b = true → A) (h' : b = false → B) : bc b A B := by cases b <;> first | exact h rfl | exact h' rfl
theorem Hf {b : Bool} {A B : Prop} (h : b = false → A) (h' : b = true → B) : bc (!b) A B := by cases b <;> first | exact h rfl | exact h' rfl
theorem AT {e : Int} {K : Int → Prop} (h : -9223372036854775808 ≤ e ∧ e ≤ 9223372036854775807) (hk : K e) : wk .i64 e K := (SV h).2 hk
theorem AP {b off : Nat} {k : Nat → Nat → Prop} (h : k b off) : dr (some ⟨b, off, none⟩) k := h
theorem Bh {n : Nat} {p : Prop} (h : n ≤ 4294967296) (hp : p) : BG n p := ⟨h, hp⟩
section
variable {P : Program} {g : FuncId} {args : Array Value} {σ : Hp}
theorem clB {b : Bool} {K : Bool → Hp → Prop} (he : AA P g = true) (h : Af P g args σ fun u σ' => u = .bool b ∧ σ' = σ) (hk : K b σ) : cl P (.func (.func g) #[] #[]) args σ fun v σ' => ∃ t : Bool, (v = .bool t ∧ K t σ') :=
  Bg he h fun _ _ ⟨e1, e2⟩ => by subst e1; subst e2; exact ⟨b, rfl, hk⟩
theorem clI {b : Int} {K : Int → Hp → Prop} (he : AA P g = true) (h : Af P g args σ fun u σ' => u = .int .i64 b ∧ σ' = σ) (hk : K b σ) : cl P (.func (.func g) #[] #[]) args σ fun v σ' => ∃ t : Int, (v = .int .i64 t ∧ K t σ') :=
  Bg he h fun _ _ ⟨e1, e2⟩ => by subst e1; subst e2; exact ⟨b, rfl, hk⟩
end
theorem Sd {e : TypeId} {ss : List Sh} {σ σ' : Hp} {A : Option Addr} {n c : Nat} {xs : List (TyR ss)} {K : List (TyR ss) → Hp → Prop} (h : Ap e ss σ A n c xs σ') (hk : K xs σ) : adp e ss A n c σ' K := ⟨xs, σ, h, hk⟩
theorem RdS.lenI {k : IntKind} {σ : Hp} {A : Option Addr} {n : Nat} {xs : List Int} (h : RdS [.int k] σ A n xs) : n = xs.length := h.1
theorem RdS.lenB {σ : Hp} {A : Option Addr} {n : Nat} {xs : List Bool} (h : RdS [.bool] σ A n xs) : n = xs.length := h.1
end Go.Proofs.Ytkdjkkimngeloaa
namespace Go.Proofs.Ytkdjkkimngeloaa
open Go.RowKit
theorem Ap.put {e : TypeId} {ss : List Sh} {σ σ' τ : Hp} {A : Option Addr} {n c : Nat} {xs : List (TyR ss)} (h : Ap e ss σ A n c xs σ') (hs : Hp.Sub σ' τ) {i : Nat} (hi : i < xs.length) :
    ∃ b off, A = some ⟨b, off, none⟩ ∧ ∀ j v r, NS ss xs[i] j v = some r → τ.wr ⟨b, off + (i * ss.length + j), none⟩ ∧ ∃ σ2, Ap e ss σ A n c (xs.set i r) σ2 ∧ Hp.Sub σ2 (τ.put ⟨b, off + (i * ss.length + j), none⟩ v) := by
  rcases h with ⟨h1, h2, h3, rfl, rfl⟩ | ⟨b, off, cells, hA, hn, hnc, hb, rfl, hsz, hr⟩
  · simp at hi
  · refine ⟨b, off, hA, fun j v r hset => ?_⟩
    obtain ⟨hj, _, _⟩ := JV hset
    have hlt : i * ss.length + j < c * ss.length := LJ (by omega) hj
    have hτ : τ b = some (.cells cells e (0, 0), true) := hs _ _ (Hp.ins_same ..)
    refine ⟨⟨cells, e, hτ, show off + (i * ss.length + j) < cells.size by omega, rfl⟩, σ.ins b (.cells (cells.setIfInBounds (off + (i * ss.length + j)) v) e (0, 0)), ?_, ?_⟩
    · refine .inr ⟨b, off, _, hA, by simpa using hn, hnc, hb, rfl, by simpa using hsz, hr.set hi hset (by omega)⟩
    · intro k x hk
      unfold Hp.ins at hk
      split at hk <;> rename_i hkb
      · subst hkb
        rw [Hp.put_same hτ]
        exact hk
      · rw [Hp.put_ne hkb]
        exact hs _ _ (by rw [Hp.ins_ne _ hkb]; exact hk)
end Go.Proofs.Ytkdjkkimngeloaa
namespace Go.Proofs.Ytkdjkkimngeloaa
open Go.RowKit
end Go.Proofs.Ytkdjkkimngeloaa
namespace Go.Proofs.Ytkdjkkimngeloaa
open Go.RowKit
end Go.Proofs.Ytkdjkkimngeloaa
