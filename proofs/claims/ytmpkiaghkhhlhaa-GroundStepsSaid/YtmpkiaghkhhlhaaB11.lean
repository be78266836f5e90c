/- Texts Ms13 Ms14 Ms15 Ms16 Ms17 M1 M2: what the claims of this seat rest on; each text says what it proves. -/
import Derived.Test.YtmpkiaghkhhlhaaB10

/- MS, part 13: the words in which M-forms are printed. -/
namespace Go.Proofs.Ytmpkiaghkhhlhaa
open Go.RowKit

def ldI (σ : Hp) (k : IntKind) (b off : Nat) (K : Int → Prop) : Prop := ∃ n, σ.cell? ⟨b, off, none⟩ = some (.int k n) ∧ K n
def ldB (σ : Hp) (b off : Nat) (K : Bool → Prop) : Prop := ∃ x, σ.cell? ⟨b, off, none⟩ = some (.bool x) ∧ K x
def ldT (σ : Hp) (b off : Nat) (K : ByteArray → Prop) : Prop := ∃ x, σ.cell? ⟨b, off, none⟩ = some (.string x) ∧ K x
def ldP (σ : Hp) (b off : Nat) (K : Option Addr → Prop) : Prop := ∃ x, σ.cell? ⟨b, off, none⟩ = some (.pointer x) ∧ K x
def ldM (σ : Hp) (b off : Nat) (K : Option Nat → Prop) : Prop := ∃ x, σ.cell? ⟨b, off, none⟩ = some (.map x) ∧ K x
def ldS (σ : Hp) (b off : Nat) (K : Option Addr → Nat → Nat → Prop) : Prop := ∃ A n c, σ.cell? ⟨b, off, none⟩ = some (.slice A n c) ∧ K A n c
def ldV (σ : Hp) (b off : Nat) (K : Value → Prop) : Prop := ∃ v, σ.cell? ⟨b, off, none⟩ = some v ∧ K v
/-- a new block -/
def bx (σ : Hp) (o : Obj) (K : Nat → Hp → Prop) : Prop := ∀ b, σ b = none → K b (σ.ins b o)
/-- a store -/
def st (σ : Hp) (b off : Nat) (v : Value) (K : Hp → Prop) : Prop := σ.wr ⟨b, off, none⟩ ∧ K (σ.put ⟨b, off, none⟩ v)
/-- the place of an element -/
def ix (A : Option Addr) (n : Nat) (i : Int) (w : Nat) (K : Nat → Nat → Prop) : Prop := dr A fun b o => 0 ≤ i ∧ i < (n : Int) ∧ K b (o + mulSz i.toNat w)
/-- a number that wraps round -/
def wk (k : IntKind) (e : Int) (K : Int → Prop) : Prop := K (k.wrap e)
/-- a function's value that is called -/
def nck (v : Value) (K : Value → Prop) : Prop := match v with
  | .pointer p => dr p fun b off => K (.pointer (some ⟨b, off, none⟩))
  | .func (.func g) first caps => K (.func (.func g) first caps)
  | _ => False
/-- rounds of a range over a function: the body's begin; its end; a way out of it; behind the loop -/
def rgb (l : Nat) (Rec : RecT) (σ : Hp) (K : Hp → Prop) : Prop := σ l = some (Rec .ready none, true) ∧ K (σ.ins l (Rec .busy none))
def rgo (l : Nat) (Rec : RecT) (R : Value → Hp → Prop) (σ : Hp) : Prop := σ l = some (Rec .busy none, true) ∧ R (.bool true) (σ.ins l (Rec .ready none))
def rgx (l : Nat) (Rec : RecT) (R : Value → Hp → Prop) (σ : Hp) (c : Code) : Prop := σ l = some (Rec .busy none, true) ∧ R (.bool false) (σ.ins l (Rec .done (some c)))
def aft (p : Option Code) (N Rt : Prop) (Ex : Nat → Prop) : Prop := match p with
  | none => N
  | some .ret => Rt
  | some (.exit id) => Ex id
  | _ => False
def exb (id k : Nat) (A B : Prop) : Prop := match Nat.beq id k with
  | true => A
  | false => B
/-- the end of a round -/
def bk (σ : Hp) (n : Nat) (f : Nat → Hp → Prop) : Prop := ∃ σ'', Hp.Sub σ'' σ ∧ ∃ m, m < n ∧ f m σ''
/-- a return -/
def rt (σ : Hp) (R : Value → Hp → Prop) (v : Value) : Prop := ∃ σ', Hp.Sub σ' σ ∧ R v σ'
/-- a call -/
def cl (P : Program) (f : Value) (args : Array Value) (σ : Hp) (K : Value → Hp → Prop) : Prop := FFun P f args σ K
/-- copy -/
def cpy (P : Program) (ts : Array TypeId) (t : TypeId) (args : Array Value) (σ : Hp) (K : Int → Hp → Prop) : Prop :=
  swp P (Builtin.copy_ ts t args) (fun v σ' => ∃ n, v = .int .i64 n ∧ K n σ') σ

end Go.Proofs.Ytmpkiaghkhhlhaa

/- MS, part 14: lemmas for proofs on M-forms. -/
namespace Go.Proofs.Ytmpkiaghkhhlhaa
open Go.RowKit

theorem bct (A B : Prop) : bc true A B ↔ A := by simp [bc]
theorem bcf (A B : Prop) : bc false A B ↔ B := by simp [bc]
theorem bcd (p : Prop) [Decidable p] (A B : Prop) : bc (decide p) A B ↔ (p → A) ∧ (¬ p → B) := by by_cases h : p <;> simp [bc, h]
theorem bcnd (p : Prop) [Decidable p] (A B : Prop) : bc (!decide p) A B ↔ (p → B) ∧ (¬ p → A) := by by_cases h : p <;> simp [bc, h]
theorem bcn (b : Bool) (A B : Prop) : bc (!b) A B ↔ bc b B A := by cases b <;> simp [bc]
theorem rt_of {σ : Hp} {R : Value → Hp → Prop} {v : Value} (h : R v σ) : rt σ R v := ⟨σ, Hp.Sub.refl _, h⟩
theorem rt_sub {σ σ' : Hp} {R : Value → Hp → Prop} {v : Value} (hs : Hp.Sub σ' σ) (h : R v σ') : rt σ R v := ⟨σ', hs, h⟩
theorem i64_wrap {e : Int} (h : -9223372036854775808 ≤ e ∧ e ≤ 9223372036854775807) : IntKind.i64.wrap e = e := by
  have h1 : IntKind.i64.wrap e = (e + 9223372036854775808) % 18446744073709551616 - 9223372036854775808 := by
    unfold IntKind.wrap
    simp [IntKind.signed, IntKind.bits]
    omega
  rw [h1]
  omega
theorem wk_i64 {e : Int} {K : Int → Prop} (h : -9223372036854775808 ≤ e ∧ e ≤ 9223372036854775807) : wk .i64 e K ↔ K e := by
  unfold wk
  rw [i64_wrap h]
theorem app3_nil (a : Array Value) : app3 #[] a #[] = a := by cases a; simp [app3]
theorem cl_of {P : Program} {g : FuncId} {args : Array Value} {σ : Hp} {R K : Value → Hp → Prop} (he : enterB P g = true) (h : FCalls P g args σ R) (hk : ∀ v σ', R v σ' → K v σ') : cl P (.func (.func g) #[] #[]) args σ K :=
  FFun.func he (by rw [app3_nil]; exact h.mono hk)
/-- a call that hands back one value and leaves the memory as it is -/
theorem cl_val {P : Program} {g : FuncId} {args : Array Value} {σ : Hp} {v : Value} {K : Value → Hp → Prop} (he : enterB P g = true) (h : FCalls P g args σ fun u σ' => u = v ∧ σ' = σ) (hk : K v σ) : cl P (.func (.func g) #[] #[]) args σ K :=
  cl_of he h fun u σ' ⟨e1, e2⟩ => by rw [e1, e2]; exact hk
theorem roomy_iff {n : Nat} {p : Prop} : roomy n p ↔ n ≤ 4294967296 ∧ p := Iff.rfl
theorem lat_iff {α : Type} {xs : List α} {i : Nat} {K : α → Prop} : lat xs i K ↔ ∃ h : i < xs.length, K xs[i] := Iff.rfl
theorem lat_of {α : Type} {xs : List α} {i : Nat} {K : α → Prop} (h : i < xs.length) (hk : K xs[i]) : lat xs i K := ⟨h, hk⟩
theorem bk_of {σ : Hp} {n : Nat} {f : Nat → Hp → Prop} (m : Nat) (hm : m < n) (h : f m σ) : bk σ n f := ⟨σ, Hp.Sub.refl _, m, hm, h⟩
theorem bk_sub {σ σ' : Hp} {n : Nat} {f : Nat → Hp → Prop} (m : Nat) (hm : m < n) (hs : Hp.Sub σ' σ) (h : f m σ') : bk σ n f := ⟨σ', hs, m, hm, h⟩

/-- a slice of one-cell elements, read -/
theorem RdS.at1 {s : Sh} {σ : Hp} {A : Option Addr} {n : Nat} {xs : List (TyR [s])} (h : RdS [s] σ A n xs) {i : Nat} (hi : i < xs.length) : ∃ b off, A = some ⟨b, off, none⟩ ∧ σ.cell? ⟨b, off + i, none⟩ = some (enc1 s xs[i]) := by
  obtain ⟨b, off, hA, hc⟩ := h.cell hi
  refine ⟨b, off, hA, ?_⟩
  have := hc 0 (by simp)
  simp only [List.length_cons, List.length_nil, Nat.zero_add, Nat.mul_one, Nat.add_zero] at this
  rw [this]
  rfl
theorem ix_ldI {k : IntKind} {σ : Hp} {A : Option Addr} {n : Nat} {xs : List Int} {i : Int} {K : Int → Prop} (h : RdS [.int k] σ A n xs) (hi : 0 ≤ i) (hn : i.toNat < xs.length) (hk : K xs[i.toNat]) : ix A n i 1 fun b a => ldI σ k b a K := by
  have hl : n = xs.length := h.1
  obtain ⟨b, off, rfl, hc⟩ := h.at1 hn
  refine ⟨hi, ?_, xs[i.toNat], ?_, hk⟩
  · rw [hl]; clear hc hk; omega
  · exact hc
theorem ix_ldB {σ : Hp} {A : Option Addr} {n : Nat} {xs : List Bool} {i : Int} {K : Bool → Prop} (h : RdS [.bool] σ A n xs) (hi : 0 ≤ i) (hn : i.toNat < xs.length) (hk : K xs[i.toNat]) : ix A n i 1 fun b a => ldB σ b a K := by
  have hl : n = xs.length := h.1
  obtain ⟨b, off, rfl, hc⟩ := h.at1 hn
  refine ⟨hi, ?_, xs[i.toNat], ?_, hk⟩
  · rw [hl]; clear hc hk; omega
  · exact hc

/-! ### Slices of structs -/
theorem dr_some (b off : Nat) (k : Nat → Nat → Prop) : dr (some ⟨b, off, none⟩) k ↔ k b off := Iff.rfl
theorem ldI_of {σ : Hp} {k : IntKind} {b off : Nat} {n : Int} {K : Int → Prop} (h : σ.cell? ⟨b, off, none⟩ = some (.int k n)) (hk : K n) : ldI σ k b off K := ⟨n, h, hk⟩
theorem ldB_of {σ : Hp} {b off : Nat} {n : Bool} {K : Bool → Prop} (h : σ.cell? ⟨b, off, none⟩ = some (.bool n)) (hk : K n) : ldB σ b off K := ⟨n, h, hk⟩
theorem ldP_of {σ : Hp} {b off : Nat} {p : Option Addr} {K : Option Addr → Prop} (h : σ.cell? ⟨b, off, none⟩ = some (.pointer p)) (hk : K p) : ldP σ b off K := ⟨p, h, hk⟩
theorem ldS_of {σ : Hp} {b off : Nat} {A : Option Addr} {n c : Nat} {K : Option Addr → Nat → Nat → Prop} (h : σ.cell? ⟨b, off, none⟩ = some (.slice A n c)) (hk : K A n c) : ldS σ b off K := ⟨A, n, c, h, hk⟩
/-- element i lies at (b, o): its cells -/
theorem ix_of {ss : List Sh} {σ : Hp} {A : Option Addr} {n : Nat} {xs : List (TyR ss)} {i : Int} {w : Nat} {K : Nat → Nat → Prop} (h : RdS ss σ A n xs) (hw : w = ss.length) (hi : 0 ≤ i) (hn : i.toNat < xs.length) (hk : ∀ b o, (∀ j, j < ss.length → σ.cell? ⟨b, o + j, none⟩ = (encR ss xs[i.toNat])[j]?) → K b o) : ix A n i w K := by
  obtain ⟨b, off, rfl, hc⟩ := h.cell hn
  have := h.1
  refine ⟨hi, by omega, ?_⟩
  refine hk b _ fun j hj => ?_
  rw [← hc j hj, mulSz_eq, hw, Nat.add_assoc]

end Go.Proofs.Ytmpkiaghkhhlhaa

/- MS, part 15: rules for proofs on M-forms, to be applied from the goal. -/
namespace Go.Proofs.Ytmpkiaghkhhlhaa
open Go.RowKit

theorem bc_t {A B : Prop} (h : A) : bc true A B := by simpa [bc] using h
theorem bc_f {A B : Prop} (h : B) : bc false A B := by simpa [bc] using h
theorem bc_nt {A B : Prop} (h : B) : bc (!true) A B := by simpa [bc] using h
theorem bc_nf {A B : Prop} (h : A) : bc (!false) A B := by simpa [bc] using h
theorem bc_d {p : Prop} [Decidable p] {A B : Prop} (h : p → A) (h' : ¬ p → B) : bc (decide p) A B := (bcd p A B).2 ⟨h, h'⟩
theorem bc_nd {p : Prop} [Decidable p] {A B : Prop} (h : ¬ p → A) (h' : p → B) : bc (!decide p) A B := (bcnd p A B).2 ⟨h', h⟩
theorem bc_b {b : Bool} {A B : Prop} (h : b = true → A) (h' : b = false → B) : bc b A B := by cases b <;> first | exact h rfl | exact h' rfl
theorem bc_nb {b : Bool} {A B : Prop} (h : b = false → A) (h' : b = true → B) : bc (!b) A B := by cases b <;> first | exact h rfl | exact h' rfl
theorem wk_i {e : Int} {K : Int → Prop} (h : -9223372036854775808 ≤ e ∧ e ≤ 9223372036854775807) (hk : K e) : wk .i64 e K := (wk_i64 h).2 hk
theorem dr_i {b off : Nat} {k : Nat → Nat → Prop} (h : k b off) : dr (some ⟨b, off, none⟩) k := h
theorem roomy_i {n : Nat} {p : Prop} (h : n ≤ 4294967296) (hp : p) : roomy n p := ⟨h, hp⟩

/-! ### Calls by what they hand back -/
section
variable {P : Program} {g : FuncId} {args : Array Value} {σ : Hp}
theorem clB {b : Bool} {K : Bool → Hp → Prop} (he : enterB P g = true) (h : FCalls P g args σ fun u σ' => u = .bool b ∧ σ' = σ) (hk : K b σ) : cl P (.func (.func g) #[] #[]) args σ fun v σ' => ∃ t : Bool, (v = .bool t ∧ K t σ') :=
  cl_of he h fun _ _ ⟨e1, e2⟩ => by subst e1; subst e2; exact ⟨b, rfl, hk⟩
theorem clI {b : Int} {K : Int → Hp → Prop} (he : enterB P g = true) (h : FCalls P g args σ fun u σ' => u = .int .i64 b ∧ σ' = σ) (hk : K b σ) : cl P (.func (.func g) #[] #[]) args σ fun v σ' => ∃ t : Int, (v = .int .i64 t ∧ K t σ') :=
  cl_of he h fun _ _ ⟨e1, e2⟩ => by subst e1; subst e2; exact ⟨b, rfl, hk⟩
theorem clBs {b : Bool} {K : Bool → Hp → Prop} (he : enterB P g = true) (h : FCalls P g args σ fun u σ' => u = .bool b ∧ σ' = σ) (hk : K b σ) : cl P (.func (.func g) #[] #[]) args σ fun v σ' => ∃ t : Bool, (v = .bool t ∧ (Hp.Sub σ σ' ∧ K t σ')) :=
  clB he h ⟨Hp.Sub.refl _, hk⟩
theorem clIs {b : Int} {K : Int → Hp → Prop} (he : enterB P g = true) (h : FCalls P g args σ fun u σ' => u = .int .i64 b ∧ σ' = σ) (hk : K b σ) : cl P (.func (.func g) #[] #[]) args σ fun v σ' => ∃ t : Int, (v = .int .i64 t ∧ (Hp.Sub σ σ' ∧ K t σ')) :=
  clI he h ⟨Hp.Sub.refl _, hk⟩
/-- what hands back a new list -/
def NewL (e : TypeId) (ss : List Sh) (σ : Hp) (xs : List (TyR ss)) : Value → Hp → Prop := fun v σ' => ∃ A n c, v = .slice A n c ∧ OwnSl e ss σ A n c xs σ'
theorem clL {e : TypeId} {ss : List Sh} {xs : List (TyR ss)} {K : List (TyR ss) → Hp → Prop} (he : enterB P g = true) (h : FCalls P g args σ (NewL e ss σ xs)) (hk : K xs σ) : cl P (.func (.func g) #[] #[]) args σ fun v σ' => ∃ A : Option Addr, ∃ l c : Nat, (v = .slice A l c ∧ adp e ss A l c σ' K) :=
  cl_of he h fun _ _ ⟨A, n, c, e1, ho⟩ => ⟨A, n, c, e1, xs, σ, ho, hk⟩
theorem clLs {e : TypeId} {ss : List Sh} {xs : List (TyR ss)} {K : List (TyR ss) → Hp → Prop} (he : enterB P g = true) (h : FCalls P g args σ (NewL e ss σ xs)) (hk : K xs σ) : cl P (.func (.func g) #[] #[]) args σ fun v σ' => ∃ A : Option Addr, ∃ l c : Nat, (v = .slice A l c ∧ (Hp.Sub σ σ' ∧ adp e ss A l c σ' K)) :=
  cl_of he h fun _ _ ⟨A, n, c, e1, ho⟩ => ⟨A, n, c, e1, ho.sub, xs, σ, ho, hk⟩
theorem clS {e : TypeId} {ss : List Sh} {xs : List (TyR ss)} {K : Option Addr → Nat → Nat → Hp → Prop} (he : enterB P g = true) (h : FCalls P g args σ (NewL e ss σ xs)) (hk : ∀ A n c σ', OwnSl e ss σ A n c xs σ' → K A n c σ') : cl P (.func (.func g) #[] #[]) args σ fun v σ' => ∃ A : Option Addr, ∃ l c : Nat, (v = .slice A l c ∧ K A l c σ') :=
  cl_of he h fun _ _ ⟨A, n, c, e1, ho⟩ => ⟨A, n, c, e1, hk _ _ _ _ ho⟩
/-- a new list and a truth value -/
def NewLB (e : TypeId) (ss : List Sh) (σ : Hp) (xs : List (TyR ss)) (b : Bool) : Value → Hp → Prop := fun v σ' => ∃ A n c, v = .tuple #[.slice A n c, .bool b] ∧ OwnSl e ss σ A n c xs σ'
theorem clSB {e : TypeId} {ss : List Sh} {xs : List (TyR ss)} {b : Bool} {K : Option Addr → Nat → Nat → Bool → Hp → Prop} (he : enterB P g = true) (h : FCalls P g args σ (NewLB e ss σ xs b)) (hk : ∀ A n c σ', OwnSl e ss σ A n c xs σ' → K A n c b σ') : cl P (.func (.func g) #[] #[]) args σ fun v σ' => ∃ A : Option Addr, ∃ l c : Nat, ∃ t : Bool, (v = .tuple #[.slice A l c, .bool t] ∧ K A l c t σ') :=
  cl_of he h fun _ _ ⟨A, n, c, e1, ho⟩ => ⟨A, n, c, b, e1, hk _ _ _ _ ho⟩
/-- two numbers -/
theorem clII {a b : Int} {K : Int → Int → Hp → Prop} (he : enterB P g = true) (h : FCalls P g args σ fun u σ' => u = .tuple #[.int .i64 a, .int .i64 b] ∧ σ' = σ) (hk : K a b σ) : cl P (.func (.func g) #[] #[]) args σ fun v σ' => ∃ s t : Int, (v = .tuple #[.int .i64 s, .int .i64 t] ∧ K s t σ') :=
  cl_of he h fun _ _ ⟨e1, e2⟩ => by subst e1; subst e2; exact ⟨a, b, rfl, hk⟩
end
theorem NewL.nil {e : TypeId} {ss : List Sh} {σ : Hp} : NewL e ss σ [] (.slice none 0 0) σ := ⟨none, 0, 0, rfl, OwnSl.nil ..⟩
theorem adp_own {e : TypeId} {ss : List Sh} {σ σ' : Hp} {A : Option Addr} {n c : Nat} {xs : List (TyR ss)} {K : List (TyR ss) → Hp → Prop} (h : OwnSl e ss σ A n c xs σ') (hk : K xs σ) : adp e ss A n c σ' K := ⟨xs, σ, h, hk⟩
theorem OwnSl.RdI {e : TypeId} {k : IntKind} {σ σ' : Hp} {A : Option Addr} {n c : Nat} {xs : List Int} (h : OwnSl e [.int k] σ A n c xs σ') : RdS [.int k] σ' A n xs := h.rd
theorem RdS.lenI {k : IntKind} {σ : Hp} {A : Option Addr} {n : Nat} {xs : List Int} (h : RdS [.int k] σ A n xs) : n = xs.length := h.1
theorem RdS.lenB {σ : Hp} {A : Option Addr} {n : Nat} {xs : List Bool} (h : RdS [.bool] σ A n xs) : n = xs.length := h.1

end Go.Proofs.Ytmpkiaghkhhlhaa

/- MS, part 16: owned slices in a heap: order, stores. -/
namespace Go.Proofs.Ytmpkiaghkhhlhaa
open Go.RowKit

theorem ins_comm {σ : Hp} {b b' : Nat} {o o' : Obj} (h : b ≠ b') : (σ.ins b o).ins b' o' = (σ.ins b' o').ins b o := by
  funext k
  unfold Hp.ins
  by_cases h1 : k = b
  · have h2 : k ≠ b' := fun e => h (h1.symm.trans e)
    rw [if_neg h2, if_pos h1, if_pos h1]
  · by_cases h2 : k = b'
    · rw [if_pos h2, if_neg h1, if_pos h2]
    · rw [if_neg h2, if_neg h1, if_neg h1, if_neg h2]
theorem ins_eq_none {σ : Hp} {b k : Nat} {o : Obj} (h : σ.ins b o k = none) : k ≠ b ∧ σ k = none := by
  unfold Hp.ins at h
  split at h
  · cases h
  · rename_i hk; exact ⟨hk, h⟩
theorem Hp.Sub.ins_both {σ σ' : Hp} (h : Hp.Sub σ σ') (b : Nat) (o : Obj) : Hp.Sub (σ.ins b o) (σ'.ins b o) := fun k x e => by
  unfold Hp.ins at e ⊢
  split <;> rename_i hk
  · rw [if_pos hk] at e; exact e
  · rw [if_neg hk] at e; exact h _ _ e
theorem Hp.Sub.none {σ σ' : Hp} (h : Hp.Sub σ σ') {b : Nat} (hb : σ' b = none) : σ b = none := by
  cases e : σ b with
  | none => rfl
  | some x => have := h _ _ e; rw [hb] at this; cases this
/-- one more block below -/
theorem OwnSl.ins_base {e : TypeId} {ss : List Sh} {σ σ' : Hp} {A : Option Addr} {n c : Nat} {xs : List (TyR ss)} (h : OwnSl e ss σ A n c xs σ') {b : Nat} (hb : σ' b = none) (o : Obj) : OwnSl e ss (σ.ins b o) A n c xs (σ'.ins b o) := by
  rcases h with ⟨h1, h2, h3, h4, rfl⟩ | ⟨b', off, cells, hA, hn, hnc, hb', rfl, hs, hr⟩
  · exact .inl ⟨h1, h2, h3, h4, rfl⟩
  · obtain ⟨h1, h2⟩ := ins_eq_none hb
    refine .inr ⟨b', off, cells, hA, hn, hnc, ?_, ins_comm (fun e => h1 e.symm), hs, hr⟩
    rw [Hp.ins_ne _ (fun e => h1 e.symm)]
    exact hb'
theorem OwnSl.swap {e e' : TypeId} {ss ss' : List Sh} {σ σ1 σ2 : Hp} {A A' : Option Addr} {n c n' c' : Nat} {xs : List (TyR ss)} {ys : List (TyR ss')} (h : OwnSl e ss σ A n c xs σ1) (h' : OwnSl e' ss' σ1 A' n' c' ys σ2) : ∃ σ1', OwnSl e' ss' σ A' n' c' ys σ1' ∧ OwnSl e ss σ1' A n c xs σ2 := by
  rcases h' with ⟨h1, h2, h3, h4, rfl⟩ | ⟨b', off, cells, hA, hn, hnc, hb', rfl, hs, hr⟩
  · exact ⟨σ, .inl ⟨h1, h2, h3, h4, rfl⟩, h⟩
  · exact ⟨_, .inr ⟨b', off, cells, hA, hn, hnc, h.sub.none hb', rfl, hs, hr⟩, h.ins_base hb' _⟩
/-- a store of one cell -/
theorem OwnSl.put {e : TypeId} {ss : List Sh} {σ σ' τ : Hp} {A : Option Addr} {n c : Nat} {xs : List (TyR ss)} (h : OwnSl e ss σ A n c xs σ') (hs : Hp.Sub σ' τ) {i : Nat} (hi : i < xs.length) :
    ∃ b off, A = some ⟨b, off, none⟩ ∧ ∀ j v r, setR ss xs[i] j v = some r → τ.wr ⟨b, off + (i * ss.length + j), none⟩ ∧ ∃ σ2, OwnSl e ss σ A n c (xs.set i r) σ2 ∧ Hp.Sub σ2 (τ.put ⟨b, off + (i * ss.length + j), none⟩ v) := by
  rcases h with ⟨h1, h2, h3, rfl, rfl⟩ | ⟨b, off, cells, hA, hn, hnc, hb, rfl, hsz, hr⟩
  · simp at hi
  · refine ⟨b, off, hA, fun j v r hset => ?_⟩
    obtain ⟨hj, _, _⟩ := setR_enc hset
    have hlt : i * ss.length + j < c * ss.length := idx_lt (by omega) hj
    have hτ : τ b = some (.cells cells e (0, 0), true) := hs _ _ (Hp.ins_same ..)
    refine ⟨⟨cells, e, hτ, show off + (i * ss.length + j) < cells.size by omega, rfl⟩, σ.ins b (.cells (cells.setIfInBounds (off + (i * ss.length + j)) v) e (0, 0)), ?_, ?_⟩
    · refine .inr ⟨b, off, _, hA, by simpa using hn, hnc, hb, rfl, by simpa using hsz, hr.set hi hset (by omega)⟩
    · intro k x hk
      unfold Hp.ins at hk
      split at hk <;> rename_i hkb
      · subst hkb
        rw [Hp.put_same hτ]
        exact hk
      · rw [Hp.put_ne hkb]
        exact hs _ _ (by rw [Hp.ins_ne _ hkb]; exact hk)
theorem OwnSl.ix_stI {e : TypeId} {σ σ' τ : Hp} {A : Option Addr} {n c : Nat} {xs : List Int} {i v : Int} {K : Hp → Prop} (h : OwnSl e [.int .i64] σ A n c xs σ') (hs : Hp.Sub σ' τ) (hi : 0 ≤ i) (hn : i.toNat < xs.length)
    (hk : ∀ σ2 τ2, OwnSl e [.int .i64] σ A n c (xs.set i.toNat v) σ2 → Hp.Sub σ2 τ2 → K τ2) : ix A n i 1 fun b a => st τ b a (.int .i64 v) K := by
  obtain ⟨b, off, rfl, hp⟩ := h.put hs hn
  have hl : n = xs.length := h.len
  obtain ⟨hw, σ2, ho2, hs2⟩ := hp 0 (.int .i64 v) v rfl
  refine ⟨hi, by omega, ?_, ?_⟩
  · simpa [mulSz_eq] using hw
  · refine hk σ2 _ ho2 ?_
    simpa [mulSz_eq] using hs2
theorem OwnSl.ix_stB {e : TypeId} {σ σ' τ : Hp} {A : Option Addr} {n c : Nat} {xs : List Bool} {i : Int} {v : Bool} {K : Hp → Prop} (h : OwnSl e [.bool] σ A n c xs σ') (hs : Hp.Sub σ' τ) (hi : 0 ≤ i) (hn : i.toNat < xs.length)
    (hk : ∀ σ2 τ2, OwnSl e [.bool] σ A n c (xs.set i.toNat v) σ2 → Hp.Sub σ2 τ2 → K τ2) : ix A n i 1 fun b a => st τ b a (.bool v) K := by
  obtain ⟨b, off, rfl, hp⟩ := h.put hs hn
  have hl : n = xs.length := h.len
  obtain ⟨hw, σ2, ho2, hs2⟩ := hp 0 (.bool v) v rfl
  refine ⟨hi, by omega, ?_, ?_⟩
  · simpa [mulSz_eq] using hw
  · refine hk σ2 _ ho2 ?_
    simpa [mulSz_eq] using hs2
/-- a pair of a number and a truth value -/
theorem OwnSl.ix_stIB {e : TypeId} {σ σ' τ : Hp} {A : Option Addr} {n c : Nat} {xs : List (Int × Bool)} {i v : Int} {t : Bool} {K : Hp → Prop} (h : OwnSl e [.int .i64, .bool] σ A n c xs σ') (hs : Hp.Sub σ' τ) (hi : 0 ≤ i) (hn : i.toNat < xs.length)
    (hk : ∀ σ2 τ2, OwnSl e [.int .i64, .bool] σ A n c (xs.set i.toNat (v, t)) σ2 → Hp.Sub σ2 τ2 → K τ2) : ix A n i 2 fun b a => st τ b a (.int .i64 v) fun τ1 => st τ1 b (a + 1) (.bool t) K := by
  obtain ⟨b, off, rfl, hp⟩ := h.put hs hn
  have hl : n = xs.length := h.len
  obtain ⟨hw, σ2, ho2, hs2⟩ := hp 0 (.int .i64 v) (v, xs[i.toNat].2) rfl
  have hn2 : i.toNat < (xs.set i.toNat (v, xs[i.toNat].2)).length := by simpa using hn
  obtain ⟨b', off', hA, hp2⟩ := ho2.put hs2 hn2
  cases hA
  obtain ⟨hw2, σ3, ho3, hs3⟩ := hp2 1 (.bool t) (v, t) ((congrArg (fun z : Int × Bool => setR [.int .i64, .bool] z 1 (.bool t)) (List.getElem_set_self hn2)).trans rfl)
  refine ⟨hi, by omega, ?_, ?_, ?_⟩
  · simpa [mulSz_eq] using hw
  · simpa [mulSz_eq, Nat.add_assoc] using hw2
  · have e2 : (xs.set i.toNat (v, xs[i.toNat].2)).set i.toNat (v, t) = xs.set i.toNat (v, t) := List.set_set ..
    refine hk σ3 _ ((congrArg (fun z : List (Int × Bool) => OwnSl e [.int .i64, .bool] σ (some ⟨b, off, none⟩) n c z σ3) e2).mp ho3) ?_
    simpa [mulSz_eq, Nat.add_assoc] using hs3
theorem ix_stIw {_ _ : Hp} {A : Option Addr} {n : Nat} {i : Int} {w : Nat} {K K' : Nat → Nat → Prop} (h : ix A n i w K) (hk : ∀ b a, K b a → K' b a) : ix A n i w K' := by
  unfold ix at h ⊢
  cases A with
  | none => exact h
  | some a => 
    obtain ⟨b, o, s⟩ := a
    cases s with
    | none => exact ⟨h.1, h.2.1, hk _ _ h.2.2⟩
    | some _ => exact h

end Go.Proofs.Ytmpkiaghkhhlhaa

/- MS, part 17: copy. -/
namespace Go.Proofs.Ytmpkiaghkhhlhaa
open Go.RowKit

theorem swp_copy {P : Program} {t0 t1 ty e : TypeId} {ie : TypeInfo} {σ : Hp} {base xb : Option Addr} {dLen dc m xc : Nat} {new : List Value} {K : Value → Hp → Prop}
    (hund : P.underlying t0 = some (.slice e)) (hie : P.info? e = some ie) (hn : RdC σ xb new) (hnl : new.length = min m dLen * ie.size) (hnA : xb = none → new = [])
    (h0 : base = none → K (.int .i64 (min m dLen : Nat)) σ) (h1 : ∀ a, base = some a → ∃ b off, a = ⟨b, off, none⟩ ∧ stc σ b off 0 new fun σ' => K (.int .i64 (min m dLen : Nat)) σ') :
    swp P (Builtin.copy_ #[t0, t1] ty #[.slice base dLen dc, .slice xb m xc]) K σ := by
  unfold Builtin.copy_
  simp only [List.getElem?_toArray, List.getElem?_cons_zero, List.getElem?_cons_succ]
  refine swp_und hund ?_
  simp only
  refine swp_bind (P := P) (Builtin.lenOf _) _ _ _ ?_
  refine swp_pure _ _ _ ?_
  refine swp_size hie ?_
  refine swp_bind _ _ _ _ ?_
  have e1 : Builtin.firstCells ie.size (Nat.min m dLen) (.slice xb m xc) = Builtin.firstCells ie.size (min m dLen) (.slice xb (min m dLen) 0) := by cases xb <;> rfl
  rw [e1]
  refine swp_firstCells hn hnl hnA ?_
  cases base with
  | none => exact h0 rfl
  | some a =>
    obtain ⟨b, off, rfl, h2⟩ := h1 a rfl
    simp only
    refine swp_bind _ _ _ _ ?_
    exact swp_storeCells new 0 σ h2
def cpyOK (P : Program) (t0 e : TypeId) (w : Nat) : Bool := match P.underlying t0 with
  | some (.slice e') => Nat.beq e' e && match P.info? e with
    | some ie => Nat.beq ie.size w
    | none => false
  | _ => false
theorem cpyOK_of {P : Program} {t0 e : TypeId} {w : Nat} (h : cpyOK P t0 e w = true) : P.underlying t0 = some (.slice e) ∧ ∃ ie, P.info? e = some ie ∧ ie.size = w := by
  unfold cpyOK at h
  split at h
  · rename_i e' he
    simp only [Bool.and_eq_true] at h
    have := Nat.eq_of_beq_eq_true h.1
    subst this
    split at h
    · rename_i ie hie
      exact ⟨he, ie, hie, Nat.eq_of_beq_eq_true h.2⟩
    · simp at h
  · cases h
/-- a copy into an owned slice, from element k on -/
theorem cpy_own {P : Program} {t0 t1 ty e : TypeId} {ss : List Sh} {σ σ' τ : Hp} {A base xb : Option Addr} {n c dc m xc k : Nat} {xs ys : List (TyR ss)} {K : Int → Hp → Prop}
    (hok : cpyOK P t0 e ss.length = true) (hna : noAny ss = true) (h : OwnSl e ss σ A n c xs σ') (hs : Hp.Sub σ' τ) (hk : k ≤ n)
    (hb : ∀ b off, A = some ⟨b, off, none⟩ → base = some ⟨b, off + k * ss.length, none⟩) (hb0 : A = none → base = none) (hy : RdS ss τ xb m ys)
    (hK : ∀ σ2 τ2, OwnSl e ss σ A n c (xs.take k ++ (ys.take (min m (n - k)) ++ xs.drop (k + min m (n - k)))) σ2 → Hp.Sub σ2 τ2 → K (min m (n - k) : Nat) τ2) :
    cpy P #[t0, t1] ty #[.slice base (n - k) dc, .slice xb m xc] τ K := by
  obtain ⟨hund, ie, hie, hsz⟩ := cpyOK_of hok
  obtain ⟨hym, _⟩ := id hy
  have hyt : RdS ss τ xb (min m (n - k)) (ys.take (min m (n - k))) := by
    refine ⟨by rw [List.length_take]; omega, ?_⟩
    rcases hy.2 with h0 | ⟨b, off, cells, e, f, rw, hA, hb, hr⟩
    · exact .inl (by omega)
    · exact .inr ⟨b, off, cells, e, f, rw, hA, hb, hr.take _⟩
  obtain ⟨hr, hr0⟩ := hyt.rdC
  have hlt : (ys.take (min m (n - k))).length = min m (n - k) := by rw [List.length_take]; omega
  have hfl : (flat ss (ys.take (min m (n - k)))).length = min m (n - k) * ss.length := by rw [flat_length, hlt]
  unfold cpy
  refine swp_copy hund hie hr (by rw [hfl, hsz]) hr0 (fun hbn => ⟨_, rfl, ?_⟩) (fun a ha => ?_)
  · rcases h with ⟨rfl, h2, h3, rfl, rfl⟩ | ⟨b, off, cells, hA, hn, hnc, hb', rfl, hsz', hr'⟩
    · subst h2
      refine hK _ _ (.inl ⟨rfl, rfl, h3, ?_, rfl⟩) hs
      simp
    · have := hb b off hA
      rw [hbn] at this
      cases this
  · rcases h with ⟨hA, _⟩ | ⟨b, off, cells, hA, hn, hnc, hb', rfl, hsz', hr'⟩
    · have := hb0 hA
      rw [ha] at this
      cases this
    · have e1 := hb b off hA
      rw [ha] at e1
      injection e1 with e1
      subst e1
      have hq : k + min m (n - k) ≤ n := by omega
      generalize hqq : min m (n - k) = q at *
      have hm1 : (k + q) * ss.length ≤ n * ss.length := Nat.mul_le_mul_right _ hq
      have hm2 : n * ss.length ≤ c * ss.length := Nat.mul_le_mul_right _ hnc
      rw [Nat.add_mul] at hm1
      refine ⟨b, _, rfl, stc_blk _ 0 cells τ (hs _ _ (Hp.ins_same ..)) (flat_one hna _) (by rw [hfl]; omega) ?_⟩
      intro c' τ2 h1 h2 h3 h4 h5 h6
      refine ⟨_, rfl, hK (σ.ins b (.cells c' e (0, 0))) τ2 (.inr ⟨b, off, c', hA, ?_, hnc, hb', rfl, by omega, ?_⟩) ?_⟩
      · simp only [List.length_append, List.length_take, List.length_drop]
        omega
      · intro i j hi hj
        have hi' : i < xs.length := by
          simp only [List.length_append, List.length_take, List.length_drop] at hi
          omega
        have hidx := idx_lt (n := n) (show i < n by omega) hj
        rcases Nat.lt_or_ge i k with hik | hik
        · have := idx_lt (w := ss.length) hik hj
          rw [h2 _ (by omega), hr' i j hi' hj]
          congr 2
          rw [List.getElem_append_left (by rw [List.length_take]; omega), List.getElem_take]
        · rcases Nat.lt_or_ge i (k + q) with hiq | hiq
          · have e2 : i = k + (i - k) := by omega
            have := h4 ((i - k) * ss.length + j) (by rw [hfl]; exact idx_lt (by omega) hj)
            have e3 : off + (i * ss.length + j) = off + k * ss.length + 0 + ((i - k) * ss.length + j) := by
              have : i * ss.length = k * ss.length + (i - k) * ss.length := by rw [← Nat.add_mul, ← e2]
              omega
            rw [e3, this, flat_get ss _ (i - k) j (by rw [hlt]; omega) hj]
            congr 2
            rw [List.getElem_append_right (by rw [List.length_take]; omega), List.getElem_append_left (by simp only [List.length_take]; omega)]
            congr 1
            rw [List.length_take]
            omega
          · have hge : (k + q) * ss.length ≤ i * ss.length := Nat.mul_le_mul_right _ hiq
            rw [Nat.add_mul] at hge
            rw [h3 _ (by rw [hfl]; omega), hr' i j hi' hj]
            congr 2
            rw [List.getElem_append_right (by rw [List.length_take]; omega), List.getElem_append_right (by simp only [List.length_take]; omega), List.getElem_drop]
            congr 1
            simp only [List.length_take]
            omega
      · intro x y hxy
        by_cases hxb : x = b
        · subst hxb
          rw [Hp.ins_same] at hxy
          rw [h5, hxy]
        · rw [Hp.ins_ne _ hxb] at hxy
          rw [h6 _ hxb]
          exact hs _ _ (by rw [Hp.ins_ne _ hxb]; exact hxy)

end Go.Proofs.Ytmpkiaghkhhlhaa

/- M-forms, printed by wip/gen/genm.py out of the translation: each function as a proposition over its local objects, with the lemma that it is what the function does. -/
namespace Go.Proofs.Ytmpkiaghkhhlhaa
open Go.RowKit

theorem mixed_M1 : Try.prog.follows .mixedOrders = true := by kernel_rfl

abbrev N_law04_Large : FuncId := 13
/-- waltzer/waltzerlaw04.Large -/
def M_law04_Large (σ : Hp) (_ : Int) (_ : Int) (_ : Option Addr) (g_Cells_n : Nat) (_ : Nat) (_ : Option Addr) (_ : Nat) (_ : Nat) (_ : Option Addr) (l_n : Nat) (_ : Nat) (R : Value → Hp → Prop) : Prop :=
  bc (decide ((25 : Int) < ((g_Cells_n : Nat) : Int))) (bc (decide (((g_Cells_n : Nat) : Int) ≤ 64)) (rt σ R (.bool true)) (bc (decide ((4 : Int) < ((l_n : Nat) : Int))) (rt σ R (.bool (decide (((l_n : Nat) : Int) ≤ 8)))) (rt σ R (.bool false)))) (bc false (rt σ R (.bool true)) (bc (decide ((4 : Int) < ((l_n : Nat) : Int))) (rt σ R (.bool (decide (((l_n : Nat) : Int) ≤ 8)))) (rt σ R (.bool false))))
def M_law04_Large_an : MAn := (.seq (.txt []) (.seq (.txt [⟨[], false, []⟩, ⟨[], false, []⟩, ⟨[], false, []⟩, ⟨[], false, []⟩, ⟨[], true, []⟩, ⟨[], false, []⟩, ⟨[], false, []⟩, ⟨[], false, []⟩, ⟨[], false, []⟩, ⟨[], false, []⟩, ⟨[], true, []⟩, ⟨[], false, []⟩, ⟨[], false, []⟩, ⟨[], false, []⟩, ⟨[], true, []⟩]) .leaf))
set_option maxRecDepth 100000 in
theorem M_law04_Large_ok (σ : Hp) (g_Wide : Int) (g_High : Int) (g_Cells_A : Option Addr) (g_Cells_n : Nat) (g_Cells_c : Nat) (g_Heights_A : Option Addr) (g_Heights_n : Nat) (g_Heights_c : Nat) (l_A : Option Addr) (l_n : Nat) (l_c : Nat) (R : Value → Hp → Prop) (h : M_law04_Large σ g_Wide g_High g_Cells_A g_Cells_n g_Cells_c g_Heights_A g_Heights_n g_Heights_c l_A l_n l_c R) : FCalls Try.prog 13 #[(.agg #[(.int .i64 g_Wide), (.int .i64 g_High), (.slice g_Cells_A g_Cells_n g_Cells_c), (.slice g_Heights_A g_Heights_n g_Heights_c)]), (.slice l_A l_n l_c)] σ R :=
  fcalls_of_M mixed_M1 M_law04_Large_an Try.func13 rfl (by kernel_rfl) (by kernel_rfl) (M := M_law04_Large σ g_Wide g_High g_Cells_A g_Cells_n g_Cells_c g_Heights_A g_Heights_n g_Heights_c l_A l_n l_c R) (by kernel_rfl) h
theorem M_law04_Large_enter : enterB Try.prog 13 = true := by kernel_rfl

abbrev N_law04_works : FuncId := 14
/-- waltzer/waltzerlaw04.works -/
def M_law04_works (σ : Hp) (R : Value → Hp → Prop) : Prop :=
  cl Try.prog (.func (.func 44) #[] #[]) #[] σ (fun v1 σ2 => ∃ n3 : Int, ∃ n4 : Int, ∃ A5 : Option Addr, ∃ l5 : Nat, ∃ c5 : Nat, ∃ A6 : Option Addr, ∃ l6 : Nat, ∃ c6 : Nat, ∃ A7 : Option Addr, ∃ l7 : Nat, ∃ c7 : Nat, (v1 = (.tuple #[(.agg #[(.int .i64 n3), (.int .i64 n4), (.slice A5 l5 c5), (.slice A6 l6 c6)]), (.slice A7 l7 c7)]) ∧ 
    cl Try.prog (.func (.func 25) #[] #[]) #[(.agg #[(.int .i64 n3), (.int .i64 n4), (.slice A5 l5 c5), (.slice A6 l6 c6)]), (.slice A7 l7 c7)] σ2 (fun v8 σ9 => 
    ∃ A10 : Option Addr, ∃ l10 : Nat, ∃ c10 : Nat, ∃ n11 : Int, (v8 = (.tuple #[(.slice A10 l10 c10), (.int .i64 n11)]) ∧ 
    cl Try.prog (.func (.func 15) #[] #[]) #[(.agg #[(.int .i64 n3), (.int .i64 n4), (.slice A5 l5 c5), (.slice A6 l6 c6)]), (.slice none 0 0), (.slice none 0 0), (.int .i64 0), (.int .i64 11)] σ9 (fun v12 σ13 => 
    ∃ A14 : Option Addr, ∃ l14 : Nat, ∃ c14 : Nat, ∃ n15 : Int, ∃ n16 : Int, (v12 = (.tuple #[(.slice A14 l14 c14), (.int .i64 n15), (.int .i64 n16)]) ∧ 
    bc (decide (n11 = 0)) (bc (decide (n16 = 0)) (bc (decide (n15 = 5)) (exl 3 [.int .i64] ([0, 1, 2, 3, 7, 11] : List Int) σ13 (fun A17 l17 c17 σ18 => 
    cl Try.prog (.func (.func 17) #[] #[]) #[(.slice A14 l14 c14), (.slice A17 l17 c17)] σ18 (fun v19 σ20 => 
    ∃ t21 : Bool, (v19 = (.bool t21) ∧ bc t21 (exl 50 [.int .i64, .bool] ([(1, false), (9, false)] : List (Int × Bool)) σ20 (fun A22 l22 c22 σ23 => 
    cl Try.prog (.func (.func 24) #[] #[]) #[(.slice A10 l10 c10), (.slice A22 l22 c22)] σ23 (fun v24 σ25 => 
    ∃ t26 : Bool, (v24 = (.bool t26) ∧ rt σ25 R (.bool t26))))) (rt σ20 R (.bool false)))))) (bc false (exl 50 [.int .i64, .bool] ([(1, false), (9, false)] : List (Int × Bool)) σ13 (fun A27 l27 c27 σ28 => 
    cl Try.prog (.func (.func 24) #[] #[]) #[(.slice A10 l10 c10), (.slice A27 l27 c27)] σ28 (fun v29 σ30 => 
    ∃ t31 : Bool, (v29 = (.bool t31) ∧ rt σ30 R (.bool t31))))) (rt σ13 R (.bool false)))) (bc false (exl 3 [.int .i64] ([0, 1, 2, 3, 7, 11] : List Int) σ13 (fun A32 l32 c32 σ33 => 
    cl Try.prog (.func (.func 17) #[] #[]) #[(.slice A14 l14 c14), (.slice A32 l32 c32)] σ33 (fun v34 σ35 => 
    ∃ t36 : Bool, (v34 = (.bool t36) ∧ bc t36 (exl 50 [.int .i64, .bool] ([(1, false), (9, false)] : List (Int × Bool)) σ35 (fun A37 l37 c37 σ38 => 
    cl Try.prog (.func (.func 24) #[] #[]) #[(.slice A10 l10 c10), (.slice A37 l37 c37)] σ38 (fun v39 σ40 => 
    ∃ t41 : Bool, (v39 = (.bool t41) ∧ rt σ40 R (.bool t41))))) (rt σ35 R (.bool false)))))) (bc false (exl 50 [.int .i64, .bool] ([(1, false), (9, false)] : List (Int × Bool)) σ13 (fun A42 l42 c42 σ43 => 
    cl Try.prog (.func (.func 24) #[] #[]) #[(.slice A10 l10 c10), (.slice A42 l42 c42)] σ43 (fun v44 σ45 => 
    ∃ t46 : Bool, (v44 = (.bool t46) ∧ rt σ45 R (.bool t46))))) (rt σ13 R (.bool false))))) (bc false (bc (decide (n15 = 5)) (exl 3 [.int .i64] ([0, 1, 2, 3, 7, 11] : List Int) σ13 (fun A47 l47 c47 σ48 => 
    cl Try.prog (.func (.func 17) #[] #[]) #[(.slice A14 l14 c14), (.slice A47 l47 c47)] σ48 (fun v49 σ50 => 
    ∃ t51 : Bool, (v49 = (.bool t51) ∧ bc t51 (exl 50 [.int .i64, .bool] ([(1, false), (9, false)] : List (Int × Bool)) σ50 (fun A52 l52 c52 σ53 => 
    cl Try.prog (.func (.func 24) #[] #[]) #[(.slice A10 l10 c10), (.slice A52 l52 c52)] σ53 (fun v54 σ55 => 
    ∃ t56 : Bool, (v54 = (.bool t56) ∧ rt σ55 R (.bool t56))))) (rt σ50 R (.bool false)))))) (bc false (exl 50 [.int .i64, .bool] ([(1, false), (9, false)] : List (Int × Bool)) σ13 (fun A57 l57 c57 σ58 => 
    cl Try.prog (.func (.func 24) #[] #[]) #[(.slice A10 l10 c10), (.slice A57 l57 c57)] σ58 (fun v59 σ60 => 
    ∃ t61 : Bool, (v59 = (.bool t61) ∧ rt σ60 R (.bool t61))))) (rt σ13 R (.bool false)))) (bc false (exl 3 [.int .i64] ([0, 1, 2, 3, 7, 11] : List Int) σ13 (fun A62 l62 c62 σ63 => 
    cl Try.prog (.func (.func 17) #[] #[]) #[(.slice A14 l14 c14), (.slice A62 l62 c62)] σ63 (fun v64 σ65 => 
    ∃ t66 : Bool, (v64 = (.bool t66) ∧ bc t66 (exl 50 [.int .i64, .bool] ([(1, false), (9, false)] : List (Int × Bool)) σ65 (fun A67 l67 c67 σ68 => 
    cl Try.prog (.func (.func 24) #[] #[]) #[(.slice A10 l10 c10), (.slice A67 l67 c67)] σ68 (fun v69 σ70 => 
    ∃ t71 : Bool, (v69 = (.bool t71) ∧ rt σ70 R (.bool t71))))) (rt σ65 R (.bool false)))))) (bc false (exl 50 [.int .i64, .bool] ([(1, false), (9, false)] : List (Int × Bool)) σ13 (fun A72 l72 c72 σ73 => 
    cl Try.prog (.func (.func 24) #[] #[]) #[(.slice A10 l10 c10), (.slice A72 l72 c72)] σ73 (fun v74 σ75 => 
    ∃ t76 : Bool, (v74 = (.bool t76) ∧ rt σ75 R (.bool t76))))) (rt σ13 R (.bool false)))))))))))
def M_law04_works_an : MAn := (.seq (.txt []) (.seq (.txt []) (.seq (.txt []) (.seq (.txt []) (.seq (.txt [⟨[], false, []⟩, ⟨[], false, []⟩, ⟨[], true, []⟩, ⟨[], false, []⟩, ⟨[], false, []⟩, ⟨[], false, []⟩, ⟨[], true, []⟩, ⟨[], false, []⟩, ⟨[], false, []⟩, ⟨[], false, []⟩, ⟨[], true, []⟩, ⟨[], false, []⟩, ⟨[], false, []⟩, ⟨[], false, []⟩, ⟨[], false, []⟩, ⟨[], true, []⟩]) .leaf)))))
set_option maxRecDepth 100000 in
theorem M_law04_works_ok (σ : Hp) (R : Value → Hp → Prop) (h : M_law04_works σ  R) : FCalls Try.prog 14 #[] σ R :=
  fcalls_of_M mixed_M1 M_law04_works_an Try.func14 rfl (by kernel_rfl) (by kernel_rfl) (M := M_law04_works σ  R) (by kernel_rfl) h
theorem M_law04_works_enter : enterB Try.prog 14 = true := by kernel_rfl

abbrev N_law04_sameInts : FuncId := 17
/-- waltzer/waltzerlaw04.sameInts -/
def M_law04_sameInts (σ : Hp) (a_A : Option Addr) (a_n : Nat) (_ : Nat) (b_A : Option Addr) (b_n : Nat) (_ : Nat) (R : Value → Hp → Prop) : Prop :=
  bc (!decide (((a_n : Nat) : Int) = ((b_n : Nat) : Int))) (rt σ R (.bool false)) (cut (α := Hp → Prop) (fun  σ2 => 
    ∀ _ : Nat → Value, rt σ2 R (.bool true)) (fun J3 => ∃ I6 : Nat → Int → Hp → Prop, (∃ n70, I6 n70 0 σ) ∧ 
    ∀ n7 : Nat, ∀ n8 : Int, ∀ σ5 : Hp, I6 n7 n8 σ5 → ∀ _ : Nat → Value, bc (decide (n8 < ((a_n : Nat) : Int))) (ix a_A a_n n8 1 (fun b9 a10 => 
    ldI σ5 .i64 b9 a10 (fun n11 => ix b_A b_n n8 1 (fun b12 a13 => ldI σ5 .i64 b12 a13 (fun n14 => bc (!decide (n11 = n14)) (rt σ5 R (.bool false)) (wk .i64 (n8 + 1) (fun n15 => 
    bk σ5 n7 (fun m16 σ17 => I6 m16 n15 σ17)))))))) (J3 σ5)))
def M_law04_sameInts_an : MAn := (.seq (.txt []) (.seq (.seq (.txt []) (.cond (.seq (.txt []) .leaf) .leaf)) (.cut ⟨[], 0, [], []⟩ (.seq (.txt []) (.block (.loop ⟨[], 0, [.slot 5 (.sc (.int .i64))], [(0, true), (1, true)]⟩ (.seq (.seq (.txt []) (.cond .leaf .leaf)) (.seq (.block (.seq (.plan [] (.take 0 ⟨[], false, []⟩ (.take 1 ⟨[], false, []⟩ (.take 2 ⟨[], false, []⟩ (.take 3 ⟨[], false, []⟩ (.take 4 ⟨[], false, []⟩ (.take 5 ⟨[], false, []⟩ (.take 6 ⟨[], false, []⟩ (.take 7 ⟨[], false, []⟩ (.take 8 ⟨[], false, []⟩ .done)))))))))) (.cond (.seq (.txt []) .leaf) .leaf))) (.txt [])))))) (.seq (.txt []) .leaf))))
set_option maxRecDepth 100000 in
theorem M_law04_sameInts_ok (σ : Hp) (a_A : Option Addr) (a_n : Nat) (a_c : Nat) (b_A : Option Addr) (b_n : Nat) (b_c : Nat) (R : Value → Hp → Prop) (h : M_law04_sameInts σ a_A a_n a_c b_A b_n b_c R) : FCalls Try.prog 17 #[(.slice a_A a_n a_c), (.slice b_A b_n b_c)] σ R :=
  fcalls_of_M mixed_M1 M_law04_sameInts_an Try.func17 rfl (by kernel_rfl) (by kernel_rfl) (M := M_law04_sameInts σ a_A a_n a_c b_A b_n b_c R) (by kernel_rfl) h
theorem M_law04_sameInts_enter : enterB Try.prog 17 = true := by kernel_rfl

abbrev N_law04_sameSites : FuncId := 24
/-- waltzer/waltzerlaw04.sameSites -/
def M_law04_sameSites (σ : Hp) (a_A : Option Addr) (a_n : Nat) (_ : Nat) (b_A : Option Addr) (b_n : Nat) (_ : Nat) (R : Value → Hp → Prop) : Prop :=
  bc (!decide (((a_n : Nat) : Int) = ((b_n : Nat) : Int))) (rt σ R (.bool false)) (cut (α := Hp → Prop) (fun  σ2 => 
    ∀ _ : Nat → Value, rt σ2 R (.bool true)) (fun J3 => ∃ I6 : Nat → Int → Hp → Prop, (∃ n70, I6 n70 0 σ) ∧ 
    ∀ n7 : Nat, ∀ n8 : Int, ∀ σ5 : Hp, I6 n7 n8 σ5 → ∀ _ : Nat → Value, bc (decide (n8 < ((a_n : Nat) : Int))) (ix a_A a_n n8 2 (fun b9 a10 => 
    ldI σ5 .i64 b9 a10 (fun n11 => ldB σ5 b9 (a10 + 1) (fun t12 => ix b_A b_n n8 2 (fun b13 a14 => ldI σ5 .i64 b13 a14 (fun n15 => 
    ldB σ5 b13 (a14 + 1) (fun t16 => bc (!(decide (n11 = n15) && (t12 == t16))) (rt σ5 R (.bool false)) (wk .i64 (n8 + 1) (fun n17 => 
    bk σ5 n7 (fun m18 σ19 => I6 m18 n17 σ19)))))))))) (J3 σ5)))
def M_law04_sameSites_an : MAn := (.seq (.txt []) (.seq (.seq (.txt []) (.cond (.seq (.txt []) .leaf) .leaf)) (.cut ⟨[], 0, [], []⟩ (.seq (.txt []) (.block (.loop ⟨[], 0, [.slot 5 (.sc (.int .i64))], [(0, true), (1, true)]⟩ (.seq (.seq (.txt []) (.cond .leaf .leaf)) (.seq (.block (.seq (.plan [] (.take 0 ⟨[], false, []⟩ (.take 1 ⟨[], false, []⟩ (.take 2 ⟨[], false, []⟩ (.take 3 ⟨[], false, []⟩ (.take 4 ⟨[], false, []⟩ (.take 5 ⟨[], false, []⟩ (.take 6 ⟨[], false, []⟩ (.take 7 ⟨[], false, []⟩ (.take 8 ⟨[], false, []⟩ .done)))))))))) (.cond (.seq (.txt []) .leaf) .leaf))) (.txt [])))))) (.seq (.txt []) .leaf))))
set_option maxRecDepth 100000 in
theorem M_law04_sameSites_ok (σ : Hp) (a_A : Option Addr) (a_n : Nat) (a_c : Nat) (b_A : Option Addr) (b_n : Nat) (b_c : Nat) (R : Value → Hp → Prop) (h : M_law04_sameSites σ a_A a_n a_c b_A b_n b_c R) : FCalls Try.prog 24 #[(.slice a_A a_n a_c), (.slice b_A b_n b_c)] σ R :=
  fcalls_of_M mixed_M1 M_law04_sameSites_an Try.func24 rfl (by kernel_rfl) (by kernel_rfl) (M := M_law04_sameSites σ a_A a_n a_c b_A b_n b_c R) (by kernel_rfl) h
theorem M_law04_sameSites_enter : enterB Try.prog 24 = true := by kernel_rfl

abbrev N_law04_has : FuncId := 36
/-- waltzer/waltzerlaw04.has -/
def M_law04_has (σ : Hp) (l_A : Option Addr) (l_n : Nat) (_ : Nat) (n : Int) (R : Value → Hp → Prop) : Prop :=
  cut (α := Hp → Prop) (fun  σ2 => ∀ _ : Nat → Value, rt σ2 R (.bool false)) (fun J3 => ∃ I6 : Nat → Int → Hp → Prop, (∃ n70, I6 n70 0 σ) ∧ 
    ∀ n7 : Nat, ∀ n8 : Int, ∀ σ5 : Hp, I6 n7 n8 σ5 → ∀ _ : Nat → Value, bc (decide (n8 < ((l_n : Nat) : Int))) (ix l_A l_n n8 1 (fun b9 a10 => 
    ldI σ5 .i64 b9 a10 (fun n11 => bc (decide (n11 = n)) (rt σ5 R (.bool true)) (wk .i64 (n8 + 1) (fun n12 => 
    bk σ5 n7 (fun m13 σ14 => I6 m13 n12 σ14)))))) (J3 σ5))
def M_law04_has_an : MAn := (.seq (.txt []) (.cut ⟨[], 0, [], []⟩ (.seq (.txt []) (.block (.loop ⟨[], 0, [.slot 5 (.sc (.int .i64))], [(0, true), (1, true)]⟩ (.seq (.seq (.txt []) (.cond .leaf .leaf)) (.seq (.block (.seq (.txt []) (.cond (.seq (.txt []) .leaf) .leaf))) (.txt [])))))) (.seq (.txt []) .leaf)))
set_option maxRecDepth 100000 in
theorem M_law04_has_ok (σ : Hp) (l_A : Option Addr) (l_n : Nat) (l_c : Nat) (n : Int) (R : Value → Hp → Prop) (h : M_law04_has σ l_A l_n l_c n R) : FCalls Try.prog 36 #[(.slice l_A l_n l_c), (.int .i64 n)] σ R :=
  fcalls_of_M mixed_M1 M_law04_has_an Try.func36 rfl (by kernel_rfl) (by kernel_rfl) (M := M_law04_has σ l_A l_n l_c n R) (by kernel_rfl) h
theorem M_law04_has_enter : enterB Try.prog 36 = true := by kernel_rfl

abbrev N_law04_Example : FuncId := 44
/-- waltzer/waltzerlaw04.Example -/
def M_law04_Example (σ : Hp) (R : Value → Hp → Prop) : Prop :=
  (0 ≤ (12 : Int) ∧ (12 : Int) ≤ 12 ∧ (12 : Int) ≤ (1000000000 : Int) ∧ exl 3 [.int .i64] ([3, 0, 0, 0, 0, 1, 2, 0, 0, 0, 0, 3] : List Int) σ (fun A1 l1 c1 σ2 => 
    exl 3 [.int .i64] (List.replicate (12 : Int).toNat 0 : List Int) σ2 (fun A3 l3 c3 σ4 => exl 52 [.int .i64, .int .i64, .int .i64, .int .i64, .int .i64] ([(2, 1, 0, 3, 9), (1, 1, 0, 5, 9)] : List (Int × Int × Int × Int × Int)) σ4 (fun A5 l5 c5 σ6 => 
    rt σ6 R (.tuple #[(.agg #[(.int .i64 4), (.int .i64 3), (.slice A1 l1 c1), (.slice A3 l3 c3)]), (.slice A5 l5 c5)])))))
def M_law04_Example_an : MAn := (.seq (.txt []) (.seq (.txt []) (.seq (.txt []) .leaf)))
set_option maxRecDepth 100000 in
theorem M_law04_Example_ok (σ : Hp) (R : Value → Hp → Prop) (h : M_law04_Example σ  R) : FCalls Try.prog 44 #[] σ R :=
  fcalls_of_M mixed_M1 M_law04_Example_an Try.func44 rfl (by kernel_rfl) (by kernel_rfl) (M := M_law04_Example σ  R) (by kernel_rfl) h
theorem M_law04_Example_enter : enterB Try.prog 44 = true := by kernel_rfl

abbrev N_ref04_Check : FuncId := 18
/-- waltzer/waltzerref04.Check -/
def M_ref04_Check (σ : Hp) (a0_Wide : Int) (a0_High : Int) (a0_Cells_A : Option Addr) (a0_Cells_n : Nat) (a0_Cells_c : Nat) (a0_Heights_A : Option Addr) (a0_Heights_n : Nat) (a0_Heights_c : Nat) (a1_A : Option Addr) (a1_n : Nat) (a1_c : Nat) (a2_A : Option Addr) (a2_n : Nat) (a2_c : Nat) (R : Value → Hp → Prop) : Prop :=
  cl Try.prog (.func (.func 54) #[] #[]) #[(.agg #[(.int .i64 a0_Wide), (.int .i64 a0_High), (.slice a0_Cells_A a0_Cells_n a0_Cells_c), (.slice a0_Heights_A a0_Heights_n a0_Heights_c)]), (.slice a1_A a1_n a1_c)] σ (fun v1 σ2 => 
    ∃ n3 : Int, ∃ n4 : Int, (v1 = (.tuple #[(.int .i64 n3), (.int .i64 n4)]) ∧ bc (!decide (n4 = 0)) (rt σ2 R (.tuple #[(.int .i64 n3), (.int .i64 n4)])) (bc (!decide (((a2_n : Nat) : Int) = ((a1_n : Nat) : Int))) (rt σ2 R (.tuple #[(.int .i64 ((a2_n : Nat) : Int)), (.int .i64 41)])) (cut (α := Hp → Prop) (fun  σ6 => 
    ∀ _ : Nat → Value, rt σ6 R (.tuple #[(.int .i64 0), (.int .i64 0)])) (fun J7 => ∃ I10 : Nat → Int → Hp → Prop, (∃ n110, I10 n110 0 σ2) ∧ 
    ∀ n11 : Nat, ∀ n12 : Int, ∀ σ9 : Hp, I10 n11 n12 σ9 → ∀ _ : Nat → Value, bc (decide (n12 < ((a1_n : Nat) : Int))) (cut (α := Hp → Prop) (fun  σ14 => 
    ∀ _ : Nat → Value, wk .i64 (n12 + 1) (fun n16 => bk σ14 n11 (fun m17 σ18 => I10 m17 n16 σ18))) (fun J15 => 
    ix a2_A a2_n n12 2 (fun b19 a20 => ldI σ9 .i64 b19 a20 (fun n21 => ldB σ9 b19 (a20 + 1) (fun t22 => cut (α := Bool → Hp → Prop) (fun t26 σ24 => 
    ∀ _ : Nat → Value, bc t26 (rt σ24 R (.tuple #[(.int .i64 n12), (.int .i64 41)])) (J15 σ24)) (fun J25 => 
    bc (!(decide (n21 = (-1)) && (t22 == false))) (ix a2_A a2_n n12 2 (fun b27 a28 => ldI σ9 .i64 b27 a28 (fun n29 => 
    bc (decide (n29 < 0)) (J25 true σ9) (ix a1_A a1_n n12 5 (fun b30 a31 => ldI σ9 .i64 b30 a31 (fun n32 => 
    ldI σ9 .i64 b30 (a31 + 1) (fun n33 => ldI σ9 .i64 b30 (a31 + 2) (fun n34 => ldI σ9 .i64 b30 (a31 + 3) (fun n35 => 
    ldI σ9 .i64 b30 (a31 + 4) (fun n36 => ix a2_A a2_n n12 2 (fun b37 a38 => ldI σ9 .i64 b37 a38 (fun n39 => 
    ldB σ9 b37 (a38 + 1) (fun t40 => (0 ≤ n12 ∧ n12 ≤ ((a2_c : Nat) : Int) ∧ cl Try.prog (.func (.func 56) #[] #[]) #[(.agg #[(.int .i64 a0_Wide), (.int .i64 a0_High), (.slice a0_Cells_A a0_Cells_n a0_Cells_c), (.slice a0_Heights_A a0_Heights_n a0_Heights_c)]), (.slice a1_A a1_n a1_c), (.slice a2_A ((n12 : Int).toNat) a2_c), (.int .i64 (-1))] σ9 (fun v41 σ42 => 
    ∃ A43 : Option Addr, ∃ l43 : Nat, ∃ c43 : Nat, (v41 = (.slice A43 l43 c43) ∧ (Hp.Sub σ9 σ42 ∧ adp 4 [.bool] A43 l43 c43 σ42 (fun (xs44 : List Bool) σ45 => 
    exl 4 [.bool] xs44 σ45 (fun A46 l46 c46 σ47 => cl Try.prog (.func (.func 55) #[] #[]) #[(.agg #[(.int .i64 a0_Wide), (.int .i64 a0_High), (.slice a0_Cells_A a0_Cells_n a0_Cells_c), (.slice a0_Heights_A a0_Heights_n a0_Heights_c)]), (.agg #[(.int .i64 n32), (.int .i64 n33), (.int .i64 n34), (.int .i64 n35), (.int .i64 n36)]), (.agg #[(.int .i64 n39), (.bool t40)]), (.slice A46 l46 c46)] σ47 (fun v48 σ49 => 
    ∃ t50 : Bool, (v48 = (.bool t50) ∧ J25 (!t50) σ49))))))))))))))))))))) (J25 false σ9))))))) (J7 σ9))))))
def M_ref04_Check_an : MAn := (.seq (.txt []) (.seq (.seq (.txt []) (.seq (.txt []) (.cond (.seq (.txt []) .leaf) .leaf))) (.seq (.seq (.txt []) (.cond (.seq (.txt []) .leaf) .leaf)) (.cut ⟨[true], 1, [], []⟩ (.seq (.txt []) (.block (.loop ⟨[true], 1, [.slot 3 (.hb 0 0), .slot 10 (.sc (.int .i64))], [(1, true), (2, true)]⟩ (.seq (.seq (.txt []) (.cond .leaf .leaf)) (.cut ⟨[true], 1, [.slot 3 (.hb 0 0)], [(1, true), (2, true), (10, true)]⟩ (.block (.seq (.txt []) (.cut ⟨[true], 1, [.slot 3 (.hb 0 0), .slot 69 (.sc (.bool))], [(1, true), (2, true), (10, true)]⟩ (.plan [25] (.take 0 ⟨[], false, []⟩ (.take 1 ⟨[], false, []⟩ (.take 2 ⟨[], true, []⟩ (.take 3 ⟨[], false, []⟩ (.take 4 ⟨[], false, []⟩ (.take 5 ⟨[], false, []⟩ (.take 6 ⟨[], false, []⟩ (.take 7 ⟨[], false, []⟩ (.take 8 ⟨[], false, []⟩ (.take 9 ⟨[], true, []⟩ (.take 10 ⟨[], false, []⟩ (.take 11 ⟨[], false, []⟩ (.take 12 ⟨[], false, []⟩ (.take 13 ⟨[], false, []⟩ (.take 14 ⟨[], false, []⟩ (.take 15 ⟨[], false, []⟩ (.take 16 ⟨[], false, []⟩ (.take 17 ⟨[], false, []⟩ (.take 18 ⟨[], false, []⟩ (.take 19 ⟨[], false, []⟩ (.take 20 ⟨[], false, []⟩ (.take 21 ⟨[], false, []⟩ (.take 22 ⟨[], false, []⟩ (.take 23 ⟨[], false, []⟩ (.alt 24 true ⟨[], false, [.adl 65 4 [.bool]]⟩ (.alt 25 false ⟨[], false, []⟩ (.take 26 ⟨[], false, []⟩ (.take 27 ⟨[], false, []⟩ (.take 28 ⟨[], false, []⟩ .done))) .done) .done)))))))))))))))))))))))))) (.cond (.seq (.txt []) .leaf) .leaf)))) (.txt [])))))) (.seq (.txt []) .leaf)))))
set_option maxRecDepth 100000 in
theorem M_ref04_Check_ok (σ : Hp) (a0_Wide : Int) (a0_High : Int) (a0_Cells_A : Option Addr) (a0_Cells_n : Nat) (a0_Cells_c : Nat) (a0_Heights_A : Option Addr) (a0_Heights_n : Nat) (a0_Heights_c : Nat) (a1_A : Option Addr) (a1_n : Nat) (a1_c : Nat) (a2_A : Option Addr) (a2_n : Nat) (a2_c : Nat) (R : Value → Hp → Prop) (h : M_ref04_Check σ a0_Wide a0_High a0_Cells_A a0_Cells_n a0_Cells_c a0_Heights_A a0_Heights_n a0_Heights_c a1_A a1_n a1_c a2_A a2_n a2_c R) : FCalls Try.prog 18 #[(.agg #[(.int .i64 a0_Wide), (.int .i64 a0_High), (.slice a0_Cells_A a0_Cells_n a0_Cells_c), (.slice a0_Heights_A a0_Heights_n a0_Heights_c)]), (.slice a1_A a1_n a1_c), (.slice a2_A a2_n a2_c)] σ R :=
  fcalls_of_M mixed_M1 M_ref04_Check_an Try.func18 rfl (by kernel_rfl) (by kernel_rfl) (M := M_ref04_Check σ a0_Wide a0_High a0_Cells_A a0_Cells_n a0_Cells_c a0_Heights_A a0_Heights_n a0_Heights_c a1_A a1_n a1_c a2_A a2_n a2_c R) (by kernel_rfl) h
theorem M_ref04_Check_enter : enterB Try.prog 18 = true := by kernel_rfl

abbrev N_ref04_Open : FuncId := 19
/-- waltzer/waltzerref04.Open -/
def M_ref04_Open (σ : Hp) (g_Wide : Int) (g_High : Int) (g_Cells_A : Option Addr) (g_Cells_n : Nat) (g_Cells_c : Nat) (g_Heights_A : Option Addr) (g_Heights_n : Nat) (g_Heights_c : Nat) (l_A : Option Addr) (l_n : Nat) (l_c : Nat) (sites_A : Option Addr) (sites_n : Nat) (sites_c : Nat) (R : Value → Hp → Prop) : Prop :=
  cl Try.prog (.func (.func 56) #[] #[]) #[(.agg #[(.int .i64 g_Wide), (.int .i64 g_High), (.slice g_Cells_A g_Cells_n g_Cells_c), (.slice g_Heights_A g_Heights_n g_Heights_c)]), (.slice l_A l_n l_c), (.slice sites_A sites_n sites_c), (.int .i64 (-1))] σ (fun v1 σ2 => 
    ∃ A3 : Option Addr, ∃ l3 : Nat, ∃ c3 : Nat, (v1 = (.slice A3 l3 c3) ∧ adp 4 [.bool] A3 l3 c3 σ2 (fun (xs4 : List Bool) σ5 => 
    (0 ≤ ((List.length xs4 : Nat) : Int) ∧ ((List.length xs4 : Nat) : Int) ≤ ((List.length xs4 : Nat) : Int) ∧ 
    ((List.length xs4 : Nat) : Int) ≤ (1000000000 : Int) ∧ cut (α := List Bool → Hp → Prop) (fun xs9 σ7 => 
    ∀ _ : Nat → Value, exl 4 [.bool] xs9 σ7 (fun A10 l10 c10 σ11 => rt σ11 R (.slice A10 l10 c10))) (fun J8 => 
    ∃ I14 : Nat → Int → List Bool → Hp → Prop, (∃ n150, I14 n150 0 (List.replicate (((List.length xs4 : Nat) : Int) : Int).toNat false : List Bool) σ5) ∧ 
    ∀ n15 : Nat, ∀ n16 : Int, ∀ xs17 : List Bool, ∀ σ13 : Hp, I14 n15 n16 xs17 σ13 → ∀ _ : Nat → Value, bc (decide (n16 < ((List.length xs4 : Nat) : Int))) (cut (α := List Bool → Hp → Prop) (fun xs21 σ19 => 
    ∀ _ : Nat → Value, wk .i64 (n16 + 1) (fun n22 => bk σ19 n15 (fun m23 σ24 => I14 m23 n22 xs21 σ24))) (fun J20 => 
    (0 ≤ n16 ∧ n16 < ((List.length xs4 : Nat) : Int) ∧ lat xs4 ((n16 : Int).toNat) (fun r25 => bc (!r25) (ix g_Cells_A g_Cells_n n16 1 (fun b26 a27 => 
    ldI σ13 .i64 b26 a27 (fun n28 => (0 ≤ n16 ∧ n16 < ((List.length xs17 : Nat) : Int) ∧ lat xs17 ((n16 : Int).toNat) (fun _ => 
    J20 (List.set xs17 ((n16 : Int).toNat) (!decide (n28 = 1))) σ13))))) ((0 ≤ n16 ∧ n16 < ((List.length xs17 : Nat) : Int) ∧ 
    lat xs17 ((n16 : Int).toNat) (fun _ => J20 (List.set xs17 ((n16 : Int).toNat) false) σ13))))))) (J8 xs17 σ13))))))
def M_ref04_Open_an : MAn := (.seq (.txt []) (.seq (.txt [⟨[], false, []⟩, ⟨[], false, []⟩, ⟨[], false, []⟩, ⟨[], false, [.adl 13 4 [.bool]]⟩]) (.seq (.txt []) (.cut ⟨[true, true, false], 3, [.slot 8 (.hl 2 0), .modl 2 0 4 [.bool]], []⟩ (.seq (.txt []) (.block (.loop ⟨[true, true, false], 3, [.slot 3 (.hb 0 0), .slot 7 (.hl 1 0), .slot 8 (.hl 2 0), .slot 9 (.sc (.int .i64)), .modl 2 0 4 [.bool]], []⟩ (.seq (.seq (.txt []) (.cond .leaf .leaf)) (.cut ⟨[true, true, false], 3, [.slot 3 (.hb 0 0), .slot 7 (.hl 1 0), .slot 8 (.hl 2 0), .modl 2 0 4 [.bool]], [(9, true)]⟩ (.block (.txt [⟨[], false, []⟩, ⟨[], false, []⟩, ⟨[], false, []⟩, ⟨[], false, []⟩, ⟨[], false, []⟩, ⟨[], false, []⟩, ⟨[], false, []⟩, ⟨[], true, []⟩])) (.txt [])))))) (.seq (.txt []) .leaf)))))
set_option maxRecDepth 100000 in
theorem M_ref04_Open_ok (σ : Hp) (g_Wide : Int) (g_High : Int) (g_Cells_A : Option Addr) (g_Cells_n : Nat) (g_Cells_c : Nat) (g_Heights_A : Option Addr) (g_Heights_n : Nat) (g_Heights_c : Nat) (l_A : Option Addr) (l_n : Nat) (l_c : Nat) (sites_A : Option Addr) (sites_n : Nat) (sites_c : Nat) (R : Value → Hp → Prop) (h : M_ref04_Open σ g_Wide g_High g_Cells_A g_Cells_n g_Cells_c g_Heights_A g_Heights_n g_Heights_c l_A l_n l_c sites_A sites_n sites_c R) : FCalls Try.prog 19 #[(.agg #[(.int .i64 g_Wide), (.int .i64 g_High), (.slice g_Cells_A g_Cells_n g_Cells_c), (.slice g_Heights_A g_Heights_n g_Heights_c)]), (.slice l_A l_n l_c), (.slice sites_A sites_n sites_c)] σ R :=
  fcalls_of_M mixed_M1 M_ref04_Open_an Try.func19 rfl (by kernel_rfl) (by kernel_rfl) (M := M_ref04_Open σ g_Wide g_High g_Cells_A g_Cells_n g_Cells_c g_Heights_A g_Heights_n g_Heights_c l_A l_n l_c sites_A sites_n sites_c R) (by kernel_rfl) h
theorem M_ref04_Open_enter : enterB Try.prog 19 = true := by kernel_rfl

abbrev N_ref04_IsWay : FuncId := 20
/-- waltzer/waltzerref04.IsWay -/
def M_ref04_IsWay (σ : Hp) (a0_Wide : Int) (a0_High : Int) (a0_Cells_A : Option Addr) (a0_Cells_n : Nat) (a0_Cells_c : Nat) (a0_Heights_A : Option Addr) (a0_Heights_n : Nat) (a0_Heights_c : Nat) (a1_A : Option Addr) (a1_n : Nat) (_ : Nat) (a2_A : Option Addr) (a2_n : Nat) (_ : Nat) (R : Value → Hp → Prop) : Prop :=
  cut (α := Hp → Prop) (fun  σ2 => ∀ _ : Nat → Value, rt σ2 R (.bool (decide ((0 : Int) < ((a2_n : Nat) : Int))))) (fun J3 => 
    ∃ I6 : Nat → Int → Hp → Prop, (∃ n70, I6 n70 0 σ) ∧ ∀ n7 : Nat, ∀ n8 : Int, ∀ σ5 : Hp, I6 n7 n8 σ5 → ∀ _ : Nat → Value, bc (decide (n8 < ((a2_n : Nat) : Int))) (cut (α := Hp → Prop) (fun  σ10 => 
    ∀ _ : Nat → Value, wk .i64 (n8 + 1) (fun n12 => bk σ10 n7 (fun m13 σ14 => I6 m13 n12 σ14))) (fun J11 => 
    cut (α := Hp → Prop) (fun  σ16 => ∀ _ : Nat → Value, cut (α := Hp → Prop) (fun  σ19 => ∀ _ : Nat → Value, 
    bc (decide (n8 = 0)) (J11 σ19) (wk .i64 (n8 - 1) (fun n21 => ix a2_A a2_n n21 1 (fun b22 a23 => ldI σ19 .i64 b22 a23 (fun n24 => 
    cl Try.prog (.func (.func 34) #[] #[]) #[(.agg #[(.int .i64 a0_Wide), (.int .i64 a0_High), (.slice a0_Cells_A a0_Cells_n a0_Cells_c), (.slice a0_Heights_A a0_Heights_n a0_Heights_c)]), (.int .i64 n24)] σ19 (fun v25 σ26 => 
    ∃ A27 : Option Addr, ∃ l27 : Nat, ∃ c27 : Nat, (v25 = (.slice A27 l27 c27) ∧ adp 3 [.int .i64] A27 l27 c27 σ26 (fun (xs28 : List Int) σ29 => 
    cut (α := Bool → Hp → Prop) (fun t33 σ31 => ∀ _ : Nat → Value, bc (!t33) (rt σ31 R (.bool false)) (J11 σ31)) (fun J32 => 
    ∃ I36 : Nat → Bool → Int → Hp → Prop, (∃ n370, I36 n370 false 0 σ29) ∧ ∀ n37 : Nat, ∀ t38 : Bool, ∀ n39 : Int, ∀ σ35 : Hp, I36 n37 t38 n39 σ35 → ∀ _ : Nat → Value, bc (decide (n39 < ((List.length xs28 : Nat) : Int))) (cut (α := Bool → Hp → Prop) (fun t43 σ41 => 
    ∀ _ : Nat → Value, wk .i64 (n39 + 1) (fun n44 => bk σ41 n37 (fun m45 σ46 => I36 m45 t43 n44 σ46))) (fun J42 => 
    bc t38 (J42 true σ35) ((0 ≤ n39 ∧ n39 < ((List.length xs28 : Nat) : Int) ∧ lat xs28 ((n39 : Int).toNat) (fun r47 => 
    ix a2_A a2_n n8 1 (fun b48 a49 => ldI σ35 .i64 b48 a49 (fun n50 => J42 (decide (r47 = n50)) σ35))))))) (J32 t38 σ35)))))))))) (fun J20 => 
    ∃ I53 : Nat → Int → Hp → Prop, (∃ n540, I53 n540 0 σ16) ∧ ∀ n54 : Nat, ∀ n55 : Int, ∀ σ52 : Hp, I53 n54 n55 σ52 → ∀ _ : Nat → Value, bc (decide (n55 < n8)) (ix a2_A a2_n n55 1 (fun b56 a57 => 
    ldI σ52 .i64 b56 a57 (fun n58 => ix a2_A a2_n n8 1 (fun b59 a60 => ldI σ52 .i64 b59 a60 (fun n61 => bc (decide (n58 = n61)) (rt σ52 R (.bool false)) (wk .i64 (n55 + 1) (fun n62 => 
    bk σ52 n54 (fun m63 σ64 => I53 m63 n62 σ64)))))))) (J20 σ52))) (fun J17 => cut (α := Bool → Hp → Prop) (fun t68 σ66 => 
    ∀ _ : Nat → Value, bc t68 (rt σ66 R (.bool false)) (J17 σ66)) (fun J67 => ix a2_A a2_n n8 1 (fun b69 a70 => 
    ldI σ5 .i64 b69 a70 (fun n71 => wk .i64 (((a1_n : Nat) : Int) - 1) (fun n72 => cl Try.prog (.func (.func 53) #[] #[]) #[(.int .i64 n71), (.int .i64 0), (.int .i64 n72)] σ5 (fun v73 σ74 => 
    ∃ t75 : Bool, (v73 = (.bool t75) ∧ bc (!t75) (J67 true σ74) (ix a2_A a2_n n8 1 (fun b76 a77 => ldI σ74 .i64 b76 a77 (fun n78 => 
    ix a1_A a1_n n78 1 (fun b79 a80 => ldB σ74 b79 a80 (fun t81 => J67 (!t81) σ74)))))))))))))) (J3 σ5))
def M_ref04_IsWay_an : MAn := (.seq (.txt []) (.cut ⟨[true], 1, [], [(2, true)]⟩ (.seq (.txt []) (.block (.loop ⟨[true], 1, [.slot 3 (.hb 0 0), .slot 7 (.sc (.int .i64))], [(1, true), (2, true)]⟩ (.seq (.seq (.txt []) (.cond .leaf .leaf)) (.cut ⟨[true], 1, [.slot 3 (.hb 0 0)], [(1, true), (2, true), (7, true)]⟩ (.block (.cut ⟨[true], 1, [.slot 3 (.hb 0 0)], [(1, true), (2, true), (7, true)]⟩ (.cut ⟨[true], 1, [.slot 3 (.hb 0 0), .slot 36 (.sc (.bool))], [(1, true), (2, true), (7, true)]⟩ (.txt [⟨[], false, []⟩, ⟨[], false, []⟩, ⟨[], false, []⟩, ⟨[], false, []⟩, ⟨[], false, []⟩, ⟨[], false, []⟩, ⟨[], false, []⟩, ⟨[], false, []⟩, ⟨[], false, []⟩, ⟨[], true, []⟩]) (.cond (.seq (.txt []) .leaf) .leaf)) (.cut ⟨[true], 1, [.slot 3 (.hb 0 0)], [(1, true), (2, true), (7, true)]⟩ (.seq (.txt []) (.block (.loop ⟨[true], 1, [.slot 3 (.hb 0 0), .slot 8 (.sc (.int .i64))], [(1, true), (2, true), (7, true)]⟩ (.seq (.seq (.txt []) (.cond .leaf .leaf)) (.seq (.block (.seq (.plan [] (.take 0 ⟨[], false, []⟩ (.take 1 ⟨[], false, []⟩ (.take 2 ⟨[], false, []⟩ (.take 3 ⟨[], false, []⟩ (.take 4 ⟨[], false, []⟩ (.take 5 ⟨[], false, []⟩ (.take 6 ⟨[], false, []⟩ (.take 7 ⟨[], false, []⟩ (.take 8 ⟨[], false, []⟩ .done)))))))))) (.cond (.seq (.txt []) .leaf) .leaf))) (.txt [])))))) (.seq (.seq (.txt []) (.cond .leaf .leaf)) (.seq (.txt []) (.seq (.plan [6] (.take 0 ⟨[], false, []⟩ (.take 1 ⟨[], false, []⟩ (.take 2 ⟨[], false, []⟩ (.take 3 ⟨[], false, []⟩ (.take 4 ⟨[], false, []⟩ (.take 5 ⟨[], false, []⟩ (.alt 6 false ⟨[], false, [.adl 59 3 [.int .i64]]⟩ (.take 7 ⟨[], false, []⟩ .done) .done)))))))) (.cut ⟨[true, true], 2, [.slot 3 (.hb 0 0), .slot 9 (.sc (.bool))], [(1, true), (2, true), (7, true)]⟩ (.seq (.txt []) (.block (.loop ⟨[true, true], 2, [.slot 3 (.hb 0 0), .slot 9 (.sc (.bool)), .slot 10 (.hl 1 0), .slot 11 (.sc (.int .i64))], [(1, true), (2, true), (7, true)]⟩ (.seq (.seq (.txt []) (.cond .leaf .leaf)) (.cut ⟨[true, true], 2, [.slot 3 (.hb 0 0), .slot 9 (.sc (.bool)), .slot 10 (.hl 1 0)], [(1, true), (2, true), (7, true), (11, true)]⟩ (.block (.plan [] (.take 0 ⟨[], false, []⟩ (.take 1 ⟨[], true, []⟩ (.take 2 ⟨[], false, []⟩ (.take 3 ⟨[], false, []⟩ (.take 4 ⟨[], false, []⟩ (.take 5 ⟨[], false, []⟩ (.take 6 ⟨[], false, []⟩ (.take 7 ⟨[], false, []⟩ (.take 8 ⟨[], false, []⟩ (.take 9 ⟨[], false, []⟩ (.take 10 ⟨[], false, []⟩ (.take 11 ⟨[], false, []⟩ (.take 12 ⟨[], false, []⟩ .done))))))))))))))) (.txt [])))))) (.seq (.txt []) (.cond (.seq (.txt []) .leaf) .leaf))))))))) (.txt [])))))) (.seq (.txt []) .leaf)))
set_option maxRecDepth 100000 in
theorem M_ref04_IsWay_ok (σ : Hp) (a0_Wide : Int) (a0_High : Int) (a0_Cells_A : Option Addr) (a0_Cells_n : Nat) (a0_Cells_c : Nat) (a0_Heights_A : Option Addr) (a0_Heights_n : Nat) (a0_Heights_c : Nat) (a1_A : Option Addr) (a1_n : Nat) (a1_c : Nat) (a2_A : Option Addr) (a2_n : Nat) (a2_c : Nat) (R : Value → Hp → Prop) (h : M_ref04_IsWay σ a0_Wide a0_High a0_Cells_A a0_Cells_n a0_Cells_c a0_Heights_A a0_Heights_n a0_Heights_c a1_A a1_n a1_c a2_A a2_n a2_c R) : FCalls Try.prog 20 #[(.agg #[(.int .i64 a0_Wide), (.int .i64 a0_High), (.slice a0_Cells_A a0_Cells_n a0_Cells_c), (.slice a0_Heights_A a0_Heights_n a0_Heights_c)]), (.slice a1_A a1_n a1_c), (.slice a2_A a2_n a2_c)] σ R :=
  fcalls_of_M mixed_M1 M_ref04_IsWay_an Try.func20 rfl (by kernel_rfl) (by kernel_rfl) (M := M_ref04_IsWay σ a0_Wide a0_High a0_Cells_A a0_Cells_n a0_Cells_c a0_Heights_A a0_Heights_n a0_Heights_c a1_A a1_n a1_c a2_A a2_n a2_c R) (by kernel_rfl) h
theorem M_ref04_IsWay_enter : enterB Try.prog 20 = true := by kernel_rfl

abbrev N_ref04_Cost : FuncId := 21
/-- waltzer/waltzerref04.Cost -/
def M_ref04_Cost (σ : Hp) (_ : Int) (_ : Int) (g_Cells_A : Option Addr) (g_Cells_n : Nat) (_ : Nat) (g_Heights_A : Option Addr) (g_Heights_n : Nat) (_ : Nat) (way_A : Option Addr) (way_n : Nat) (_ : Nat) (R : Value → Hp → Prop) : Prop :=
  cut (α := Int → Hp → Prop) (fun n4 σ2 => ∀ _ : Nat → Value, rt σ2 R (.int .i64 n4)) (fun J3 => ∃ I7 : Nat → Int → Int → Hp → Prop, (∃ n80, I7 n80 0 0 σ) ∧ 
    ∀ n8 : Nat, ∀ n9 : Int, ∀ n10 : Int, ∀ σ6 : Hp, I7 n8 n9 n10 σ6 → ∀ _ : Nat → Value, bc (decide (n10 < ((way_n : Nat) : Int))) (cut (α := Int → Hp → Prop) (fun n14 σ12 => 
    ∀ _ : Nat → Value, wk .i64 (n10 + 1) (fun n15 => bk σ12 n8 (fun m16 σ17 => I7 m16 n14 n15 σ17))) (fun J13 => 
    cut (α := Int → Hp → Prop) (fun n21 σ19 => ∀ _ : Nat → Value, bc (decide ((0 : Int) < n10)) (ix way_A way_n n10 1 (fun b22 a23 => 
    ldI σ19 .i64 b22 a23 (fun n24 => ix g_Heights_A g_Heights_n n24 1 (fun b25 a26 => ldI σ19 .i64 b25 a26 (fun n27 => 
    wk .i64 (n10 - 1) (fun n28 => ix way_A way_n n28 1 (fun b29 a30 => ldI σ19 .i64 b29 a30 (fun n31 => ix g_Heights_A g_Heights_n n31 1 (fun b32 a33 => 
    ldI σ19 .i64 b32 a33 (fun n34 => wk .i64 (n27 - n34) (fun n35 => wk .i64 (0 - n35) (fun n36 => wk .i64 (1 + (if n36 > n35 then n36 else n35)) (fun n37 => 
    wk .i64 (n21 + n37) (fun n38 => J13 n38 σ19)))))))))))))) (J13 n21 σ19)) (fun J20 => ix way_A way_n n10 1 (fun b39 a40 => 
    ldI σ6 .i64 b39 a40 (fun n41 => ix g_Cells_A g_Cells_n n41 1 (fun b42 a43 => ldI σ6 .i64 b42 a43 (fun n44 => 
    bc (decide (n44 = 2)) (wk .i64 (n9 + 3) (fun n45 => J20 n45 σ6)) (J20 n9 σ6)))))))) (J3 n9 σ6))
def M_ref04_Cost_an : MAn := (.seq (.txt []) (.seq (.txt []) (.cut ⟨[true], 1, [.slot 5 (.sc (.int .i64))], []⟩ (.seq (.txt []) (.block (.loop ⟨[true], 1, [.slot 2 (.hb 0 0), .slot 5 (.sc (.int .i64)), .slot 6 (.sc (.int .i64))], [(1, true)]⟩ (.seq (.seq (.txt []) (.cond .leaf .leaf)) (.cut ⟨[true], 1, [.slot 2 (.hb 0 0), .slot 5 (.sc (.int .i64))], [(1, true), (6, true)]⟩ (.block (.cut ⟨[true], 1, [.slot 2 (.hb 0 0), .slot 5 (.sc (.int .i64))], [(1, true), (6, true)]⟩ (.seq (.plan [] (.take 0 ⟨[], false, []⟩ (.take 1 ⟨[], false, []⟩ (.take 2 ⟨[], false, []⟩ (.take 3 ⟨[], false, []⟩ (.take 4 ⟨[], false, []⟩ (.take 5 ⟨[], false, []⟩ (.take 6 ⟨[], false, []⟩ (.take 7 ⟨[], false, []⟩ (.take 8 ⟨[], false, []⟩ .done)))))))))) (.cond (.txt []) .leaf)) (.seq (.txt []) (.cond (.seq (.plan [] (.take 0 ⟨[], false, []⟩ (.take 1 ⟨[], false, []⟩ (.take 2 ⟨[], false, []⟩ (.take 3 ⟨[], false, []⟩ (.take 4 ⟨[], false, []⟩ (.take 5 ⟨[], false, []⟩ (.take 6 ⟨[], false, []⟩ (.take 7 ⟨[], false, []⟩ (.take 8 ⟨[], false, []⟩ (.take 9 ⟨[], false, []⟩ (.take 10 ⟨[], false, []⟩ (.take 11 ⟨[], false, []⟩ (.take 12 ⟨[], false, []⟩ (.take 13 ⟨[], false, []⟩ (.take 14 ⟨[], false, []⟩ (.take 15 ⟨[], false, []⟩ (.take 16 ⟨[], false, []⟩ (.take 17 ⟨[], false, []⟩ (.take 18 ⟨[], false, []⟩ .done)))))))))))))))))))) (.txt [])) .leaf)))) (.txt [])))))) (.seq (.txt []) .leaf))))
set_option maxRecDepth 100000 in
theorem M_ref04_Cost_ok (σ : Hp) (g_Wide : Int) (g_High : Int) (g_Cells_A : Option Addr) (g_Cells_n : Nat) (g_Cells_c : Nat) (g_Heights_A : Option Addr) (g_Heights_n : Nat) (g_Heights_c : Nat) (way_A : Option Addr) (way_n : Nat) (way_c : Nat) (R : Value → Hp → Prop) (h : M_ref04_Cost σ g_Wide g_High g_Cells_A g_Cells_n g_Cells_c g_Heights_A g_Heights_n g_Heights_c way_A way_n way_c R) : FCalls Try.prog 21 #[(.agg #[(.int .i64 g_Wide), (.int .i64 g_High), (.slice g_Cells_A g_Cells_n g_Cells_c), (.slice g_Heights_A g_Heights_n g_Heights_c)]), (.slice way_A way_n way_c)] σ R :=
  fcalls_of_M mixed_M1 M_ref04_Cost_an Try.func21 rfl (by kernel_rfl) (by kernel_rfl) (M := M_ref04_Cost σ g_Wide g_High g_Cells_A g_Cells_n g_Cells_c g_Heights_A g_Heights_n g_Heights_c way_A way_n way_c R) (by kernel_rfl) h
theorem M_ref04_Cost_enter : enterB Try.prog 21 = true := by kernel_rfl

abbrev N_ref04_Sites : FuncId := 23
/-- waltzer/waltzerref04.Sites -/
def M_ref04_Sites (σ : Hp) (g_Wide : Int) (g_High : Int) (g_Cells_A : Option Addr) (g_Cells_n : Nat) (g_Cells_c : Nat) (g_Heights_A : Option Addr) (g_Heights_n : Nat) (g_Heights_c : Nat) (l_A : Option Addr) (l_n : Nat) (l_c : Nat) (sites_A : Option Addr) (sites_n : Nat) (sites_c : Nat) (pitch : Int) (R : Value → Hp → Prop) : Prop :=
  cl Try.prog (.func (.func 18) #[] #[]) #[(.agg #[(.int .i64 g_Wide), (.int .i64 g_High), (.slice g_Cells_A g_Cells_n g_Cells_c), (.slice g_Heights_A g_Heights_n g_Heights_c)]), (.slice l_A l_n l_c), (.slice sites_A sites_n sites_c)] σ (fun v1 σ2 => 
    ∃ n3 : Int, ∃ n4 : Int, (v1 = (.tuple #[(.int .i64 n3), (.int .i64 n4)]) ∧ bc (!decide (n4 = 0)) (rt σ2 R (.tuple #[(.slice none 0 0), (.int .i64 n4)])) (wk .i64 (((l_n : Nat) : Int) - 1) (fun n5 => 
    cl Try.prog (.func (.func 53) #[] #[]) #[(.int .i64 pitch), (.int .i64 0), (.int .i64 n5)] σ2 (fun v6 σ7 => 
    ∃ t8 : Bool, (v6 = (.bool t8) ∧ bc (!t8) (rt σ7 R (.tuple #[(.slice none 0 0), (.int .i64 1)])) (ix l_A l_n pitch 5 (fun b9 a10 => 
    ldI σ7 .i64 b9 a10 (fun n11 => ldI σ7 .i64 b9 (a10 + 1) (fun n12 => ldI σ7 .i64 b9 (a10 + 2) (fun n13 => 
    ldI σ7 .i64 b9 (a10 + 3) (fun n14 => ldI σ7 .i64 b9 (a10 + 4) (fun n15 => cl Try.prog (.func (.func 56) #[] #[]) #[(.agg #[(.int .i64 g_Wide), (.int .i64 g_High), (.slice g_Cells_A g_Cells_n g_Cells_c), (.slice g_Heights_A g_Heights_n g_Heights_c)]), (.slice l_A l_n l_c), (.slice sites_A sites_n sites_c), (.int .i64 pitch)] σ7 (fun v16 σ17 => 
    ∃ A18 : Option Addr, ∃ l18 : Nat, ∃ c18 : Nat, (v16 = (.slice A18 l18 c18) ∧ (Hp.Sub σ7 σ17 ∧ adp 4 [.bool] A18 l18 c18 σ17 (fun (xs19 : List Bool) σ20 => 
    exl 4 [.bool] xs19 σ20 (fun A21 l21 c21 σ22 => cl Try.prog (.func (.func 61) #[] #[]) #[(.agg #[(.int .i64 g_Wide), (.int .i64 g_High), (.slice g_Cells_A g_Cells_n g_Cells_c), (.slice g_Heights_A g_Heights_n g_Heights_c)]), (.agg #[(.int .i64 n11), (.int .i64 n12), (.int .i64 n13), (.int .i64 n14), (.int .i64 n15)]), (.slice A21 l21 c21)] σ22 (fun v23 σ24 => 
    ∃ A25 : Option Addr, ∃ l25 : Nat, ∃ c25 : Nat, (v23 = (.slice A25 l25 c25) ∧ rt σ24 R (.tuple #[(.slice A25 l25 c25), (.int .i64 0)])))))))))))))))))))))
def M_ref04_Sites_an : MAn := (.seq (.txt []) (.seq (.seq (.txt []) (.seq (.txt []) (.cond (.seq (.txt []) .leaf) .leaf))) (.seq (.seq (.txt []) (.cond (.seq (.txt []) .leaf) .leaf)) (.seq (.plan [10] (.take 0 ⟨[], false, []⟩ (.take 1 ⟨[], false, []⟩ (.take 2 ⟨[], false, []⟩ (.take 3 ⟨[], false, []⟩ (.take 4 ⟨[], false, []⟩ (.take 5 ⟨[], false, []⟩ (.take 6 ⟨[], false, []⟩ (.take 7 ⟨[], false, []⟩ (.take 8 ⟨[], false, []⟩ (.alt 9 true ⟨[], false, [.adl 37 4 [.bool]]⟩ (.alt 10 false ⟨[], false, []⟩ (.take 11 ⟨[], false, []⟩ (.take 12 ⟨[], false, []⟩ .done)) .done) .done))))))))))) .leaf))))
set_option maxRecDepth 100000 in
theorem M_ref04_Sites_ok (σ : Hp) (g_Wide : Int) (g_High : Int) (g_Cells_A : Option Addr) (g_Cells_n : Nat) (g_Cells_c : Nat) (g_Heights_A : Option Addr) (g_Heights_n : Nat) (g_Heights_c : Nat) (l_A : Option Addr) (l_n : Nat) (l_c : Nat) (sites_A : Option Addr) (sites_n : Nat) (sites_c : Nat) (pitch : Int) (R : Value → Hp → Prop) (h : M_ref04_Sites σ g_Wide g_High g_Cells_A g_Cells_n g_Cells_c g_Heights_A g_Heights_n g_Heights_c l_A l_n l_c sites_A sites_n sites_c pitch R) : FCalls Try.prog 23 #[(.agg #[(.int .i64 g_Wide), (.int .i64 g_High), (.slice g_Cells_A g_Cells_n g_Cells_c), (.slice g_Heights_A g_Heights_n g_Heights_c)]), (.slice l_A l_n l_c), (.slice sites_A sites_n sites_c), (.int .i64 pitch)] σ R :=
  fcalls_of_M mixed_M1 M_ref04_Sites_an Try.func23 rfl (by kernel_rfl) (by kernel_rfl) (M := M_ref04_Sites σ g_Wide g_High g_Cells_A g_Cells_n g_Cells_c g_Heights_A g_Heights_n g_Heights_c l_A l_n l_c sites_A sites_n sites_c pitch R) (by kernel_rfl) h
theorem M_ref04_Sites_enter : enterB Try.prog 23 = true := by kernel_rfl

abbrev N_ref04_Lay : FuncId := 27
/-- waltzer/waltzerref04.Lay -/
def M_ref04_Lay (σ : Hp) (g_Wide : Int) (g_High : Int) (g_Cells_A : Option Addr) (g_Cells_n : Nat) (g_Cells_c : Nat) (g_Heights_A : Option Addr) (g_Heights_n : Nat) (g_Heights_c : Nat) (l_A : Option Addr) (l_n : Nat) (l_c : Nat) (R : Value → Hp → Prop) : Prop :=
  cl Try.prog (.func (.func 54) #[] #[]) #[(.agg #[(.int .i64 g_Wide), (.int .i64 g_High), (.slice g_Cells_A g_Cells_n g_Cells_c), (.slice g_Heights_A g_Heights_n g_Heights_c)]), (.slice l_A l_n l_c)] σ (fun v1 σ2 => 
    ∃ n3 : Int, ∃ n4 : Int, (v1 = (.tuple #[(.int .i64 n3), (.int .i64 n4)]) ∧ bc (!decide (n4 = 0)) (rt σ2 R (.tuple #[(.slice none 0 0), (.int .i64 n4)])) (cl Try.prog (.func (.func 67) #[] #[]) #[(.agg #[(.int .i64 g_Wide), (.int .i64 g_High), (.slice g_Cells_A g_Cells_n g_Cells_c), (.slice g_Heights_A g_Heights_n g_Heights_c)]), (.slice l_A l_n l_c), (.slice none 0 0)] σ2 (fun v5 σ6 => 
    ∃ A7 : Option Addr, ∃ l7 : Nat, ∃ c7 : Nat, ∃ t8 : Bool, (v5 = (.tuple #[(.slice A7 l7 c7), (.bool t8)]) ∧ 
    bc (!t8) (rt σ6 R (.tuple #[(.slice none 0 0), (.int .i64 3)])) (rt σ6 R (.tuple #[(.slice A7 l7 c7), (.int .i64 0)])))))))
def M_ref04_Lay_an : MAn := (.seq (.txt []) (.seq (.seq (.txt []) (.seq (.txt []) (.cond (.seq (.txt []) .leaf) .leaf))) (.seq (.txt []) (.seq (.seq (.txt []) (.cond (.seq (.txt []) .leaf) .leaf)) (.seq (.txt []) .leaf)))))
set_option maxRecDepth 100000 in
theorem M_ref04_Lay_ok (σ : Hp) (g_Wide : Int) (g_High : Int) (g_Cells_A : Option Addr) (g_Cells_n : Nat) (g_Cells_c : Nat) (g_Heights_A : Option Addr) (g_Heights_n : Nat) (g_Heights_c : Nat) (l_A : Option Addr) (l_n : Nat) (l_c : Nat) (R : Value → Hp → Prop) (h : M_ref04_Lay σ g_Wide g_High g_Cells_A g_Cells_n g_Cells_c g_Heights_A g_Heights_n g_Heights_c l_A l_n l_c R) : FCalls Try.prog 27 #[(.agg #[(.int .i64 g_Wide), (.int .i64 g_High), (.slice g_Cells_A g_Cells_n g_Cells_c), (.slice g_Heights_A g_Heights_n g_Heights_c)]), (.slice l_A l_n l_c)] σ R :=
  fcalls_of_M mixed_M1 M_ref04_Lay_an Try.func27 rfl (by kernel_rfl) (by kernel_rfl) (M := M_ref04_Lay σ g_Wide g_High g_Cells_A g_Cells_n g_Cells_c g_Heights_A g_Heights_n g_Heights_c l_A l_n l_c R) (by kernel_rfl) h
theorem M_ref04_Lay_enter : enterB Try.prog 27 = true := by kernel_rfl

abbrev N_ref04_Award : FuncId := 28
/-- waltzer/waltzerref04.Award -/
def M_ref04_Award (σ : Hp) (a0_Wide : Int) (a0_High : Int) (a0_Cells_A : Option Addr) (a0_Cells_n : Nat) (a0_Cells_c : Nat) (a0_Heights_A : Option Addr) (a0_Heights_n : Nat) (a0_Heights_c : Nat) (a1_A : Option Addr) (a1_n : Nat) (a1_c : Nat) (R : Value → Hp → Prop) : Prop :=
  cl Try.prog (.func (.func 54) #[] #[]) #[(.agg #[(.int .i64 a0_Wide), (.int .i64 a0_High), (.slice a0_Cells_A a0_Cells_n a0_Cells_c), (.slice a0_Heights_A a0_Heights_n a0_Heights_c)]), (.slice a1_A a1_n a1_c)] σ (fun v1 σ2 => 
    ∃ n3 : Int, ∃ n4 : Int, (v1 = (.tuple #[(.int .i64 n3), (.int .i64 n4)]) ∧ bc (!decide (n4 = 0)) (rt σ2 R (.tuple #[(.slice none 0 0), (.int .i64 n4)])) ((0 ≤ ((a1_n : Nat) : Int) ∧ 
    ((a1_n : Nat) : Int) ≤ ((a1_n : Nat) : Int) ∧ ((a1_n : Nat) : Int) ≤ (1000000000 : Int) ∧ (0 ≤ ((a1_n : Nat) : Int) ∧ 
    ((a1_n : Nat) : Int) ≤ ((a1_n : Nat) : Int) ∧ ((a1_n : Nat) : Int) ≤ (1000000000 : Int) ∧ cut (α := List (Int × Bool) → Hp → Prop) (fun xs8 σ6 => 
    ∀ _ : Nat → Value, cut (α := List (Int × Bool) → Hp → Prop) (fun xs12 σ10 => ∀ _ : Nat → Value, exl 50 [.int .i64, .bool] xs12 σ10 (fun A13 l13 c13 σ14 => 
    rt σ14 R (.tuple #[(.slice A13 l13 c13), (.int .i64 0)]))) (fun J11 => ∃ I17 : Nat → List (Int × Bool) → Int → List Bool → Hp → Prop, (∃ n180, I17 n180 xs8 0 (List.replicate (((a1_n : Nat) : Int) : Int).toNat false : List Bool) σ6) ∧ 
    ∀ n18 : Nat, ∀ xs19 : List (Int × Bool), ∀ n20 : Int, ∀ xs21 : List Bool, ∀ σ16 : Hp, I17 n18 xs19 n20 xs21 σ16 → ∀ _ : Nat → Value, bc (decide (n20 < ((a1_n : Nat) : Int))) (cut (α := List (Int × Bool) → List Bool → Hp → Prop) (fun xs25 xs26 σ23 => 
    ∀ _ : Nat → Value, wk .i64 (n20 + 1) (fun n27 => bk σ23 n18 (fun m28 σ29 => I17 m28 xs25 n27 xs26 σ29))) (fun J24 => 
    cut (α := Int → Hp → Prop) (fun n33 σ31 => ∀ _ : Nat → Value, (0 ≤ n33 ∧ n33 < ((List.length xs21 : Nat) : Int) ∧ 
    lat xs21 ((n33 : Int).toNat) (fun _ => ix a1_A a1_n n33 5 (fun b35 a36 => ldI σ31 .i64 b35 a36 (fun n37 => 
    ldI σ31 .i64 b35 (a36 + 1) (fun n38 => ldI σ31 .i64 b35 (a36 + 2) (fun n39 => ldI σ31 .i64 b35 (a36 + 3) (fun n40 => 
    ldI σ31 .i64 b35 (a36 + 4) (fun n41 => exl 50 [.int .i64, .bool] xs19 σ31 (fun A42 l42 c42 σ43 => cl Try.prog (.func (.func 56) #[] #[]) #[(.agg #[(.int .i64 a0_Wide), (.int .i64 a0_High), (.slice a0_Cells_A a0_Cells_n a0_Cells_c), (.slice a0_Heights_A a0_Heights_n a0_Heights_c)]), (.slice a1_A a1_n a1_c), (.slice A42 l42 c42), (.int .i64 (-1))] σ43 (fun v44 σ45 => 
    ∃ A46 : Option Addr, ∃ l46 : Nat, ∃ c46 : Nat, (v44 = (.slice A46 l46 c46) ∧ (Hp.Sub σ43 σ45 ∧ adp 4 [.bool] A46 l46 c46 σ45 (fun (xs47 : List Bool) σ48 => 
    adp 50 [.int .i64, .bool] A42 l42 c42 σ48 (fun (xs49 : List (Int × Bool)) σ50 => exl 4 [.bool] xs47 σ50 (fun A51 l51 c51 σ52 => 
    cl Try.prog (.func (.func 61) #[] #[]) #[(.agg #[(.int .i64 a0_Wide), (.int .i64 a0_High), (.slice a0_Cells_A a0_Cells_n a0_Cells_c), (.slice a0_Heights_A a0_Heights_n a0_Heights_c)]), (.agg #[(.int .i64 n37), (.int .i64 n38), (.int .i64 n39), (.int .i64 n40), (.int .i64 n41)]), (.slice A51 l51 c51)] σ52 (fun v53 σ54 => 
    ∃ A55 : Option Addr, ∃ l55 : Nat, ∃ c55 : Nat, (v53 = (.slice A55 l55 c55) ∧ cut (α := List (Int × Bool) → Hp → Prop) (fun xs59 σ57 => 
    ∀ _ : Nat → Value, wk .i64 (((l55 : Nat) : Int) - 1) (fun n60 => ∃ I63 : Nat → Int → List (Int × Bool) → Hp → Prop, (∃ n640, I63 n640 n60 xs59 σ57) ∧ 
    ∀ n64 : Nat, ∀ n65 : Int, ∀ xs66 : List (Int × Bool), ∀ σ62 : Hp, I63 n64 n65 xs66 σ62 → ∀ _ : Nat → Value, bc (decide ((0 : Int) ≤ n65)) (cut (α := List (Int × Bool) → Hp → Prop) (fun xs70 σ68 => 
    ∀ _ : Nat → Value, wk .i64 (n65 - 1) (fun n71 => bk σ68 n64 (fun m72 σ73 => I63 m72 n71 xs70 σ73))) (fun J69 => 
    ix A55 l55 n65 2 (fun b74 a75 => ldI σ62 .i64 b74 a75 (fun n76 => ix a1_A a1_n n33 5 (fun b77 a78 => 
    ldI σ62 .i64 b77 (a78 + 4) (fun n79 => bc (decide (n76 = n79)) (ix A55 l55 n65 2 (fun b80 a81 => ldI σ62 .i64 b80 a81 (fun n82 => 
    ldB σ62 b80 (a81 + 1) (fun t83 => (0 ≤ n33 ∧ n33 < ((List.length xs66 : Nat) : Int) ∧ lat xs66 ((n33 : Int).toNat) (fun _ => 
    J69 (List.set xs66 ((n33 : Int).toNat) (n82, t83)) σ62)))))) (J69 xs66 σ62))))))) (J24 xs66 (List.set xs21 ((n33 : Int).toNat) true) σ62))) (fun J58 => 
    wk .i64 (((l55 : Nat) : Int) - 1) (fun n85 => ∃ I88 : Nat → Int → List (Int × Bool) → Hp → Prop, (∃ n890, I88 n890 n85 xs49 σ54) ∧ 
    ∀ n89 : Nat, ∀ n90 : Int, ∀ xs91 : List (Int × Bool), ∀ σ87 : Hp, I88 n89 n90 xs91 σ87 → ∀ _ : Nat → Value, bc (decide ((0 : Int) ≤ n90)) (ix A55 l55 n90 2 (fun b92 a93 => 
    ldI σ87 .i64 b92 a93 (fun n94 => ldB σ87 b92 (a93 + 1) (fun t95 => (0 ≤ n33 ∧ n33 < ((List.length xs91 : Nat) : Int) ∧ 
    lat xs91 ((n33 : Int).toNat) (fun _ => wk .i64 (n90 - 1) (fun n97 => bk σ87 n89 (fun m98 σ99 => I88 m98 n97 (List.set xs91 ((n33 : Int).toNat) (n94, t95)) σ99)))))))) (J58 xs91 σ87))))))))))))))))))))) (fun J32 => 
    ∃ I102 : Nat → Int → Int → Hp → Prop, (∃ n1030, I102 n1030 (-1) 0 σ16) ∧ ∀ n103 : Nat, ∀ n104 : Int, ∀ n105 : Int, ∀ σ101 : Hp, I102 n103 n104 n105 σ101 → ∀ _ : Nat → Value, bc (decide (n105 < ((a1_n : Nat) : Int))) (cut (α := Int → Hp → Prop) (fun n109 σ107 => 
    ∀ _ : Nat → Value, wk .i64 (n105 + 1) (fun n110 => bk σ107 n103 (fun m111 σ112 => I102 m111 n109 n110 σ112))) (fun J108 => 
    cut (α := Bool → Hp → Prop) (fun t116 σ114 => ∀ _ : Nat → Value, bc t116 (J108 n105 σ114) (J108 n104 σ114)) (fun J115 => 
    (0 ≤ n105 ∧ n105 < ((List.length xs21 : Nat) : Int) ∧ lat xs21 ((n105 : Int).toNat) (fun r117 => bc (!r117) (bc (decide (n104 < 0)) (J115 true σ101) (ix a1_A a1_n n105 5 (fun b118 a119 => 
    ldI σ101 .i64 b118 (a119 + 3) (fun n120 => ix a1_A a1_n n104 5 (fun b121 a122 => ldI σ101 .i64 b121 (a122 + 3) (fun n123 => 
    J115 (decide (n123 < n120)) σ101)))))) (J115 false σ101)))))) (J32 n104 σ101)))) (J11 xs19 σ16))) (fun J7 => 
    ∃ I126 : Nat → Int → List (Int × Bool) → Hp → Prop, (∃ n1270, I126 n1270 0 (List.replicate (((a1_n : Nat) : Int) : Int).toNat (0, false) : List (Int × Bool)) σ2) ∧ 
    ∀ n127 : Nat, ∀ n128 : Int, ∀ xs129 : List (Int × Bool), ∀ σ125 : Hp, I126 n127 n128 xs129 σ125 → ∀ _ : Nat → Value, bc (decide (n128 < ((a1_n : Nat) : Int))) ((0 ≤ n128 ∧ 
    n128 < ((List.length xs129 : Nat) : Int) ∧ lat xs129 ((n128 : Int).toNat) (fun r130 => wk .i64 (n128 + 1) (fun n131 => 
    bk σ125 n127 (fun m132 σ133 => I126 m132 n131 (List.set xs129 ((n128 : Int).toNat) ((-1), r130.2)) σ133))))) (J7 xs129 σ125)))))))
def M_ref04_Award_an : MAn := (.seq (.txt []) (.seq (.seq (.txt []) (.seq (.txt []) (.cond (.seq (.txt []) .leaf) .leaf))) (.seq (.txt []) (.seq (.txt []) (.cut ⟨[true, false, true], 3, [.slot 2 (.hb 0 0), .slot 8 (.hl 1 0), .slot 9 (.hl 2 0), .modl 1 0 50 [.int .i64, .bool]], [(1, true)]⟩ (.seq (.txt []) (.block (.loop ⟨[true, false, true], 3, [.slot 2 (.hb 0 0), .slot 8 (.hl 1 0), .slot 9 (.hl 2 0), .slot 10 (.sc (.int .i64)), .modl 1 0 50 [.int .i64, .bool]], [(1, true)]⟩ (.seq (.seq (.txt []) (.cond .leaf .leaf)) (.seq (.block (.txt [])) (.txt [])))))) (.cut ⟨[true, false, false], 3, [.slot 8 (.hl 1 0), .modl 1 0 50 [.int .i64, .bool]], []⟩ (.seq (.txt []) (.block (.loop ⟨[true, false, false], 3, [.slot 2 (.hb 0 0), .slot 8 (.lst 1 50 [.int .i64, .bool]), .slot 9 (.hl 2 0), .slot 43 (.sc (.int .i64)), .modl 2 0 4 [.bool]], [(1, true), (42, true)]⟩ (.seq (.txt []) (.seq (.cond .leaf .leaf) (.cut ⟨[true, false, false], 4, [.slot 2 (.hb 0 0), .slot 8 (.lst 3 50 [.int .i64, .bool]), .slot 9 (.hl 2 0), .modl 2 0 4 [.bool]], [(1, true), (42, true), (43, true)]⟩ (.block (.seq (.txt []) (.cut ⟨[true, true, true], 3, [.slot 2 (.hb 0 0), .slot 8 (.hl 1 0), .slot 9 (.hl 2 0), .slot 11 (.sc (.int .i64))], [(1, true), (42, true), (43, true)]⟩ (.seq (.txt []) (.block (.loop ⟨[true, true, true], 3, [.slot 2 (.hb 0 0), .slot 8 (.hl 1 0), .slot 9 (.hl 2 0), .slot 11 (.sc (.int .i64)), .slot 12 (.sc (.int .i64))], [(1, true), (42, true), (43, true)]⟩ (.seq (.seq (.txt []) (.cond .leaf .leaf)) (.cut ⟨[true, true, true], 3, [.slot 2 (.hb 0 0), .slot 8 (.hl 1 0), .slot 9 (.hl 2 0), .slot 11 (.sc (.int .i64))], [(1, true), (12, true), (42, true), (43, true)]⟩ (.block (.cut ⟨[true, true, true], 3, [.slot 2 (.hb 0 0), .slot 8 (.hl 1 0), .slot 9 (.hl 2 0), .slot 72 (.sc (.bool))], [(1, true), (11, true), (12, true), (42, true), (43, true)]⟩ (.plan [] (.take 0 ⟨[], false, []⟩ (.take 1 ⟨[], false, []⟩ (.take 2 ⟨[], false, []⟩ (.take 3 ⟨[], false, []⟩ (.take 4 ⟨[], false, []⟩ (.take 5 ⟨[], true, []⟩ (.take 6 ⟨[], false, []⟩ (.take 7 ⟨[], false, []⟩ (.take 8 ⟨[], true, []⟩ (.take 9 ⟨[], false, []⟩ (.take 10 ⟨[], false, []⟩ (.take 11 ⟨[], false, []⟩ (.take 12 ⟨[], false, []⟩ (.take 13 ⟨[], false, []⟩ (.take 14 ⟨[], false, []⟩ (.take 15 ⟨[], false, []⟩ (.take 16 ⟨[], false, []⟩ (.take 17 ⟨[], false, []⟩ (.take 18 ⟨[], false, []⟩ (.take 19 ⟨[], false, []⟩ (.take 20 ⟨[], false, []⟩ (.take 21 ⟨[], false, []⟩ .done))))))))))))))))))))))) (.cond (.txt []) .leaf))) (.txt [])))))) (.seq (.txt []) (.seq (.plan [9] (.take 0 ⟨[], false, []⟩ (.take 1 ⟨[], false, []⟩ (.take 2 ⟨[], false, []⟩ (.take 3 ⟨[], false, []⟩ (.take 4 ⟨[], false, []⟩ (.take 5 ⟨[], false, []⟩ (.take 6 ⟨[], false, []⟩ (.take 7 ⟨[], false, []⟩ (.alt 8 true ⟨[], false, [.adl 85 4 [.bool], .adl 8 50 [.int .i64, .bool]]⟩ (.alt 9 false ⟨[], false, []⟩ (.take 10 ⟨[], false, []⟩ .done) .done) .done)))))))))) (.cut ⟨[true, false, true, false, false], 5, [.slot 2 (.hb 0 0), .slot 8 (.hl 4 0), .slot 9 (.hl 2 0), .modl 4 0 50 [.int .i64, .bool]], [(1, true), (11, true), (13, true), (42, true), (43, true)]⟩ (.seq (.txt []) (.block (.loop ⟨[true, false, true, false, false], 5, [.slot 2 (.hb 0 0), .slot 8 (.hl 4 0), .slot 9 (.hl 2 0), .slot 14 (.sc (.int .i64)), .modl 4 0 50 [.int .i64, .bool]], [(1, true), (11, true), (13, true), (42, true), (43, true)]⟩ (.seq (.seq (.txt []) (.cond .leaf .leaf)) (.seq (.block (.txt [])) (.txt [])))))) (.seq (.txt []) (.block (.loop ⟨[true, false, true, false, false], 5, [.slot 2 (.hb 0 0), .slot 8 (.hl 4 0), .slot 9 (.hl 2 0), .slot 15 (.sc (.int .i64)), .modl 4 0 50 [.int .i64, .bool]], [(1, true), (11, true), (13, true), (42, true), (43, true)]⟩ (.seq (.seq (.txt []) (.cond .leaf .leaf)) (.cut ⟨[true, false, true, false, false], 5, [.slot 2 (.hb 0 0), .slot 8 (.hl 4 0), .slot 9 (.hl 2 0), .modl 4 0 50 [.int .i64, .bool]], [(1, true), (11, true), (13, true), (15, true), (42, true), (43, true)]⟩ (.block (.seq (.plan [] (.take 0 ⟨[], false, []⟩ (.take 1 ⟨[], false, []⟩ (.take 2 ⟨[], false, []⟩ (.take 3 ⟨[], false, []⟩ (.take 4 ⟨[], false, []⟩ (.take 5 ⟨[], false, []⟩ (.take 6 ⟨[], false, []⟩ (.take 7 ⟨[], false, []⟩ (.take 8 ⟨[], false, []⟩ (.take 9 ⟨[], false, []⟩ (.take 10 ⟨[], false, []⟩ .done)))))))))))) (.cond (.txt []) .leaf))) (.txt [])))))))))))) (.txt []))))))) (.seq (.txt []) .leaf)))))))
set_option maxRecDepth 100000 in
theorem M_ref04_Award_ok (σ : Hp) (a0_Wide : Int) (a0_High : Int) (a0_Cells_A : Option Addr) (a0_Cells_n : Nat) (a0_Cells_c : Nat) (a0_Heights_A : Option Addr) (a0_Heights_n : Nat) (a0_Heights_c : Nat) (a1_A : Option Addr) (a1_n : Nat) (a1_c : Nat) (R : Value → Hp → Prop) (h : M_ref04_Award σ a0_Wide a0_High a0_Cells_A a0_Cells_n a0_Cells_c a0_Heights_A a0_Heights_n a0_Heights_c a1_A a1_n a1_c R) : FCalls Try.prog 28 #[(.agg #[(.int .i64 a0_Wide), (.int .i64 a0_High), (.slice a0_Cells_A a0_Cells_n a0_Cells_c), (.slice a0_Heights_A a0_Heights_n a0_Heights_c)]), (.slice a1_A a1_n a1_c)] σ R :=
  fcalls_of_M mixed_M1 M_ref04_Award_an Try.func28 rfl (by kernel_rfl) (by kernel_rfl) (M := M_ref04_Award σ a0_Wide a0_High a0_Cells_A a0_Cells_n a0_Cells_c a0_Heights_A a0_Heights_n a0_Heights_c a1_A a1_n a1_c R) (by kernel_rfl) h
theorem M_ref04_Award_enter : enterB Try.prog 28 = true := by kernel_rfl

end Go.Proofs.Ytmpkiaghkhhlhaa

/- M-forms, printed by wip/gen/genm.py out of the translation: each function as a proposition over its local objects, with the lemma that it is what the function does. -/
namespace Go.Proofs.Ytmpkiaghkhhlhaa
open Go.RowKit

theorem mixed_M2 : Try.prog.follows .mixedOrders = true := by kernel_rfl

abbrev N_ground_Sites : FuncId := 22
/-- waltzer/ground.Sites -/
def M_ground_Sites (σ : Hp) (g_Wide : Int) (g_High : Int) (g_Cells_A : Option Addr) (g_Cells_n : Nat) (g_Cells_c : Nat) (g_Heights_A : Option Addr) (g_Heights_n : Nat) (g_Heights_c : Nat) (l_A : Option Addr) (l_n : Nat) (l_c : Nat) (sites_A : Option Addr) (sites_n : Nat) (sites_c : Nat) (pitch : Int) (R : Value → Hp → Prop) : Prop :=
  cl Try.prog (.func (.func 57) #[] #[]) #[(.agg #[(.int .i64 g_Wide), (.int .i64 g_High), (.slice g_Cells_A g_Cells_n g_Cells_c), (.slice g_Heights_A g_Heights_n g_Heights_c)]), (.slice l_A l_n l_c), (.slice sites_A sites_n sites_c)] σ (fun v1 σ2 => 
    ∃ p3 : Option Addr, ∃ n4 : Int, ∃ n5 : Int, (v1 = (.tuple #[(.pointer p3), (.int .i64 n4), (.int .i64 n5)]) ∧ 
    bc (!decide (n5 = 0)) (rt σ2 R (.tuple #[(.slice none 0 0), (.int .i64 n5)])) (wk .i64 (((l_n : Nat) : Int) - 1) (fun n6 => 
    cl Try.prog (.func (.func 58) #[] #[]) #[(.int .i64 pitch), (.int .i64 0), (.int .i64 n6)] σ2 (fun v7 σ8 => 
    ∃ t9 : Bool, (v7 = (.bool t9) ∧ bc (!t9) (rt σ8 R (.tuple #[(.slice none 0 0), (.int .i64 1)])) (cl Try.prog (.func (.func 59) #[] #[]) #[(.pointer p3), (.int .i64 pitch)] σ8 (fun _ σ11 => 
    cut (α := Option Addr → Hp → Prop) (fun p15 σ13 => ∀ _ : Nat → Value, dr p15 (fun b16 o17 => ldS σ13 b16 o17 (fun A18 l18 c18 => 
    dr p15 (fun b19 o20 => st σ13 b19 o20 (.slice A18 l18 c18) (fun σ21 => dr p15 (fun b22 o23 => ldS σ21 b22 o23 (fun A24 l24 c24 => 
    rt σ21 R (.tuple #[(.slice A24 l24 c24), (.int .i64 0)])))))))) (fun J14 => cl Try.prog (.func (.func 60) #[] #[]) #[(.pointer p3), (.int .i64 pitch)] σ11 (fun v25 σ26 => 
    ∃ v27 : Value, (v25 = v27 ∧ bx σ26 (.cells #[(.slice none 0 0)] 26) (fun b28 σ29 => rngM Try.prog v27 σ29 (fun l30 Rec31 ag32 σ33 R34 => 
    ∃ n38 : Int, ∃ t39 : Bool, (ag32 = #[(.agg #[(.int .i64 n38), (.bool t39)])] ∧ ∀ _ : Nat → Value, rgb l30 Rec31 σ33 (fun σ40 => 
    ldS σ40 b28 0 (fun A41 l41 c41 => adp 50 [.int .i64, .bool] A41 l41 c41 σ40 (fun (xs42 : List (Int × Bool)) σ43 => 
    roomy (List.length xs42 + List.length ([(n38, t39)] : List (Int × Bool))) (exl 50 [.int .i64, .bool] (xs42 ++ ([(n38, t39)] : List (Int × Bool))) σ43 (fun A44 l44 c44 σ45 => 
    st σ45 b28 0 (.slice A44 l44 c44) (fun σ46 => rgo l30 Rec31 R34 σ46)))))))) (fun p35 σ36 => aft p35 (J14 (some ⟨b28, 0, none⟩) σ36) (ldS σ36 b28 0 (fun A47 l47 c47 => 
    rt σ36 R (.tuple #[(.slice A47 l47 c47), (.int .i64 n5)]))) (fun i => exb i 0 (J14 (some ⟨b28, 0, none⟩) σ36) (False)))))))))))))))
def M_ground_Sites_an : MAn := (.seq (.txt []) (.seq (.txt []) (.seq (.seq (.txt []) (.cond (.seq (.txt []) .leaf) .leaf)) (.seq (.seq (.txt []) (.cond (.seq (.txt []) .leaf) .leaf)) (.seq (.txt []) (.cut ⟨[true, false], 2, [.slot 8 (.sc (.ptr))], []⟩ (.seq (.txt []) (.block (.rng [.exp 8] [(8, true)] [50] (.txt []) (.block (.txt []))))) (.seq (.txt []) .leaf)))))))
set_option maxRecDepth 100000 in
theorem M_ground_Sites_ok (σ : Hp) (g_Wide : Int) (g_High : Int) (g_Cells_A : Option Addr) (g_Cells_n : Nat) (g_Cells_c : Nat) (g_Heights_A : Option Addr) (g_Heights_n : Nat) (g_Heights_c : Nat) (l_A : Option Addr) (l_n : Nat) (l_c : Nat) (sites_A : Option Addr) (sites_n : Nat) (sites_c : Nat) (pitch : Int) (R : Value → Hp → Prop) (h : M_ground_Sites σ g_Wide g_High g_Cells_A g_Cells_n g_Cells_c g_Heights_A g_Heights_n g_Heights_c l_A l_n l_c sites_A sites_n sites_c pitch R) : FCalls Try.prog 22 #[(.agg #[(.int .i64 g_Wide), (.int .i64 g_High), (.slice g_Cells_A g_Cells_n g_Cells_c), (.slice g_Heights_A g_Heights_n g_Heights_c)]), (.slice l_A l_n l_c), (.slice sites_A sites_n sites_c), (.int .i64 pitch)] σ R :=
  fcalls_of_M mixed_M2 M_ground_Sites_an Try.func22 rfl (by kernel_rfl) (by kernel_rfl) (M := M_ground_Sites σ g_Wide g_High g_Cells_A g_Cells_n g_Cells_c g_Heights_A g_Heights_n g_Heights_c l_A l_n l_c sites_A sites_n sites_c pitch R) (by kernel_rfl) h
theorem M_ground_Sites_enter : enterB Try.prog 22 = true := by kernel_rfl

abbrev N_ground_Award : FuncId := 25
/-- waltzer/ground.Award -/
def M_ground_Award (σ : Hp) (a0_Wide : Int) (a0_High : Int) (a0_Cells_A : Option Addr) (a0_Cells_n : Nat) (a0_Cells_c : Nat) (a0_Heights_A : Option Addr) (a0_Heights_n : Nat) (a0_Heights_c : Nat) (a1_A : Option Addr) (a1_n : Nat) (a1_c : Nat) (R : Value → Hp → Prop) : Prop :=
  cl Try.prog (.func (.func 62) #[] #[]) #[(.agg #[(.int .i64 a0_Wide), (.int .i64 a0_High), (.slice a0_Cells_A a0_Cells_n a0_Cells_c), (.slice a0_Heights_A a0_Heights_n a0_Heights_c)]), (.slice a1_A a1_n a1_c)] σ (fun v1 σ2 => 
    ∃ p3 : Option Addr, ∃ n4 : Int, ∃ n5 : Int, (v1 = (.tuple #[(.pointer p3), (.int .i64 n4), (.int .i64 n5)]) ∧ 
    bc (!decide (n5 = 0)) (rt σ2 R (.tuple #[(.slice none 0 0), (.int .i64 n5)])) ((0 ≤ ((a1_n : Nat) : Int) ∧ 
    ((a1_n : Nat) : Int) ≤ ((a1_n : Nat) : Int) ∧ ((a1_n : Nat) : Int) ≤ (1000000000 : Int) ∧ cut (α := List Int → Hp → Prop) (fun xs9 σ7 => 
    ∀ _ : Nat → Value, bx σ7 (.cells #[(.slice a1_A a1_n a1_c)] 25) (fun b10 σ11 => exl 3 [.int .i64] xs9 σ11 (fun A12 l12 c12 σ13 => 
    cl Try.prog (.func (.func 63) #[] #[]) #[(.slice A12 l12 c12), (.func (.func 64) #[] #[(.pointer (some ⟨b10, 0, none⟩))])] σ13 (fun _ σ15 => 
    adp 3 [.int .i64] A12 l12 c12 σ15 (fun (xs16 : List Int) σ17 => cut (α := Hp → Prop) (fun  σ19 => ∀ _ : Nat → Value, 
    dr p3 (fun b21 o22 => ldS σ19 b21 (o22 + 5) (fun A23 l23 c23 => rt σ19 R (.tuple #[(.slice A23 l23 c23), (.int .i64 0)])))) (fun J20 => 
    ∃ I26 : Nat → Int → Hp → Prop, (∃ n270, I26 n270 0 σ17) ∧ ∀ n27 : Nat, ∀ n28 : Int, ∀ σ25 : Hp, I26 n27 n28 σ25 → ∀ _ : Nat → Value, bc (decide (n28 < ((List.length xs16 : Nat) : Int))) (cut (α := Hp → Prop) (fun  σ30 => 
    ∀ _ : Nat → Value, wk .i64 (n28 + 1) (fun n32 => bk σ30 n27 (fun m33 σ34 => I26 m33 n32 σ34))) (fun J31 => 
    (0 ≤ n28 ∧ n28 < ((List.length xs16 : Nat) : Int) ∧ lat xs16 ((n28 : Int).toNat) (fun r35 => cut (α := Option Addr → Option Addr → Option Addr → Hp → Prop) (fun p39 p40 p41 σ37 => 
    ∀ _ : Nat → Value, dr p41 (fun b42 o43 => ldB σ37 b42 o43 (fun t44 => bc t44 (dr p39 (fun b45 o46 => 
    ldI σ37 .i64 b45 o46 (fun n47 => dr p40 (fun b48 o49 => ldI σ37 .i64 b48 o49 (fun n50 => ldB σ37 b48 (o49 + 1) (fun t51 => 
    cl Try.prog (.func (.func 65) #[] #[]) #[(.pointer p3), (.int .i64 n47), (.agg #[(.int .i64 n50), (.bool t51)])] σ37 (fun _ σ53 => 
    J31 σ53))))))) (J31 σ37)))) (fun J38 => cl Try.prog (.func (.func 60) #[] #[]) #[(.pointer p3), (.int .i64 r35)] σ25 (fun v54 σ55 => 
    ∃ v56 : Value, (v54 = v56 ∧ bx σ55 (.cells #[(.int .i64 r35)] 3) (fun b57 σ58 => bx σ58 (.cells #[(.int .i64 (-1)), (.bool false)] 50) (fun b59 σ60 => 
    bx σ60 (.cells #[(.bool false)] 4) (fun b61 σ62 => rngM Try.prog v56 σ62 (fun l63 Rec64 ag65 σ66 R67 => 
    ∃ n71 : Int, ∃ t72 : Bool, (ag65 = #[(.agg #[(.int .i64 n71), (.bool t72)])] ∧ ∀ _ : Nat → Value, rgb l63 Rec64 σ66 (fun σ73 => 
    ldS σ73 b10 0 (fun A74 l74 _ => ldI σ73 .i64 b57 0 (fun n75 => ix A74 l74 n75 5 (fun b76 a77 => ldI σ73 .i64 b76 (a77 + 4) (fun n78 => 
    cut (α := Bool → Hp → Prop) (fun t82 σ80 => ∀ _ : Nat → Value, bc t82 (st σ80 b59 0 (.int .i64 n71) (fun σ83 => 
    st σ83 b59 1 (.bool t72) (fun σ84 => st σ84 b61 0 (.bool true) (fun σ85 => bc (decide (n71 = n78)) (rgx l63 Rec64 R67 σ85 (.exit 4)) (rgo l63 Rec64 R67 σ85))))) (rgo l63 Rec64 R67 σ80)) (fun J81 => 
    bc (decide (n71 = n78)) (J81 true σ73) (ldB σ73 b61 0 (fun t86 => J81 (!t86) σ73)))))))))) (fun p68 σ69 => 
    aft p68 (J38 (some ⟨b57, 0, none⟩) (some ⟨b59, 0, none⟩) (some ⟨b61, 0, none⟩) σ69) (rt σ69 R (.tuple #[(.slice none 0 0), (.int .i64 0)])) (fun i => 
    exb i 4 (J38 (some ⟨b57, 0, none⟩) (some ⟨b59, 0, none⟩) (some ⟨b61, 0, none⟩) σ69) (exb i 3 (J31 σ69) (exb i 2 (J20 σ69) (False))))))))))))))) (J20 σ25))))))) (fun J8 => 
    ∃ I89 : Nat → Int → List Int → Hp → Prop, (∃ n900, I89 n900 0 (List.replicate (((a1_n : Nat) : Int) : Int).toNat 0 : List Int) σ2) ∧ 
    ∀ n90 : Nat, ∀ n91 : Int, ∀ xs92 : List Int, ∀ σ88 : Hp, I89 n90 n91 xs92 σ88 → ∀ _ : Nat → Value, bc (decide (n91 < ((List.length (List.replicate (((a1_n : Nat) : Int) : Int).toNat 0 : List Int) : Nat) : Int))) ((0 ≤ n91 ∧ 
    n91 < ((List.length xs92 : Nat) : Int) ∧ lat xs92 ((n91 : Int).toNat) (fun _ => wk .i64 (n91 + 1) (fun n94 => 
    bk σ88 n90 (fun m95 σ96 => I89 m95 n94 (List.set xs92 ((n91 : Int).toNat) n91) σ96))))) (J8 xs92 σ88))))))
def M_ground_Award_an : MAn := (.seq (.txt []) (.seq (.txt []) (.seq (.seq (.txt []) (.cond (.seq (.txt []) .leaf) .leaf)) (.seq (.txt []) (.cut ⟨[true, true, false], 3, [.slot 3 (.hb 1 0), .slot 9 (.hl 2 0), .modl 2 0 3 [.int .i64]], [(4, true), (5, true), (6, true)]⟩ (.seq (.txt []) (.block (.loop ⟨[true, true, false], 3, [.slot 3 (.hb 1 0), .slot 9 (.hl 2 0), .slot 32 (.sc (.int .i64)), .modl 2 0 3 [.int .i64]], [(4, true), (5, true), (6, true), (31, true)]⟩ (.seq (.txt []) (.seq (.cond .leaf .leaf) (.seq (.block (.seq (.txt []) (.txt []))) (.txt []))))))) (.seq (.txt [⟨[], false, []⟩, ⟨[], false, []⟩, ⟨[], false, [.adl 9 3 [.int .i64]]⟩]) (.cut ⟨[true, false, false, true], 4, [], [(6, true)]⟩ (.seq (.txt []) (.block (.loop ⟨[true, false, false, true], 4, [.slot 43 (.hl 3 0), .slot 45 (.sc (.int .i64))], [(3, true), (4, true), (5, true), (6, true), (44, true)]⟩ (.seq (.txt []) (.seq (.cond .leaf .leaf) (.cut ⟨[true, false, false, true], 4, [.slot 43 (.hl 3 0)], [(3, true), (4, true), (5, true), (6, true), (44, true), (45, true)]⟩ (.block (.seq (.txt []) (.seq (.txt []) (.cut ⟨[true, false, false, true, false, false, false], 7, [.slot 12 (.sc (.ptr)), .slot 13 (.sc (.ptr)), .slot 14 (.sc (.ptr)), .slot 43 (.hl 3 0)], [(3, true), (4, true), (5, true), (6, true), (44, true), (45, true)]⟩ (.seq (.txt []) (.block (.rng [.exp 12, .exp 13, .exp 14] [(3, true), (12, true), (13, true), (14, true)] [50] (.txt []) (.block (.seq (.plan [] (.take 0 ⟨[], false, []⟩ (.take 1 ⟨[], false, []⟩ (.take 2 ⟨[], false, []⟩ (.take 3 ⟨[], false, []⟩ (.take 4 ⟨[], false, []⟩ (.take 5 ⟨[], false, []⟩ (.take 6 ⟨[], false, []⟩ (.take 7 ⟨[], false, []⟩ (.take 8 ⟨[], false, []⟩ .done)))))))))) (.cut ⟨[true], 1, [.slot 15 (.hb 0 0), .slot 66 (.sc (.bool))], [(13, true), (14, true), (16, true)]⟩ (.txt [⟨[], false, []⟩, ⟨[], true, []⟩]) (.cond (.seq (.txt []) (.seq (.txt []) (.cond .leaf .leaf))) .leaf))))))) (.seq (.txt []) (.cond (.txt []) .leaf)))))) (.txt []))))))) (.seq (.txt []) .leaf))))))))
set_option maxRecDepth 100000 in
theorem M_ground_Award_ok (σ : Hp) (a0_Wide : Int) (a0_High : Int) (a0_Cells_A : Option Addr) (a0_Cells_n : Nat) (a0_Cells_c : Nat) (a0_Heights_A : Option Addr) (a0_Heights_n : Nat) (a0_Heights_c : Nat) (a1_A : Option Addr) (a1_n : Nat) (a1_c : Nat) (R : Value → Hp → Prop) (h : M_ground_Award σ a0_Wide a0_High a0_Cells_A a0_Cells_n a0_Cells_c a0_Heights_A a0_Heights_n a0_Heights_c a1_A a1_n a1_c R) : FCalls Try.prog 25 #[(.agg #[(.int .i64 a0_Wide), (.int .i64 a0_High), (.slice a0_Cells_A a0_Cells_n a0_Cells_c), (.slice a0_Heights_A a0_Heights_n a0_Heights_c)]), (.slice a1_A a1_n a1_c)] σ R :=
  fcalls_of_M mixed_M2 M_ground_Award_an Try.func25 rfl (by kernel_rfl) (by kernel_rfl) (M := M_ground_Award σ a0_Wide a0_High a0_Cells_A a0_Cells_n a0_Cells_c a0_Heights_A a0_Heights_n a0_Heights_c a1_A a1_n a1_c R) (by kernel_rfl) h
theorem M_ground_Award_enter : enterB Try.prog 25 = true := by kernel_rfl

abbrev N_ground_Lay : FuncId := 26
/-- waltzer/ground.Lay -/
def M_ground_Lay (σ : Hp) (g_Wide : Int) (g_High : Int) (g_Cells_A : Option Addr) (g_Cells_n : Nat) (g_Cells_c : Nat) (g_Heights_A : Option Addr) (g_Heights_n : Nat) (g_Heights_c : Nat) (l_A : Option Addr) (l_n : Nat) (l_c : Nat) (R : Value → Hp → Prop) : Prop :=
  cl Try.prog (.func (.func 62) #[] #[]) #[(.agg #[(.int .i64 g_Wide), (.int .i64 g_High), (.slice g_Cells_A g_Cells_n g_Cells_c), (.slice g_Heights_A g_Heights_n g_Heights_c)]), (.slice l_A l_n l_c)] σ (fun v1 σ2 => 
    ∃ p3 : Option Addr, ∃ n4 : Int, ∃ n5 : Int, (v1 = (.tuple #[(.pointer p3), (.int .i64 n4), (.int .i64 n5)]) ∧ 
    bc (!decide (n5 = 0)) (rt σ2 R (.tuple #[(.slice none 0 0), (.int .i64 n5)])) (cl Try.prog (.func (.func 66) #[] #[]) #[(.pointer p3), (.int .i64 0)] σ2 (fun v6 σ7 => 
    ∃ t8 : Bool, (v6 = (.bool t8) ∧ bc (!t8) (rt σ7 R (.tuple #[(.slice none 0 0), (.int .i64 3)])) (dr p3 (fun b9 o10 => 
    ldS σ7 b9 (o10 + 5) (fun A11 l11 c11 => rt σ7 R (.tuple #[(.slice A11 l11 c11), (.int .i64 0)])))))))))
def M_ground_Lay_an : MAn := (.seq (.txt []) (.seq (.txt []) (.seq (.seq (.txt []) (.cond (.seq (.txt []) .leaf) .leaf)) (.seq (.seq (.txt []) (.cond (.seq (.txt []) .leaf) .leaf)) (.seq (.txt []) .leaf)))))
set_option maxRecDepth 100000 in
theorem M_ground_Lay_ok (σ : Hp) (g_Wide : Int) (g_High : Int) (g_Cells_A : Option Addr) (g_Cells_n : Nat) (g_Cells_c : Nat) (g_Heights_A : Option Addr) (g_Heights_n : Nat) (g_Heights_c : Nat) (l_A : Option Addr) (l_n : Nat) (l_c : Nat) (R : Value → Hp → Prop) (h : M_ground_Lay σ g_Wide g_High g_Cells_A g_Cells_n g_Cells_c g_Heights_A g_Heights_n g_Heights_c l_A l_n l_c R) : FCalls Try.prog 26 #[(.agg #[(.int .i64 g_Wide), (.int .i64 g_High), (.slice g_Cells_A g_Cells_n g_Cells_c), (.slice g_Heights_A g_Heights_n g_Heights_c)]), (.slice l_A l_n l_c)] σ R :=
  fcalls_of_M mixed_M2 M_ground_Lay_an Try.func26 rfl (by kernel_rfl) (by kernel_rfl) (M := M_ground_Lay σ g_Wide g_High g_Cells_A g_Cells_n g_Cells_c g_Heights_A g_Heights_n g_Heights_c l_A l_n l_c R) (by kernel_rfl) h
theorem M_ground_Lay_enter : enterB Try.prog 26 = true := by kernel_rfl

abbrev N_ground_Check : FuncId := 29
/-- waltzer/ground.Check -/
def M_ground_Check (σ : Hp) (g_Wide : Int) (g_High : Int) (g_Cells_A : Option Addr) (g_Cells_n : Nat) (g_Cells_c : Nat) (g_Heights_A : Option Addr) (g_Heights_n : Nat) (g_Heights_c : Nat) (l_A : Option Addr) (l_n : Nat) (l_c : Nat) (sites_A : Option Addr) (sites_n : Nat) (sites_c : Nat) (R : Value → Hp → Prop) : Prop :=
  cl Try.prog (.func (.func 57) #[] #[]) #[(.agg #[(.int .i64 g_Wide), (.int .i64 g_High), (.slice g_Cells_A g_Cells_n g_Cells_c), (.slice g_Heights_A g_Heights_n g_Heights_c)]), (.slice l_A l_n l_c), (.slice sites_A sites_n sites_c)] σ (fun v1 σ2 => 
    ∃ p3 : Option Addr, ∃ n4 : Int, ∃ n5 : Int, (v1 = (.tuple #[(.pointer p3), (.int .i64 n4), (.int .i64 n5)]) ∧ 
    rt σ2 R (.tuple #[(.int .i64 n4), (.int .i64 n5)])))
def M_ground_Check_an : MAn := (.seq (.txt []) (.seq (.txt []) (.seq (.txt []) .leaf)))
set_option maxRecDepth 100000 in
theorem M_ground_Check_ok (σ : Hp) (g_Wide : Int) (g_High : Int) (g_Cells_A : Option Addr) (g_Cells_n : Nat) (g_Cells_c : Nat) (g_Heights_A : Option Addr) (g_Heights_n : Nat) (g_Heights_c : Nat) (l_A : Option Addr) (l_n : Nat) (l_c : Nat) (sites_A : Option Addr) (sites_n : Nat) (sites_c : Nat) (R : Value → Hp → Prop) (h : M_ground_Check σ g_Wide g_High g_Cells_A g_Cells_n g_Cells_c g_Heights_A g_Heights_n g_Heights_c l_A l_n l_c sites_A sites_n sites_c R) : FCalls Try.prog 29 #[(.agg #[(.int .i64 g_Wide), (.int .i64 g_High), (.slice g_Cells_A g_Cells_n g_Cells_c), (.slice g_Heights_A g_Heights_n g_Heights_c)]), (.slice l_A l_n l_c), (.slice sites_A sites_n sites_c)] σ R :=
  fcalls_of_M mixed_M2 M_ground_Check_an Try.func29 rfl (by kernel_rfl) (by kernel_rfl) (M := M_ground_Check σ g_Wide g_High g_Cells_A g_Cells_n g_Cells_c g_Heights_A g_Heights_n g_Heights_c l_A l_n l_c sites_A sites_n sites_c R) (by kernel_rfl) h
theorem M_ground_Check_enter : enterB Try.prog 29 = true := by kernel_rfl

abbrev N_ground_Free : FuncId := 30
/-- waltzer/ground.Free -/
def M_ground_Free (σ : Hp) (g_Wide : Int) (g_High : Int) (g_Cells_A : Option Addr) (g_Cells_n : Nat) (g_Cells_c : Nat) (g_Heights_A : Option Addr) (g_Heights_n : Nat) (g_Heights_c : Nat) (l_A : Option Addr) (l_n : Nat) (l_c : Nat) (sites_A : Option Addr) (sites_n : Nat) (sites_c : Nat) (R : Value → Hp → Prop) : Prop :=
  cl Try.prog (.func (.func 57) #[] #[]) #[(.agg #[(.int .i64 g_Wide), (.int .i64 g_High), (.slice g_Cells_A g_Cells_n g_Cells_c), (.slice g_Heights_A g_Heights_n g_Heights_c)]), (.slice l_A l_n l_c), (.slice sites_A sites_n sites_c)] σ (fun v1 σ2 => 
    ∃ p3 : Option Addr, ∃ n4 : Int, ∃ n5 : Int, (v1 = (.tuple #[(.pointer p3), (.int .i64 n4), (.int .i64 n5)]) ∧ 
    bc (!decide (n5 = 0)) (rt σ2 R (.tuple #[(.slice none 0 0), (.int .i64 n5)])) (cl Try.prog (.func (.func 68) #[] #[]) #[(.pointer p3), (.func (.func 46) #[(.pointer p3)] #[])] σ2 (fun v6 σ7 => 
    ∃ A8 : Option Addr, ∃ l8 : Nat, ∃ c8 : Nat, (v6 = (.slice A8 l8 c8) ∧ rt σ7 R (.tuple #[(.slice A8 l8 c8), (.int .i64 0)]))))))
def M_ground_Free_an : MAn := (.seq (.txt []) (.seq (.txt []) (.seq (.seq (.txt []) (.cond (.seq (.txt []) .leaf) .leaf)) (.seq (.txt []) .leaf))))
set_option maxRecDepth 100000 in
theorem M_ground_Free_ok (σ : Hp) (g_Wide : Int) (g_High : Int) (g_Cells_A : Option Addr) (g_Cells_n : Nat) (g_Cells_c : Nat) (g_Heights_A : Option Addr) (g_Heights_n : Nat) (g_Heights_c : Nat) (l_A : Option Addr) (l_n : Nat) (l_c : Nat) (sites_A : Option Addr) (sites_n : Nat) (sites_c : Nat) (R : Value → Hp → Prop) (h : M_ground_Free σ g_Wide g_High g_Cells_A g_Cells_n g_Cells_c g_Heights_A g_Heights_n g_Heights_c l_A l_n l_c sites_A sites_n sites_c R) : FCalls Try.prog 30 #[(.agg #[(.int .i64 g_Wide), (.int .i64 g_High), (.slice g_Cells_A g_Cells_n g_Cells_c), (.slice g_Heights_A g_Heights_n g_Heights_c)]), (.slice l_A l_n l_c), (.slice sites_A sites_n sites_c)] σ R :=
  fcalls_of_M mixed_M2 M_ground_Free_an Try.func30 rfl (by kernel_rfl) (by kernel_rfl) (M := M_ground_Free σ g_Wide g_High g_Cells_A g_Cells_n g_Cells_c g_Heights_A g_Heights_n g_Heights_c l_A l_n l_c sites_A sites_n sites_c R) (by kernel_rfl) h
theorem M_ground_Free_enter : enterB Try.prog 30 = true := by kernel_rfl

abbrev N_ref04_Free : FuncId := 31
/-- waltzer/waltzerref04.Free -/
def M_ref04_Free (σ : Hp) (g_Wide : Int) (g_High : Int) (g_Cells_A : Option Addr) (g_Cells_n : Nat) (g_Cells_c : Nat) (g_Heights_A : Option Addr) (g_Heights_n : Nat) (g_Heights_c : Nat) (l_A : Option Addr) (l_n : Nat) (l_c : Nat) (sites_A : Option Addr) (sites_n : Nat) (sites_c : Nat) (R : Value → Hp → Prop) : Prop :=
  cl Try.prog (.func (.func 18) #[] #[]) #[(.agg #[(.int .i64 g_Wide), (.int .i64 g_High), (.slice g_Cells_A g_Cells_n g_Cells_c), (.slice g_Heights_A g_Heights_n g_Heights_c)]), (.slice l_A l_n l_c), (.slice sites_A sites_n sites_c)] σ (fun v1 σ2 => 
    ∃ n3 : Int, ∃ n4 : Int, (v1 = (.tuple #[(.int .i64 n3), (.int .i64 n4)]) ∧ bc (!decide (n4 = 0)) (rt σ2 R (.tuple #[(.slice none 0 0), (.int .i64 n4)])) (cl Try.prog (.func (.func 19) #[] #[]) #[(.agg #[(.int .i64 g_Wide), (.int .i64 g_High), (.slice g_Cells_A g_Cells_n g_Cells_c), (.slice g_Heights_A g_Heights_n g_Heights_c)]), (.slice l_A l_n l_c), (.slice sites_A sites_n sites_c)] σ2 (fun v5 σ6 => 
    ∃ A7 : Option Addr, ∃ l7 : Nat, ∃ c7 : Nat, (v5 = (.slice A7 l7 c7) ∧ adp 4 [.bool] A7 l7 c7 σ6 (fun (xs8 : List Bool) σ9 => 
    exl 4 [.bool] xs8 σ9 (fun A10 l10 c10 σ11 => cl Try.prog (.func (.func 69) #[] #[]) #[(.slice A10 l10 c10)] σ11 (fun v12 σ13 => 
    ∃ A14 : Option Addr, ∃ l14 : Nat, ∃ c14 : Nat, (v12 = (.slice A14 l14 c14) ∧ rt σ13 R (.tuple #[(.slice A14 l14 c14), (.int .i64 0)]))))))))))
def M_ref04_Free_an : MAn := (.seq (.txt []) (.seq (.seq (.txt []) (.seq (.txt []) (.cond (.seq (.txt []) .leaf) .leaf))) (.seq (.txt [⟨[], false, []⟩, ⟨[], false, []⟩, ⟨[], false, []⟩, ⟨[], false, [.adl 23 4 [.bool]]⟩]) .leaf)))
set_option maxRecDepth 100000 in
theorem M_ref04_Free_ok (σ : Hp) (g_Wide : Int) (g_High : Int) (g_Cells_A : Option Addr) (g_Cells_n : Nat) (g_Cells_c : Nat) (g_Heights_A : Option Addr) (g_Heights_n : Nat) (g_Heights_c : Nat) (l_A : Option Addr) (l_n : Nat) (l_c : Nat) (sites_A : Option Addr) (sites_n : Nat) (sites_c : Nat) (R : Value → Hp → Prop) (h : M_ref04_Free σ g_Wide g_High g_Cells_A g_Cells_n g_Cells_c g_Heights_A g_Heights_n g_Heights_c l_A l_n l_c sites_A sites_n sites_c R) : FCalls Try.prog 31 #[(.agg #[(.int .i64 g_Wide), (.int .i64 g_High), (.slice g_Cells_A g_Cells_n g_Cells_c), (.slice g_Heights_A g_Heights_n g_Heights_c)]), (.slice l_A l_n l_c), (.slice sites_A sites_n sites_c)] σ R :=
  fcalls_of_M mixed_M2 M_ref04_Free_an Try.func31 rfl (by kernel_rfl) (by kernel_rfl) (M := M_ref04_Free σ g_Wide g_High g_Cells_A g_Cells_n g_Cells_c g_Heights_A g_Heights_n g_Heights_c l_A l_n l_c sites_A sites_n sites_c R) (by kernel_rfl) h
theorem M_ref04_Free_enter : enterB Try.prog 31 = true := by kernel_rfl

abbrev N_ground_Far : FuncId := 32
/-- waltzer/ground.Far -/
def M_ground_Far (σ : Hp) (g_Wide : Int) (g_High : Int) (g_Cells_A : Option Addr) (g_Cells_n : Nat) (g_Cells_c : Nat) (g_Heights_A : Option Addr) (g_Heights_n : Nat) (g_Heights_c : Nat) (l_A : Option Addr) (l_n : Nat) (l_c : Nat) (sites_A : Option Addr) (sites_n : Nat) (sites_c : Nat) (R : Value → Hp → Prop) : Prop :=
  cl Try.prog (.func (.func 57) #[] #[]) #[(.agg #[(.int .i64 g_Wide), (.int .i64 g_High), (.slice g_Cells_A g_Cells_n g_Cells_c), (.slice g_Heights_A g_Heights_n g_Heights_c)]), (.slice l_A l_n l_c), (.slice sites_A sites_n sites_c)] σ (fun v1 σ2 => 
    ∃ p3 : Option Addr, ∃ n4 : Int, ∃ n5 : Int, (v1 = (.tuple #[(.pointer p3), (.int .i64 n4), (.int .i64 n5)]) ∧ 
    bc (!decide (n5 = 0)) (rt σ2 R (.tuple #[(.slice none 0 0), (.int .i64 n5)])) (cl Try.prog (.func (.func 70) #[] #[]) #[(.pointer p3), (.int .i64 (-1))] σ2 (fun v6 σ7 => 
    ∃ A8 : Option Addr, ∃ l8 : Nat, ∃ c8 : Nat, (v6 = (.slice A8 l8 c8) ∧ rt σ7 R (.tuple #[(.slice A8 l8 c8), (.int .i64 0)]))))))
def M_ground_Far_an : MAn := (.seq (.txt []) (.seq (.txt []) (.seq (.seq (.txt []) (.cond (.seq (.txt []) .leaf) .leaf)) (.seq (.txt []) .leaf))))
set_option maxRecDepth 100000 in
theorem M_ground_Far_ok (σ : Hp) (g_Wide : Int) (g_High : Int) (g_Cells_A : Option Addr) (g_Cells_n : Nat) (g_Cells_c : Nat) (g_Heights_A : Option Addr) (g_Heights_n : Nat) (g_Heights_c : Nat) (l_A : Option Addr) (l_n : Nat) (l_c : Nat) (sites_A : Option Addr) (sites_n : Nat) (sites_c : Nat) (R : Value → Hp → Prop) (h : M_ground_Far σ g_Wide g_High g_Cells_A g_Cells_n g_Cells_c g_Heights_A g_Heights_n g_Heights_c l_A l_n l_c sites_A sites_n sites_c R) : FCalls Try.prog 32 #[(.agg #[(.int .i64 g_Wide), (.int .i64 g_High), (.slice g_Cells_A g_Cells_n g_Cells_c), (.slice g_Heights_A g_Heights_n g_Heights_c)]), (.slice l_A l_n l_c), (.slice sites_A sites_n sites_c)] σ R :=
  fcalls_of_M mixed_M2 M_ground_Far_an Try.func32 rfl (by kernel_rfl) (by kernel_rfl) (M := M_ground_Far σ g_Wide g_High g_Cells_A g_Cells_n g_Cells_c g_Heights_A g_Heights_n g_Heights_c l_A l_n l_c sites_A sites_n sites_c R) (by kernel_rfl) h
theorem M_ground_Far_enter : enterB Try.prog 32 = true := by kernel_rfl

abbrev N_ref04_Far : FuncId := 33
/-- waltzer/waltzerref04.Far -/
def M_ref04_Far (σ : Hp) (g_Wide : Int) (g_High : Int) (g_Cells_A : Option Addr) (g_Cells_n : Nat) (g_Cells_c : Nat) (g_Heights_A : Option Addr) (g_Heights_n : Nat) (g_Heights_c : Nat) (l_A : Option Addr) (l_n : Nat) (l_c : Nat) (sites_A : Option Addr) (sites_n : Nat) (sites_c : Nat) (R : Value → Hp → Prop) : Prop :=
  cl Try.prog (.func (.func 18) #[] #[]) #[(.agg #[(.int .i64 g_Wide), (.int .i64 g_High), (.slice g_Cells_A g_Cells_n g_Cells_c), (.slice g_Heights_A g_Heights_n g_Heights_c)]), (.slice l_A l_n l_c), (.slice sites_A sites_n sites_c)] σ (fun v1 σ2 => 
    ∃ n3 : Int, ∃ n4 : Int, (v1 = (.tuple #[(.int .i64 n3), (.int .i64 n4)]) ∧ bc (!decide (n4 = 0)) (rt σ2 R (.tuple #[(.slice none 0 0), (.int .i64 n4)])) (cl Try.prog (.func (.func 19) #[] #[]) #[(.agg #[(.int .i64 g_Wide), (.int .i64 g_High), (.slice g_Cells_A g_Cells_n g_Cells_c), (.slice g_Heights_A g_Heights_n g_Heights_c)]), (.slice l_A l_n l_c), (.slice sites_A sites_n sites_c)] σ2 (fun v5 σ6 => 
    ∃ A7 : Option Addr, ∃ l7 : Nat, ∃ c7 : Nat, (v5 = (.slice A7 l7 c7) ∧ (Hp.Sub σ2 σ6 ∧ adp 4 [.bool] A7 l7 c7 σ6 (fun (xs8 : List Bool) σ9 => 
    exl 4 [.bool] xs8 σ9 (fun A10 l10 c10 σ11 => cl Try.prog (.func (.func 71) #[] #[]) #[(.agg #[(.int .i64 g_Wide), (.int .i64 g_High), (.slice g_Cells_A g_Cells_n g_Cells_c), (.slice g_Heights_A g_Heights_n g_Heights_c)]), (.slice A10 l10 c10)] σ11 (fun v12 σ13 => 
    ∃ A14 : Option Addr, ∃ l14 : Nat, ∃ c14 : Nat, (v12 = (.slice A14 l14 c14) ∧ adp 3 [.int .i64] A14 l14 c14 σ13 (fun (xs15 : List Int) σ16 => 
    exl 3 [.int .i64] xs15 σ16 (fun A17 l17 c17 σ18 => rt σ18 R (.tuple #[(.slice A17 l17 c17), (.int .i64 0)])))))))))))))
def M_ref04_Far_an : MAn := (.seq (.txt []) (.seq (.seq (.txt []) (.seq (.txt []) (.cond (.seq (.txt []) .leaf) .leaf))) (.seq (.plan [5] (.take 0 ⟨[], false, []⟩ (.take 1 ⟨[], false, []⟩ (.take 2 ⟨[], false, []⟩ (.take 3 ⟨[], false, []⟩ (.alt 4 true ⟨[], false, [.adl 24 4 [.bool]]⟩ (.alt 5 false ⟨[], false, [.adl 25 3 [.int .i64]]⟩ (.take 6 ⟨[], false, []⟩ (.take 7 ⟨[], false, []⟩ .done)) .done) .done)))))) .leaf)))
set_option maxRecDepth 100000 in
theorem M_ref04_Far_ok (σ : Hp) (g_Wide : Int) (g_High : Int) (g_Cells_A : Option Addr) (g_Cells_n : Nat) (g_Cells_c : Nat) (g_Heights_A : Option Addr) (g_Heights_n : Nat) (g_Heights_c : Nat) (l_A : Option Addr) (l_n : Nat) (l_c : Nat) (sites_A : Option Addr) (sites_n : Nat) (sites_c : Nat) (R : Value → Hp → Prop) (h : M_ref04_Far σ g_Wide g_High g_Cells_A g_Cells_n g_Cells_c g_Heights_A g_Heights_n g_Heights_c l_A l_n l_c sites_A sites_n sites_c R) : FCalls Try.prog 33 #[(.agg #[(.int .i64 g_Wide), (.int .i64 g_High), (.slice g_Cells_A g_Cells_n g_Cells_c), (.slice g_Heights_A g_Heights_n g_Heights_c)]), (.slice l_A l_n l_c), (.slice sites_A sites_n sites_c)] σ R :=
  fcalls_of_M mixed_M2 M_ref04_Far_an Try.func33 rfl (by kernel_rfl) (by kernel_rfl) (M := M_ref04_Far σ g_Wide g_High g_Cells_A g_Cells_n g_Cells_c g_Heights_A g_Heights_n g_Heights_c l_A l_n l_c sites_A sites_n sites_c R) (by kernel_rfl) h
theorem M_ref04_Far_enter : enterB Try.prog 33 = true := by kernel_rfl

abbrev N_ground_Trapped : FuncId := 35
/-- waltzer/ground.Trapped -/
def M_ground_Trapped (σ : Hp) (g_Wide : Int) (g_High : Int) (g_Cells_A : Option Addr) (g_Cells_n : Nat) (g_Cells_c : Nat) (g_Heights_A : Option Addr) (g_Heights_n : Nat) (g_Heights_c : Nat) (l_A : Option Addr) (l_n : Nat) (l_c : Nat) (sites_A : Option Addr) (sites_n : Nat) (sites_c : Nat) (blocked : Int) (R : Value → Hp → Prop) : Prop :=
  exl 3 [.int .i64] ([blocked] : List Int) σ (fun A1 l1 c1 σ2 => cl Try.prog (.func (.func 45) #[] #[]) #[(.agg #[(.int .i64 g_Wide), (.int .i64 g_High), (.slice g_Cells_A g_Cells_n g_Cells_c), (.slice g_Heights_A g_Heights_n g_Heights_c)]), (.slice l_A l_n l_c), (.slice sites_A sites_n sites_c), (.slice A1 l1 c1)] σ2 (fun v3 σ4 => 
    ∃ p5 : Option Addr, ∃ n6 : Int, (v3 = (.tuple #[(.pointer p5), (.int .i64 n6)]) ∧ bc (!decide (n6 = 0)) (rt σ4 R (.tuple #[(.slice none 0 0), (.int .i64 n6)])) (cl Try.prog (.func (.func 72) #[] #[]) #[(.pointer p5), (.int .i64 blocked)] σ4 (fun v7 σ8 => 
    ∃ A9 : Option Addr, ∃ l9 : Nat, ∃ c9 : Nat, (v7 = (.slice A9 l9 c9) ∧ rt σ8 R (.tuple #[(.slice A9 l9 c9), (.int .i64 0)])))))))
def M_ground_Trapped_an : MAn := (.seq (.txt []) (.seq (.txt []) (.seq (.seq (.txt []) (.cond (.seq (.txt []) .leaf) .leaf)) (.seq (.txt []) .leaf))))
set_option maxRecDepth 100000 in
theorem M_ground_Trapped_ok (σ : Hp) (g_Wide : Int) (g_High : Int) (g_Cells_A : Option Addr) (g_Cells_n : Nat) (g_Cells_c : Nat) (g_Heights_A : Option Addr) (g_Heights_n : Nat) (g_Heights_c : Nat) (l_A : Option Addr) (l_n : Nat) (l_c : Nat) (sites_A : Option Addr) (sites_n : Nat) (sites_c : Nat) (blocked : Int) (R : Value → Hp → Prop) (h : M_ground_Trapped σ g_Wide g_High g_Cells_A g_Cells_n g_Cells_c g_Heights_A g_Heights_n g_Heights_c l_A l_n l_c sites_A sites_n sites_c blocked R) : FCalls Try.prog 35 #[(.agg #[(.int .i64 g_Wide), (.int .i64 g_High), (.slice g_Cells_A g_Cells_n g_Cells_c), (.slice g_Heights_A g_Heights_n g_Heights_c)]), (.slice l_A l_n l_c), (.slice sites_A sites_n sites_c), (.int .i64 blocked)] σ R :=
  fcalls_of_M mixed_M2 M_ground_Trapped_an Try.func35 rfl (by kernel_rfl) (by kernel_rfl) (M := M_ground_Trapped σ g_Wide g_High g_Cells_A g_Cells_n g_Cells_c g_Heights_A g_Heights_n g_Heights_c l_A l_n l_c sites_A sites_n sites_c blocked R) (by kernel_rfl) h
theorem M_ground_Trapped_enter : enterB Try.prog 35 = true := by kernel_rfl

abbrev N_ref04_Trapped : FuncId := 37
/-- waltzer/waltzerref04.Trapped -/
def M_ref04_Trapped (σ : Hp) (g_Wide : Int) (g_High : Int) (g_Cells_A : Option Addr) (g_Cells_n : Nat) (g_Cells_c : Nat) (g_Heights_A : Option Addr) (g_Heights_n : Nat) (g_Heights_c : Nat) (l_A : Option Addr) (l_n : Nat) (l_c : Nat) (sites_A : Option Addr) (sites_n : Nat) (sites_c : Nat) (blocked : Int) (R : Value → Hp → Prop) : Prop :=
  cl Try.prog (.func (.func 18) #[] #[]) #[(.agg #[(.int .i64 g_Wide), (.int .i64 g_High), (.slice g_Cells_A g_Cells_n g_Cells_c), (.slice g_Heights_A g_Heights_n g_Heights_c)]), (.slice l_A l_n l_c), (.slice sites_A sites_n sites_c)] σ (fun v1 σ2 => 
    ∃ n3 : Int, ∃ n4 : Int, (v1 = (.tuple #[(.int .i64 n3), (.int .i64 n4)]) ∧ bc (!decide (n4 = 0)) (rt σ2 R (.tuple #[(.slice none 0 0), (.int .i64 n4)])) (wk .i64 (((g_Cells_n : Nat) : Int) - 1) (fun n5 => 
    cl Try.prog (.func (.func 53) #[] #[]) #[(.int .i64 blocked), (.int .i64 0), (.int .i64 n5)] σ2 (fun v6 σ7 => 
    ∃ t8 : Bool, (v6 = (.bool t8) ∧ bc (!t8) (rt σ7 R (.tuple #[(.slice none 0 0), (.int .i64 1)])) (cl Try.prog (.func (.func 19) #[] #[]) #[(.agg #[(.int .i64 g_Wide), (.int .i64 g_High), (.slice g_Cells_A g_Cells_n g_Cells_c), (.slice g_Heights_A g_Heights_n g_Heights_c)]), (.slice l_A l_n l_c), (.slice sites_A sites_n sites_c)] σ7 (fun v9 σ10 => 
    ∃ A11 : Option Addr, ∃ l11 : Nat, ∃ c11 : Nat, (v9 = (.slice A11 l11 c11) ∧ (Hp.Sub σ7 σ10 ∧ adp 4 [.bool] A11 l11 c11 σ10 (fun (xs12 : List Bool) σ13 => 
    exl 4 [.bool] xs12 σ13 (fun A14 l14 c14 σ15 => cl Try.prog (.func (.func 73) #[] #[]) #[(.agg #[(.int .i64 g_Wide), (.int .i64 g_High), (.slice g_Cells_A g_Cells_n g_Cells_c), (.slice g_Heights_A g_Heights_n g_Heights_c)]), (.slice A14 l14 c14), (.int .i64 blocked)] σ15 (fun v16 σ17 => 
    ∃ A18 : Option Addr, ∃ l18 : Nat, ∃ c18 : Nat, (v16 = (.slice A18 l18 c18) ∧ cl Try.prog (.func (.func 69) #[] #[]) #[(.slice A18 l18 c18)] σ17 (fun v19 σ20 => 
    ∃ A21 : Option Addr, ∃ l21 : Nat, ∃ c21 : Nat, (v19 = (.slice A21 l21 c21) ∧ rt σ20 R (.tuple #[(.slice A21 l21 c21), (.int .i64 0)])))))))))))))))))
def M_ref04_Trapped_an : MAn := (.seq (.txt []) (.seq (.seq (.txt []) (.seq (.txt []) (.cond (.seq (.txt []) .leaf) .leaf))) (.seq (.seq (.txt []) (.cond (.seq (.txt []) .leaf) .leaf)) (.seq (.plan [6, 7] (.take 0 ⟨[], false, []⟩ (.take 1 ⟨[], false, []⟩ (.take 2 ⟨[], false, []⟩ (.take 3 ⟨[], false, []⟩ (.take 5 ⟨[], false, []⟩ (.alt 4 true ⟨[], false, [.adl 33 4 [.bool]]⟩ (.alt 6 false ⟨[], false, []⟩ (.alt 7 false ⟨[], false, []⟩ (.take 8 ⟨[], false, []⟩ (.take 9 ⟨[], false, []⟩ .done)) .done) .done) .done))))))) .leaf))))
set_option maxRecDepth 100000 in
theorem M_ref04_Trapped_ok (σ : Hp) (g_Wide : Int) (g_High : Int) (g_Cells_A : Option Addr) (g_Cells_n : Nat) (g_Cells_c : Nat) (g_Heights_A : Option Addr) (g_Heights_n : Nat) (g_Heights_c : Nat) (l_A : Option Addr) (l_n : Nat) (l_c : Nat) (sites_A : Option Addr) (sites_n : Nat) (sites_c : Nat) (blocked : Int) (R : Value → Hp → Prop) (h : M_ref04_Trapped σ g_Wide g_High g_Cells_A g_Cells_n g_Cells_c g_Heights_A g_Heights_n g_Heights_c l_A l_n l_c sites_A sites_n sites_c blocked R) : FCalls Try.prog 37 #[(.agg #[(.int .i64 g_Wide), (.int .i64 g_High), (.slice g_Cells_A g_Cells_n g_Cells_c), (.slice g_Heights_A g_Heights_n g_Heights_c)]), (.slice l_A l_n l_c), (.slice sites_A sites_n sites_c), (.int .i64 blocked)] σ R :=
  fcalls_of_M mixed_M2 M_ref04_Trapped_an Try.func37 rfl (by kernel_rfl) (by kernel_rfl) (M := M_ref04_Trapped σ g_Wide g_High g_Cells_A g_Cells_n g_Cells_c g_Heights_A g_Heights_n g_Heights_c l_A l_n l_c sites_A sites_n sites_c blocked R) (by kernel_rfl) h
theorem M_ref04_Trapped_enter : enterB Try.prog 37 = true := by kernel_rfl

abbrev N_ground_Safe : FuncId := 38
/-- waltzer/ground.Safe -/
def M_ground_Safe (σ : Hp) (g_Wide : Int) (g_High : Int) (g_Cells_A : Option Addr) (g_Cells_n : Nat) (g_Cells_c : Nat) (g_Heights_A : Option Addr) (g_Heights_n : Nat) (g_Heights_c : Nat) (l_A : Option Addr) (l_n : Nat) (l_c : Nat) (sites_A : Option Addr) (sites_n : Nat) (sites_c : Nat) (R : Value → Hp → Prop) : Prop :=
  cl Try.prog (.func (.func 57) #[] #[]) #[(.agg #[(.int .i64 g_Wide), (.int .i64 g_High), (.slice g_Cells_A g_Cells_n g_Cells_c), (.slice g_Heights_A g_Heights_n g_Heights_c)]), (.slice l_A l_n l_c), (.slice sites_A sites_n sites_c)] σ (fun v1 σ2 => 
    ∃ p3 : Option Addr, ∃ n4 : Int, ∃ n5 : Int, (v1 = (.tuple #[(.pointer p3), (.int .i64 n4), (.int .i64 n5)]) ∧ 
    bc (!decide (n5 = 0)) (rt σ2 R (.tuple #[(.int .i64 0), (.int .i64 0), (.bool false), (.int .i64 n5)])) (cut (α := Int → Int → Hp → Prop) (fun n9 n10 σ7 => 
    ∀ _ : Nat → Value, rt σ7 R (.tuple #[(.int .i64 n9), (.int .i64 n10), (.bool (decide (n9 < 0))), (.int .i64 0)])) (fun J8 => 
    dr p3 (fun b11 o12 => ldS σ2 b11 (o12 + 2) (fun _ l13 _ => ∃ I16 : Nat → Int → Int → Int → Hp → Prop, (∃ n170, I16 n170 (-1) (-1) 0 σ2) ∧ 
    ∀ n17 : Nat, ∀ n18 : Int, ∀ n19 : Int, ∀ n20 : Int, ∀ σ15 : Hp, I16 n17 n18 n19 n20 σ15 → ∀ _ : Nat → Value, bc (decide (n20 < ((l13 : Nat) : Int))) (cut (α := Int → Int → Hp → Prop) (fun n24 n25 σ22 => 
    ∀ _ : Nat → Value, wk .i64 (n20 + 1) (fun n26 => bk σ22 n17 (fun m27 σ28 => I16 m27 n24 n25 n26 σ28))) (fun J23 => 
    cl Try.prog (.func (.func 72) #[] #[]) #[(.pointer p3), (.int .i64 n20)] σ15 (fun v29 σ30 => ∃ A31 : Option Addr, ∃ l31 : Nat, ∃ c31 : Nat, (v29 = (.slice A31 l31 c31) ∧ 
    cut (α := Bool → Hp → Prop) (fun t35 σ33 => ∀ _ : Nat → Value, bc t35 (ix A31 l31 0 1 (fun b36 a37 => 
    ldI σ33 .i64 b36 a37 (fun n38 => J23 n38 n20 σ33))) (J23 n18 n19 σ33)) (fun J34 => bc (decide ((0 : Int) < ((l31 : Nat) : Int))) (bc (decide (n18 < 0)) (J34 true σ30) (ix A31 l31 0 1 (fun b39 a40 => 
    ldI σ30 .i64 b39 a40 (fun n41 => J34 (decide (n41 < n18)) σ30)))) (J34 false σ30)))))) (J8 n18 n19 σ15)))))))
def M_ground_Safe_an : MAn := (.seq (.txt []) (.seq (.txt []) (.seq (.seq (.txt []) (.cond (.seq (.txt []) .leaf) .leaf)) (.seq (.txt []) (.cut ⟨[true], 1, [.slot 6 (.sc (.int .i64)), .slot 7 (.sc (.int .i64))], []⟩ (.seq (.txt []) (.block (.loop ⟨[true], 1, [.slot 6 (.sc (.int .i64)), .slot 7 (.sc (.int .i64)), .slot 31 (.sc (.int .i64))], [(10, true), (30, true)]⟩ (.seq (.txt []) (.seq (.cond .leaf .leaf) (.cut ⟨[true], 1, [.slot 6 (.sc (.int .i64)), .slot 7 (.sc (.int .i64))], [(10, true), (30, true), (31, true)]⟩ (.block (.seq (.txt []) (.seq (.txt []) (.cut ⟨[true], 1, [.slot 50 (.sc (.bool))], [(6, true), (7, true), (10, true), (12, true), (13, true), (30, true), (31, true)]⟩ (.txt [⟨[], false, []⟩, ⟨[], false, []⟩, ⟨[], false, []⟩, ⟨[], true, []⟩, ⟨[], false, []⟩, ⟨[], false, []⟩, ⟨[], true, []⟩]) (.cond (.txt []) .leaf))))) (.txt []))))))) (.seq (.txt []) .leaf))))))
set_option maxRecDepth 100000 in
theorem M_ground_Safe_ok (σ : Hp) (g_Wide : Int) (g_High : Int) (g_Cells_A : Option Addr) (g_Cells_n : Nat) (g_Cells_c : Nat) (g_Heights_A : Option Addr) (g_Heights_n : Nat) (g_Heights_c : Nat) (l_A : Option Addr) (l_n : Nat) (l_c : Nat) (sites_A : Option Addr) (sites_n : Nat) (sites_c : Nat) (R : Value → Hp → Prop) (h : M_ground_Safe σ g_Wide g_High g_Cells_A g_Cells_n g_Cells_c g_Heights_A g_Heights_n g_Heights_c l_A l_n l_c sites_A sites_n sites_c R) : FCalls Try.prog 38 #[(.agg #[(.int .i64 g_Wide), (.int .i64 g_High), (.slice g_Cells_A g_Cells_n g_Cells_c), (.slice g_Heights_A g_Heights_n g_Heights_c)]), (.slice l_A l_n l_c), (.slice sites_A sites_n sites_c)] σ R :=
  fcalls_of_M mixed_M2 M_ground_Safe_an Try.func38 rfl (by kernel_rfl) (by kernel_rfl) (M := M_ground_Safe σ g_Wide g_High g_Cells_A g_Cells_n g_Cells_c g_Heights_A g_Heights_n g_Heights_c l_A l_n l_c sites_A sites_n sites_c R) (by kernel_rfl) h
theorem M_ground_Safe_enter : enterB Try.prog 38 = true := by kernel_rfl

abbrev N_ref04_Safe : FuncId := 39
/-- waltzer/waltzerref04.Safe -/
def M_ref04_Safe (σ : Hp) (g_Wide : Int) (g_High : Int) (g_Cells_A : Option Addr) (g_Cells_n : Nat) (g_Cells_c : Nat) (g_Heights_A : Option Addr) (g_Heights_n : Nat) (g_Heights_c : Nat) (l_A : Option Addr) (l_n : Nat) (l_c : Nat) (sites_A : Option Addr) (sites_n : Nat) (sites_c : Nat) (R : Value → Hp → Prop) : Prop :=
  cl Try.prog (.func (.func 18) #[] #[]) #[(.agg #[(.int .i64 g_Wide), (.int .i64 g_High), (.slice g_Cells_A g_Cells_n g_Cells_c), (.slice g_Heights_A g_Heights_n g_Heights_c)]), (.slice l_A l_n l_c), (.slice sites_A sites_n sites_c)] σ (fun v1 σ2 => 
    ∃ n3 : Int, ∃ n4 : Int, (v1 = (.tuple #[(.int .i64 n3), (.int .i64 n4)]) ∧ bc (!decide (n4 = 0)) (rt σ2 R (.tuple #[(.int .i64 0), (.int .i64 0), (.bool false), (.int .i64 n4)])) (cl Try.prog (.func (.func 19) #[] #[]) #[(.agg #[(.int .i64 g_Wide), (.int .i64 g_High), (.slice g_Cells_A g_Cells_n g_Cells_c), (.slice g_Heights_A g_Heights_n g_Heights_c)]), (.slice l_A l_n l_c), (.slice sites_A sites_n sites_c)] σ2 (fun v5 σ6 => 
    ∃ A7 : Option Addr, ∃ l7 : Nat, ∃ c7 : Nat, (v5 = (.slice A7 l7 c7) ∧ adp 4 [.bool] A7 l7 c7 σ6 (fun (xs8 : List Bool) σ9 => 
    cut (α := Hp → Prop) (fun  σ11 => ∀ _ : Nat → Value, rt σ11 R (.tuple #[(.int .i64 (-1)), (.int .i64 (-1)), (.bool true), (.int .i64 0)])) (fun J12 => 
    ∃ I15 : Nat → Int → List Bool → Hp → Prop, (∃ n160, I15 n160 0 xs8 σ9) ∧ ∀ n16 : Nat, ∀ n17 : Int, ∀ xs18 : List Bool, ∀ σ14 : Hp, I15 n16 n17 xs18 σ14 → ∀ _ : Nat → Value, bc (decide (n17 < ((List.length xs18 : Nat) : Int))) (cut (α := List Bool → Hp → Prop) (fun xs22 σ20 => 
    ∀ _ : Nat → Value, wk .i64 (n17 + 1) (fun n23 => bk σ20 n16 (fun m24 σ25 => I15 m24 n23 xs22 σ25))) (fun J21 => 
    ∃ I28 : Nat → List Bool → Int → Hp → Prop, (∃ n290, I28 n290 xs18 0 σ14) ∧ ∀ n29 : Nat, ∀ xs30 : List Bool, ∀ n31 : Int, ∀ σ27 : Hp, I28 n29 xs30 n31 σ27 → ∀ _ : Nat → Value, bc (decide (n31 < ((List.length xs30 : Nat) : Int))) (exl 4 [.bool] xs30 σ27 (fun A32 l32 c32 σ33 => 
    cl Try.prog (.func (.func 73) #[] #[]) #[(.agg #[(.int .i64 g_Wide), (.int .i64 g_High), (.slice g_Cells_A g_Cells_n g_Cells_c), (.slice g_Heights_A g_Heights_n g_Heights_c)]), (.slice A32 l32 c32), (.int .i64 n31)] σ33 (fun v34 σ35 => 
    ∃ A36 : Option Addr, ∃ l36 : Nat, ∃ c36 : Nat, (v34 = (.slice A36 l36 c36) ∧ adp 4 [.bool] A32 l32 c32 σ35 (fun (xs37 : List Bool) σ38 => 
    ix A36 l36 n17 1 (fun b39 a40 => ldB σ38 b39 a40 (fun t41 => bc t41 (rt σ38 R (.tuple #[(.int .i64 n17), (.int .i64 n31), (.bool false), (.int .i64 0)])) (wk .i64 (n31 + 1) (fun n42 => 
    bk σ38 n29 (fun m43 σ44 => I28 m43 xs37 n42 σ44)))))))))) (J21 xs30 σ27))) (J12 σ14))))))))
def M_ref04_Safe_an : MAn := (.seq (.txt []) (.seq (.seq (.txt []) (.seq (.txt []) (.cond (.seq (.txt []) .leaf) .leaf))) (.seq (.txt [⟨[], false, []⟩, ⟨[], false, []⟩, ⟨[], false, []⟩, ⟨[], false, [.adl 28 4 [.bool]]⟩]) (.cut ⟨[true, false], 2, [], []⟩ (.seq (.txt []) (.block (.loop ⟨[true, false], 2, [.slot 3 (.hb 0 0), .slot 12 (.hl 1 0), .slot 13 (.sc (.int .i64)), .modl 1 0 4 [.bool]], []⟩ (.seq (.seq (.txt []) (.cond .leaf .leaf)) (.cut ⟨[true, false], 2, [.slot 3 (.hb 0 0), .slot 12 (.hl 1 0), .modl 1 0 4 [.bool]], [(13, true)]⟩ (.block (.seq (.txt []) (.block (.loop ⟨[true, false], 2, [.slot 3 (.hb 0 0), .slot 12 (.lst 1 4 [.bool]), .slot 14 (.sc (.int .i64))], [(13, true)]⟩ (.seq (.seq (.txt []) (.cond .leaf .leaf)) (.seq (.block (.seq (.txt [⟨[], false, []⟩, ⟨[], false, []⟩, ⟨[], false, []⟩, ⟨[], false, [.adl 12 4 [.bool]]⟩]) (.cond (.seq (.txt []) .leaf) .leaf))) (.txt []))))))) (.txt [])))))) (.seq (.txt []) .leaf)))))
set_option maxRecDepth 100000 in
theorem M_ref04_Safe_ok (σ : Hp) (g_Wide : Int) (g_High : Int) (g_Cells_A : Option Addr) (g_Cells_n : Nat) (g_Cells_c : Nat) (g_Heights_A : Option Addr) (g_Heights_n : Nat) (g_Heights_c : Nat) (l_A : Option Addr) (l_n : Nat) (l_c : Nat) (sites_A : Option Addr) (sites_n : Nat) (sites_c : Nat) (R : Value → Hp → Prop) (h : M_ref04_Safe σ g_Wide g_High g_Cells_A g_Cells_n g_Cells_c g_Heights_A g_Heights_n g_Heights_c l_A l_n l_c sites_A sites_n sites_c R) : FCalls Try.prog 39 #[(.agg #[(.int .i64 g_Wide), (.int .i64 g_High), (.slice g_Cells_A g_Cells_n g_Cells_c), (.slice g_Heights_A g_Heights_n g_Heights_c)]), (.slice l_A l_n l_c), (.slice sites_A sites_n sites_c)] σ R :=
  fcalls_of_M mixed_M2 M_ref04_Safe_an Try.func39 rfl (by kernel_rfl) (by kernel_rfl) (M := M_ref04_Safe σ g_Wide g_High g_Cells_A g_Cells_n g_Cells_c g_Heights_A g_Heights_n g_Heights_c l_A l_n l_c sites_A sites_n sites_c R) (by kernel_rfl) h
theorem M_ref04_Safe_enter : enterB Try.prog 39 = true := by kernel_rfl

abbrev N_ground_Lanes : FuncId := 40
/-- waltzer/ground.Lanes -/
def M_ground_Lanes (σ : Hp) (a0_Wide : Int) (a0_High : Int) (a0_Cells_A : Option Addr) (a0_Cells_n : Nat) (a0_Cells_c : Nat) (a0_Heights_A : Option Addr) (a0_Heights_n : Nat) (a0_Heights_c : Nat) (a1_A : Option Addr) (a1_n : Nat) (a1_c : Nat) (a2_A : Option Addr) (a2_n : Nat) (a2_c : Nat) (a3 : Int) (R : Value → Hp → Prop) : Prop :=
  cl Try.prog (.func (.func 57) #[] #[]) #[(.agg #[(.int .i64 a0_Wide), (.int .i64 a0_High), (.slice a0_Cells_A a0_Cells_n a0_Cells_c), (.slice a0_Heights_A a0_Heights_n a0_Heights_c)]), (.slice a1_A a1_n a1_c), (.slice a2_A a2_n a2_c)] σ (fun v1 σ2 => 
    ∃ p3 : Option Addr, ∃ n4 : Int, ∃ n5 : Int, (v1 = (.tuple #[(.pointer p3), (.int .i64 n4), (.int .i64 n5)]) ∧ 
    bc (!decide (n5 = 0)) (rt σ2 R (.tuple #[(.slice none 0 0), (.int .i64 n5)])) (cl Try.prog (.func (.func 58) #[] #[]) #[(.int .i64 a3), (.int .i64 0), (.int .i64 100)] σ2 (fun v6 σ7 => 
    ∃ t8 : Bool, (v6 = (.bool t8) ∧ bc (!t8) (rt σ7 R (.tuple #[(.slice none 0 0), (.int .i64 1)])) (cl Try.prog (.func (.func 70) #[] #[]) #[(.pointer p3), (.int .i64 (-1))] σ7 (fun v9 σ10 => 
    ∃ A11 : Option Addr, ∃ l11 : Nat, ∃ c11 : Nat, (v9 = (.slice A11 l11 c11) ∧ cut (α := Option Addr → Nat → Nat → Hp → Prop) (fun A15 l15 c15 σ13 => 
    ∀ _ : Nat → Value, rt σ13 R (.tuple #[(.slice A15 l15 c15), (.int .i64 0)])) (fun J14 => dr p3 (fun b16 o17 => 
    ldS σ10 b16 (o17 + 5) (fun A18 l18 _ => ∃ I21 : Nat → Option Addr → Option Addr → Nat → Nat → Option Addr → Option Addr → Int → Hp → Prop, (∃ n220, bx σ10 (.cells #[(.int .i64 a3)] 3) (fun b23 σ24 => 
    bx σ24 (.cells #[(.pointer p3)] 67) (fun b25 σ26 => bx σ26 (.cells #[(.slice A11 l11 c11)] 22) (fun b27 σ28 => 
    I21 n220 (some ⟨b23, 0, none⟩) none 0 0 (some ⟨b25, 0, none⟩) (some ⟨b27, 0, none⟩) 0 σ28)))) ∧ ∀ n22 : Nat, ∀ p29 : Option Addr, ∀ A30 : Option Addr, ∀ l30 : Nat, ∀ c30 : Nat, ∀ p31 : Option Addr, ∀ p32 : Option Addr, ∀ n33 : Int, ∀ σ20 : Hp, I21 n22 p29 A30 l30 c30 p31 p32 n33 σ20 → ∀ _ : Nat → Value, bc (decide (n33 < ((l18 : Nat) : Int))) (cut (α := Option Addr → Nat → Nat → Hp → Prop) (fun A37 l37 c37 σ35 => 
    ∀ _ : Nat → Value, wk .i64 (n33 + 1) (fun n38 => bk σ35 n22 (fun m39 σ40 => I21 m39 p29 A37 l37 c37 p31 p32 n38 σ40))) (fun J36 => 
    ix A18 l18 n33 2 (fun b41 a42 => ldI σ20 .i64 b41 a42 (fun n43 => ldB σ20 b41 (a42 + 1) (fun t44 => dr p31 (fun b45 o46 => 
    ldP σ20 b45 o46 (fun p47 => cl Try.prog (.func (.func 74) #[] #[]) #[(.pointer p47), (.int .i64 n33), (.agg #[(.int .i64 n43), (.bool t44)])] σ20 (fun v48 σ49 => 
    ∃ A50 : Option Addr, ∃ l50 : Nat, ∃ c50 : Nat, ∃ t51 : Bool, (v48 = (.tuple #[(.slice A50 l50 c50), (.bool t51)]) ∧ 
    cut (α := Bool → Hp → Prop) (fun t55 σ53 => ∀ _ : Nat → Value, bc t55 (adp 3 [.int .i64] A30 l30 c30 σ53 (fun (xs56 : List Int) σ57 => 
    roomy (List.length xs56 + List.length ([n33] : List Int)) (exl 3 [.int .i64] (xs56 ++ ([n33] : List Int)) σ57 (fun A58 l58 c58 σ59 => 
    J36 A58 l58 c58 σ59)))) (J36 A30 l30 c30 σ53)) (fun J54 => bc t51 (cl Try.prog (.func (.func 76) #[] #[]) #[(.slice A50 l50 c50), (.func (.func 75) #[] #[(.pointer p31), (.pointer p32), (.pointer p29)])] σ49 (fun v60 σ61 => 
    ∃ t62 : Bool, (v60 = (.bool t62) ∧ J54 (!t62) σ61))) (J54 false σ49))))))))))) (J14 A30 l30 c30 σ20))))))))))))
def M_ground_Lanes_an : MAn := (.seq (.txt []) (.seq (.txt []) (.seq (.seq (.txt []) (.cond (.seq (.txt []) .leaf) .leaf)) (.seq (.seq (.txt []) (.cond (.seq (.txt []) .leaf) .leaf)) (.seq (.txt []) (.cut ⟨[true, false, false, false], 4, [.slot 8 (.sc (.slc))], []⟩ (.seq (.txt []) (.block (.loop ⟨[true, false, false, false], 4, [.slot 7 (.sc (.ptr)), .slot 8 (.sc (.slc)), .slot 10 (.sc (.ptr)), .slot 12 (.sc (.ptr)), .slot 39 (.sc (.int .i64))], [(37, true), (38, true)]⟩ (.seq (.txt []) (.seq (.cond .leaf .leaf) (.cut ⟨[true, false, false, false], 4, [.slot 8 (.sc (.slc))], [(7, true), (10, true), (12, true), (37, true), (38, true), (39, true)]⟩ (.block (.seq (.txt []) (.seq (.txt []) (.seq (.txt []) (.cut ⟨[true, false, false, false, true], 5, [.slot 58 (.sc (.bool))], [(7, true), (8, true), (10, true), (12, true), (13, true), (37, true), (38, true), (39, true)]⟩ (.txt [⟨[], false, []⟩, ⟨[], true, []⟩]) (.cond (.txt []) .leaf)))))) (.txt []))))))) (.seq (.txt []) .leaf)))))))
set_option maxRecDepth 100000 in
theorem M_ground_Lanes_ok (σ : Hp) (a0_Wide : Int) (a0_High : Int) (a0_Cells_A : Option Addr) (a0_Cells_n : Nat) (a0_Cells_c : Nat) (a0_Heights_A : Option Addr) (a0_Heights_n : Nat) (a0_Heights_c : Nat) (a1_A : Option Addr) (a1_n : Nat) (a1_c : Nat) (a2_A : Option Addr) (a2_n : Nat) (a2_c : Nat) (a3 : Int) (R : Value → Hp → Prop) (h : M_ground_Lanes σ a0_Wide a0_High a0_Cells_A a0_Cells_n a0_Cells_c a0_Heights_A a0_Heights_n a0_Heights_c a1_A a1_n a1_c a2_A a2_n a2_c a3 R) : FCalls Try.prog 40 #[(.agg #[(.int .i64 a0_Wide), (.int .i64 a0_High), (.slice a0_Cells_A a0_Cells_n a0_Cells_c), (.slice a0_Heights_A a0_Heights_n a0_Heights_c)]), (.slice a1_A a1_n a1_c), (.slice a2_A a2_n a2_c), (.int .i64 a3)] σ R :=
  fcalls_of_M mixed_M2 M_ground_Lanes_an Try.func40 rfl (by kernel_rfl) (by kernel_rfl) (M := M_ground_Lanes σ a0_Wide a0_High a0_Cells_A a0_Cells_n a0_Cells_c a0_Heights_A a0_Heights_n a0_Heights_c a1_A a1_n a1_c a2_A a2_n a2_c a3 R) (by kernel_rfl) h
theorem M_ground_Lanes_enter : enterB Try.prog 40 = true := by kernel_rfl

abbrev N_ref04_Lanes : FuncId := 41
/-- waltzer/waltzerref04.Lanes -/
def M_ref04_Lanes (σ : Hp) (a0_Wide : Int) (a0_High : Int) (a0_Cells_A : Option Addr) (a0_Cells_n : Nat) (a0_Cells_c : Nat) (a0_Heights_A : Option Addr) (a0_Heights_n : Nat) (a0_Heights_c : Nat) (a1_A : Option Addr) (a1_n : Nat) (a1_c : Nat) (a2_A : Option Addr) (a2_n : Nat) (a2_c : Nat) (a3 : Int) (R : Value → Hp → Prop) : Prop :=
  cl Try.prog (.func (.func 18) #[] #[]) #[(.agg #[(.int .i64 a0_Wide), (.int .i64 a0_High), (.slice a0_Cells_A a0_Cells_n a0_Cells_c), (.slice a0_Heights_A a0_Heights_n a0_Heights_c)]), (.slice a1_A a1_n a1_c), (.slice a2_A a2_n a2_c)] σ (fun v1 σ2 => 
    ∃ n3 : Int, ∃ n4 : Int, (v1 = (.tuple #[(.int .i64 n3), (.int .i64 n4)]) ∧ bc (!decide (n4 = 0)) (rt σ2 R (.tuple #[(.slice none 0 0), (.int .i64 n4)])) (cl Try.prog (.func (.func 53) #[] #[]) #[(.int .i64 a3), (.int .i64 0), (.int .i64 100)] σ2 (fun v5 σ6 => 
    ∃ t7 : Bool, (v5 = (.bool t7) ∧ bc (!t7) (rt σ6 R (.tuple #[(.slice none 0 0), (.int .i64 1)])) (cl Try.prog (.func (.func 19) #[] #[]) #[(.agg #[(.int .i64 a0_Wide), (.int .i64 a0_High), (.slice a0_Cells_A a0_Cells_n a0_Cells_c), (.slice a0_Heights_A a0_Heights_n a0_Heights_c)]), (.slice a1_A a1_n a1_c), (.slice a2_A a2_n a2_c)] σ6 (fun v8 σ9 => 
    ∃ A10 : Option Addr, ∃ l10 : Nat, ∃ c10 : Nat, (v8 = (.slice A10 l10 c10) ∧ (Hp.Sub σ6 σ9 ∧ adp 4 [.bool] A10 l10 c10 σ9 (fun (xs11 : List Bool) σ12 => 
    exl 4 [.bool] xs11 σ12 (fun A13 l13 c13 σ14 => cl Try.prog (.func (.func 71) #[] #[]) #[(.agg #[(.int .i64 a0_Wide), (.int .i64 a0_High), (.slice a0_Cells_A a0_Cells_n a0_Cells_c), (.slice a0_Heights_A a0_Heights_n a0_Heights_c)]), (.slice A13 l13 c13)] σ14 (fun v15 σ16 => 
    ∃ A17 : Option Addr, ∃ l17 : Nat, ∃ c17 : Nat, (v15 = (.slice A17 l17 c17) ∧ adp 3 [.int .i64] A17 l17 c17 σ16 (fun (xs18 : List Int) σ19 => 
    cut (α := Option Addr → Nat → Nat → Hp → Prop) (fun A23 l23 c23 σ21 => ∀ _ : Nat → Value, rt σ21 R (.tuple #[(.slice A23 l23 c23), (.int .i64 0)])) (fun J22 => 
    ∃ I26 : Nat → Option Addr → Nat → Nat → Int → Hp → Prop, (∃ n270, I26 n270 none 0 0 0 σ19) ∧ ∀ n27 : Nat, ∀ A28 : Option Addr, ∀ l28 : Nat, ∀ c28 : Nat, ∀ n29 : Int, ∀ σ25 : Hp, I26 n27 A28 l28 c28 n29 σ25 → ∀ _ : Nat → Value, bc (decide (n29 < ((a1_n : Nat) : Int))) (cut (α := Option Addr → Nat → Nat → Hp → Prop) (fun A33 l33 c33 σ31 => 
    ∀ _ : Nat → Value, wk .i64 (n29 + 1) (fun n34 => bk σ31 n27 (fun m35 σ36 => I26 m35 A33 l33 c33 n34 σ36))) (fun J32 => 
    ix a2_A a2_n n29 2 (fun b37 a38 => ldI σ25 .i64 b37 a38 (fun n39 => bc (decide (n39 < 0)) (J32 A28 l28 c28 σ25) (ix a1_A a1_n n29 5 (fun b40 a41 => 
    ldI σ25 .i64 b40 a41 (fun n42 => ldI σ25 .i64 b40 (a41 + 1) (fun n43 => ldI σ25 .i64 b40 (a41 + 2) (fun n44 => 
    ldI σ25 .i64 b40 (a41 + 3) (fun n45 => ldI σ25 .i64 b40 (a41 + 4) (fun n46 => ix a2_A a2_n n29 2 (fun b47 a48 => 
    ldI σ25 .i64 b47 a48 (fun n49 => ldB σ25 b47 (a48 + 1) (fun t50 => cl Try.prog (.func (.func 78) #[] #[]) #[(.agg #[(.int .i64 a0_Wide), (.int .i64 a0_High), (.slice a0_Cells_A a0_Cells_n a0_Cells_c), (.slice a0_Heights_A a0_Heights_n a0_Heights_c)]), (.agg #[(.int .i64 n42), (.int .i64 n43), (.int .i64 n44), (.int .i64 n45), (.int .i64 n46)]), (.agg #[(.int .i64 n49), (.bool t50)])] σ25 (fun v51 σ52 => 
    ∃ A53 : Option Addr, ∃ l53 : Nat, ∃ c53 : Nat, ∃ t54 : Bool, (v51 = (.tuple #[(.slice A53 l53 c53), (.bool t54)]) ∧ 
    cut (α := Bool → Hp → Prop) (fun t58 σ56 => ∀ _ : Nat → Value, bc (!t58) (adp 3 [.int .i64] A28 l28 c28 σ56 (fun (xs59 : List Int) σ60 => 
    roomy (List.length xs59 + List.length ([n29] : List Int)) (exl 3 [.int .i64] (xs59 ++ ([n29] : List Int)) σ60 (fun A61 l61 c61 σ62 => 
    J32 A61 l61 c61 σ62)))) (J32 A28 l28 c28 σ56)) (fun J57 => ∃ I65 : Nat → Bool → Int → Hp → Prop, (∃ n660, I65 n660 false 0 σ52) ∧ 
    ∀ n66 : Nat, ∀ t67 : Bool, ∀ n68 : Int, ∀ σ64 : Hp, I65 n66 t67 n68 σ64 → ∀ _ : Nat → Value, bc (decide (n68 < ((l53 : Nat) : Int))) (cut (α := Bool → Hp → Prop) (fun t72 σ70 => 
    ∀ _ : Nat → Value, wk .i64 (n68 + 1) (fun n73 => bk σ70 n66 (fun m74 σ75 => I65 m74 t72 n73 σ75))) (fun J71 => 
    ix A53 l53 n68 1 (fun b76 a77 => ldI σ64 .i64 b76 a77 (fun n78 => cl Try.prog (.func (.func 34) #[] #[]) #[(.agg #[(.int .i64 a0_Wide), (.int .i64 a0_High), (.slice a0_Cells_A a0_Cells_n a0_Cells_c), (.slice a0_Heights_A a0_Heights_n a0_Heights_c)]), (.int .i64 n78)] σ64 (fun v79 σ80 => 
    ∃ A81 : Option Addr, ∃ l81 : Nat, ∃ c81 : Nat, (v79 = (.slice A81 l81 c81) ∧ adp 3 [.int .i64] A81 l81 c81 σ80 (fun (xs82 : List Int) σ83 => 
    ∃ I86 : Nat → Bool → Int → Hp → Prop, (∃ n870, I86 n870 t67 0 σ83) ∧ ∀ n87 : Nat, ∀ t88 : Bool, ∀ n89 : Int, ∀ σ85 : Hp, I86 n87 t88 n89 σ85 → ∀ _ : Nat → Value, bc (decide (n89 < ((List.length xs82 : Nat) : Int))) (cut (α := Bool → Hp → Prop) (fun t93 σ91 => 
    ∀ _ : Nat → Value, wk .i64 (n89 + 1) (fun n94 => bk σ91 n87 (fun m95 σ96 => I86 m95 t93 n94 σ96))) (fun J92 => 
    bc t88 (J92 true σ85) ((0 ≤ n89 ∧ n89 < ((List.length xs82 : Nat) : Int) ∧ lat xs82 ((n89 : Int).toNat) (fun r97 => 
    (0 ≤ r97 ∧ r97 < ((List.length xs18 : Nat) : Int) ∧ lat xs18 ((r97 : Int).toNat) (fun r98 => cl Try.prog (.func (.func 53) #[] #[]) #[(.int .i64 r98), (.int .i64 0), (.int .i64 a3)] σ85 (fun v99 σ100 => 
    ∃ t101 : Bool, (v99 = (.bool t101) ∧ J92 t101 σ100))))))))) (J71 t88 σ85)))))))) (J57 t67 σ64)))))))))))))))))) (J22 A28 l28 c28 σ25))))))))))))))))
def M_ref04_Lanes_an : MAn := (.seq (.txt []) (.seq (.seq (.txt []) (.seq (.txt []) (.cond (.seq (.txt []) .leaf) .leaf))) (.seq (.seq (.txt []) (.cond (.seq (.txt []) .leaf) .leaf)) (.seq (.plan [5] (.take 0 ⟨[], false, []⟩ (.take 1 ⟨[], false, []⟩ (.take 2 ⟨[], false, []⟩ (.take 3 ⟨[], false, []⟩ (.alt 4 true ⟨[], false, [.adl 38 4 [.bool]]⟩ (.alt 5 false ⟨[], false, [.adl 39 3 [.int .i64]]⟩ (.take 6 ⟨[], false, []⟩ .done) .done) .done)))))) (.seq (.txt []) (.cut ⟨[true, false, true], 3, [.slot 13 (.sc (.slc))], []⟩ (.seq (.txt []) (.block (.loop ⟨[true, false, true], 3, [.slot 4 (.hb 0 0), .slot 12 (.hl 2 0), .slot 13 (.sc (.slc)), .slot 14 (.sc (.int .i64))], [(1, true), (2, true), (3, true)]⟩ (.seq (.seq (.txt []) (.cond .leaf .leaf)) (.cut ⟨[true, false, true], 3, [.slot 4 (.hb 0 0), .slot 12 (.hl 2 0), .slot 13 (.sc (.slc))], [(1, true), (2, true), (3, true), (14, true)]⟩ (.block (.seq (.seq (.txt []) (.cond .leaf .leaf)) (.seq (.plan [9] (.take 0 ⟨[], false, []⟩ (.take 1 ⟨[], false, []⟩ (.take 2 ⟨[], false, []⟩ (.take 3 ⟨[], false, []⟩ (.take 4 ⟨[], false, []⟩ (.take 5 ⟨[], false, []⟩ (.take 6 ⟨[], false, []⟩ (.take 7 ⟨[], false, []⟩ (.take 8 ⟨[], false, []⟩ (.alt 9 false ⟨[], false, []⟩ (.take 10 ⟨[], false, []⟩ (.take 11 ⟨[], false, []⟩ (.take 12 ⟨[], false, []⟩ (.take 13 ⟨[], false, []⟩ (.take 14 ⟨[], false, []⟩ .done))))) .done))))))))))) (.seq (.txt []) (.cut ⟨[true, false, true], 3, [.slot 4 (.hb 0 0), .slot 12 (.hl 2 0), .slot 17 (.sc (.bool))], [(1, true), (2, true), (3, true), (13, true), (14, true)]⟩ (.seq (.txt []) (.block (.loop ⟨[true, false, true], 3, [.slot 4 (.hb 0 0), .slot 12 (.hl 2 0), .slot 17 (.sc (.bool)), .slot 18 (.sc (.int .i64))], [(1, true), (2, true), (3, true), (13, true), (14, true), (15, true)]⟩ (.seq (.seq (.txt []) (.cond .leaf .leaf)) (.cut ⟨[true, false, true], 3, [.slot 4 (.hb 0 0), .slot 12 (.hl 2 0), .slot 17 (.sc (.bool))], [(1, true), (2, true), (3, true), (13, true), (14, true), (15, true), (18, true)]⟩ (.block (.seq (.plan [5] (.take 0 ⟨[], false, []⟩ (.take 1 ⟨[], false, []⟩ (.take 2 ⟨[], false, []⟩ (.take 3 ⟨[], false, []⟩ (.take 4 ⟨[], false, []⟩ (.alt 5 false ⟨[], false, [.adl 76 3 [.int .i64]]⟩ (.take 6 ⟨[], false, []⟩ .done) .done))))))) (.seq (.txt []) (.block (.loop ⟨[true, false, true, true], 4, [.slot 4 (.hb 0 0), .slot 12 (.hl 2 0), .slot 17 (.sc (.bool)), .slot 19 (.hl 3 0), .slot 20 (.sc (.int .i64))], [(1, true), (2, true), (3, true), (13, true), (14, true), (15, true), (18, true)]⟩ (.seq (.seq (.txt []) (.cond .leaf .leaf)) (.cut ⟨[true, false, true, true], 4, [.slot 4 (.hb 0 0), .slot 12 (.hl 2 0), .slot 17 (.sc (.bool)), .slot 19 (.hl 3 0)], [(1, true), (2, true), (3, true), (13, true), (14, true), (15, true), (18, true), (20, true)]⟩ (.block (.txt [⟨[], false, []⟩, ⟨[], true, []⟩])) (.txt [])))))))) (.txt [])))))) (.seq (.txt []) (.cond (.txt []) .leaf))))))) (.txt [])))))) (.seq (.txt []) .leaf)))))))
set_option maxRecDepth 100000 in
theorem M_ref04_Lanes_ok (σ : Hp) (a0_Wide : Int) (a0_High : Int) (a0_Cells_A : Option Addr) (a0_Cells_n : Nat) (a0_Cells_c : Nat) (a0_Heights_A : Option Addr) (a0_Heights_n : Nat) (a0_Heights_c : Nat) (a1_A : Option Addr) (a1_n : Nat) (a1_c : Nat) (a2_A : Option Addr) (a2_n : Nat) (a2_c : Nat) (a3 : Int) (R : Value → Hp → Prop) (h : M_ref04_Lanes σ a0_Wide a0_High a0_Cells_A a0_Cells_n a0_Cells_c a0_Heights_A a0_Heights_n a0_Heights_c a1_A a1_n a1_c a2_A a2_n a2_c a3 R) : FCalls Try.prog 41 #[(.agg #[(.int .i64 a0_Wide), (.int .i64 a0_High), (.slice a0_Cells_A a0_Cells_n a0_Cells_c), (.slice a0_Heights_A a0_Heights_n a0_Heights_c)]), (.slice a1_A a1_n a1_c), (.slice a2_A a2_n a2_c), (.int .i64 a3)] σ R :=
  fcalls_of_M mixed_M2 M_ref04_Lanes_an Try.func41 rfl (by kernel_rfl) (by kernel_rfl) (M := M_ref04_Lanes σ a0_Wide a0_High a0_Cells_A a0_Cells_n a0_Cells_c a0_Heights_A a0_Heights_n a0_Heights_c a1_A a1_n a1_c a2_A a2_n a2_c a3 R) (by kernel_rfl) h
theorem M_ref04_Lanes_enter : enterB Try.prog 41 = true := by kernel_rfl

abbrev N_ground_Leave : FuncId := 42
/-- waltzer/ground.Leave -/
def M_ground_Leave (σ : Hp) (a0_Wide : Int) (a0_High : Int) (a0_Cells_A : Option Addr) (a0_Cells_n : Nat) (a0_Cells_c : Nat) (a0_Heights_A : Option Addr) (a0_Heights_n : Nat) (a0_Heights_c : Nat) (a1_A : Option Addr) (a1_n : Nat) (a1_c : Nat) (a2_A : Option Addr) (a2_n : Nat) (a2_c : Nat) (a3_A : Option Addr) (a3_n : Nat) (a3_c : Nat) (a4 : Int) (R : Value → Hp → Prop) : Prop :=
  cl Try.prog (.func (.func 57) #[] #[]) #[(.agg #[(.int .i64 a0_Wide), (.int .i64 a0_High), (.slice a0_Cells_A a0_Cells_n a0_Cells_c), (.slice a0_Heights_A a0_Heights_n a0_Heights_c)]), (.slice a1_A a1_n a1_c), (.slice a2_A a2_n a2_c)] σ (fun v1 σ2 => 
    ∃ p3 : Option Addr, ∃ n4 : Int, ∃ n5 : Int, (v1 = (.tuple #[(.pointer p3), (.int .i64 n4), (.int .i64 n5)]) ∧ 
    bc (!decide (n5 = 0)) (rt σ2 R (.tuple #[(.slice none 0 0), (.int .i64 n5)])) (cut (α := Option Addr → Nat → Nat → Hp → Prop) (fun A9 l9 c9 σ7 => 
    ∀ _ : Nat → Value, cut (α := Option Addr → Nat → Nat → Int → Hp → Prop) (fun A13 l13 c13 n14 σ11 => 
    ∀ _ : Nat → Value, cl Try.prog (.func (.func 70) #[] #[]) #[(.pointer p3), (.int .i64 (-1))] σ11 (fun v15 σ16 => 
    ∃ A17 : Option Addr, ∃ l17 : Nat, ∃ c17 : Nat, (v15 = (.slice A17 l17 c17) ∧ bx σ16 (.cells #[(.slice A17 l17 c17)] 22) (fun b18 σ19 => 
    cl Try.prog (.func (.func 68) #[] #[]) #[(.pointer p3), (.func (.func 79) #[] #[(.pointer (some ⟨b18, 0, none⟩))])] σ19 (fun v20 σ21 => 
    ∃ A22 : Option Addr, ∃ l22 : Nat, ∃ c22 : Nat, (v20 = (.slice A22 l22 c22) ∧ cl Try.prog (.func (.func 63) #[] #[]) #[(.slice A22 l22 c22), (.func (.func 80) #[] #[(.pointer (some ⟨b18, 0, none⟩))])] σ21 (fun _ σ24 => 
    cl Try.prog (.func (.func 81) #[] #[]) #[(.slice a3_A a3_n a3_c)] σ24 (fun v25 σ26 => ∃ A27 : Option Addr, ∃ l27 : Nat, ∃ c27 : Nat, (v25 = (.slice A27 l27 c27) ∧ 
    cut (α := Option Addr → Nat → Nat → Hp → Prop) (fun A31 l31 c31 σ29 => ∀ _ : Nat → Value, rt σ29 R (.tuple #[(.slice A31 l31 c31), (.int .i64 0)])) (fun J30 => 
    ∃ I34 : Nat → Option Addr → Nat → Nat → Int → Option Addr → Hp → Prop, (∃ n350, bx σ26 (.cells #[(.slice A27 l27 c27)] 22) (fun b36 σ37 => 
    I34 n350 A13 l13 c13 n14 (some ⟨b36, 0, none⟩) σ37)) ∧ ∀ n35 : Nat, ∀ A38 : Option Addr, ∀ l38 : Nat, ∀ c38 : Nat, ∀ n39 : Int, ∀ p40 : Option Addr, ∀ σ33 : Hp, I34 n35 A38 l38 c38 n39 p40 σ33 → ∀ _ : Nat → Value, cut (α := Hp → Prop) (fun  σ42 => 
    ∀ _ : Nat → Value, cut (α := Int → Hp → Prop) (fun n47 σ45 => ∀ _ : Nat → Value, adp 3 [.int .i64] A38 l38 c38 σ45 (fun (xs48 : List Int) σ49 => 
    roomy (List.length xs48 + List.length ([n47] : List Int)) (bk σ49 n35 (fun m50 σ51 => exl 3 [.int .i64] (xs48 ++ ([n47] : List Int)) σ51 (fun A52 l52 c52 σ53 => 
    I34 m50 A52 l52 c52 n47 p40 σ53))))) (fun J46 => ∃ I56 : Nat → Int → Int → Hp → Prop, (∃ n570, I56 n570 n39 0 σ42) ∧ 
    ∀ n57 : Nat, ∀ n58 : Int, ∀ n59 : Int, ∀ σ55 : Hp, I56 n57 n58 n59 σ55 → ∀ _ : Nat → Value, bc (decide (n59 < ((l22 : Nat) : Int))) (cut (α := Int → Hp → Prop) (fun n63 σ61 => 
    ∀ _ : Nat → Value, wk .i64 (n59 + 1) (fun n64 => bk σ61 n57 (fun m65 σ66 => I56 m65 n63 n64 σ66))) (fun J62 => 
    ix A22 l22 n59 1 (fun b67 a68 => ldI σ55 .i64 b67 a68 (fun n69 => dr p40 (fun b70 o71 => ldS σ55 b70 o71 (fun A72 l72 _ => 
    ix A72 l72 n69 1 (fun b73 a74 => ldI σ55 .i64 b73 a74 (fun n75 => bc (decide (n75 = 0)) (J62 n58 σ55) (ldS σ55 b18 0 (fun A76 l76 _ => 
    ix A76 l76 n69 1 (fun b77 a78 => ldI σ55 .i64 b77 a78 (fun n79 => bc (decide (n79 = 0)) (dr p40 (fun b80 o81 => 
    ldS σ55 b80 o81 (fun A82 l82 _ => ix A82 l82 n69 1 (fun b83 a84 => ldI σ55 .i64 b83 a84 (fun n85 => 
    wk .i64 (n85 - 1) (fun n86 => ix A82 l82 n69 1 (fun b87 a88 => st σ55 b87 a88 (.int .i64 n86) (fun σ89 => 
    wk .i64 (n58 - 1) (fun n90 => J62 n90 σ89))))))))) (cl Try.prog (.func (.func 49) #[] #[]) #[(.pointer p3), (.int .i64 n69)] σ55 (fun v91 σ92 => 
    ∃ A93 : Option Addr, ∃ l93 : Nat, ∃ c93 : Nat, (v91 = (.slice A93 l93 c93) ∧ adp 3 [.int .i64] A93 l93 c93 σ92 (fun (xs94 : List Int) σ95 => 
    bx σ95 (.cells #[(.int .i64 n69)] 3) (fun b96 σ97 => exl 3 [.int .i64] xs94 σ97 (fun A98 l98 c98 σ99 => 
    cl Try.prog (.func (.func 51) #[] #[]) #[(.slice A98 l98 c98), (.func (.func 82) #[] #[(.pointer (some ⟨b18, 0, none⟩)), (.pointer (some ⟨b96, 0, none⟩)), (.pointer p40)])] σ99 (fun v100 σ101 => 
    ∃ n102 : Int, (v100 = (.int .i64 n102) ∧ adp 3 [.int .i64] A98 l98 c98 σ101 (fun (xs103 : List Int) σ104 => 
    bc (decide ((0 : Int) ≤ n102)) (dr p40 (fun b105 o106 => ldS σ104 b105 o106 (fun A107 l107 _ => ldI σ104 .i64 b96 0 (fun n108 => 
    ix A107 l107 n108 1 (fun b109 a110 => ldI σ104 .i64 b109 a110 (fun n111 => wk .i64 (n111 - 1) (fun n112 => 
    ix A107 l107 n108 1 (fun b113 a114 => st σ104 b113 a114 (.int .i64 n112) (fun σ115 => dr p40 (fun b116 o117 => 
    ldS σ115 b116 o117 (fun A118 l118 _ => (0 ≤ n102 ∧ n102 < ((List.length xs103 : Nat) : Int) ∧ lat xs103 ((n102 : Int).toNat) (fun r119 => 
    ix A118 l118 r119 1 (fun b120 a121 => ldI σ115 .i64 b120 a121 (fun n122 => wk .i64 (n122 + 1) (fun n123 => 
    ix A118 l118 r119 1 (fun b124 a125 => st σ115 b124 a125 (.int .i64 n123) (fun σ126 => J62 n58 σ126)))))))))))))))))) (J62 n58 σ104)))))))))))))))))))))) (J46 n58 σ55))) (fun J43 => 
    cut (α := Bool → Hp → Prop) (fun t130 σ128 => ∀ _ : Nat → Value, bc t130 (J43 σ128) (J30 A38 l38 c38 σ128)) (fun J129 => 
    bc (decide (((l38 : Nat) : Int) < a4)) (J129 (decide ((0 : Int) < n39)) σ33) (J129 false σ33))))))))))))) (fun J12 => 
    ∃ I133 : Nat → Option Addr → Nat → Nat → Int → Int → Hp → Prop, (∃ n1340, I133 n1340 A9 l9 c9 0 0 σ7) ∧ 
    ∀ n134 : Nat, ∀ A135 : Option Addr, ∀ l135 : Nat, ∀ c135 : Nat, ∀ n136 : Int, ∀ n137 : Int, ∀ σ132 : Hp, I133 n134 A135 l135 c135 n136 n137 σ132 → ∀ _ : Nat → Value, bc (decide (n137 < ((a3_n : Nat) : Int))) (cut (α := Option Addr → Nat → Nat → Int → Hp → Prop) (fun A141 l141 c141 n142 σ139 => 
    ∀ _ : Nat → Value, wk .i64 (n137 + 1) (fun n143 => bk σ139 n134 (fun m144 σ145 => I133 m144 A141 l141 c141 n142 n143 σ145))) (fun J140 => 
    ix a3_A a3_n n137 1 (fun b146 a147 => ldI σ132 .i64 b146 a147 (fun n148 => cut (α := Option Addr → Nat → Nat → Hp → Prop) (fun A152 l152 c152 σ150 => 
    ∀ _ : Nat → Value, wk .i64 (n136 + n148) (fun n153 => J140 A152 l152 c152 n153 σ150)) (fun J151 => 
    cut (α := Bool → Hp → Prop) (fun t157 σ155 => ∀ _ : Nat → Value, bc t157 (rt σ155 R (.tuple #[(.slice none 0 0), (.int .i64 1)])) (J151 A135 l135 c135 σ155)) (fun J156 => 
    cl Try.prog (.func (.func 58) #[] #[]) #[(.int .i64 n148), (.int .i64 0), (.int .i64 20)] σ132 (fun v158 σ159 => 
    ∃ t160 : Bool, (v158 = (.bool t160) ∧ bc (!t160) (J156 true σ159) (bc (decide ((0 : Int) < n148)) (cl Try.prog (.func (.func 46) #[] #[]) #[(.pointer p3), (.int .i64 n137)] σ159 (fun v161 σ162 => 
    ∃ t163 : Bool, (v161 = (.bool t163) ∧ J156 (!t163) σ162))) (J156 false σ159)))))))))) (J12 A135 l135 c135 n136 σ132))) (fun J8 => 
    cut (α := Bool → Hp → Prop) (fun t167 σ165 => ∀ _ : Nat → Value, bc t167 (rt σ165 R (.tuple #[(.slice none 0 0), (.int .i64 1)])) (J8 none 0 0 σ165)) (fun J166 => 
    bc (!decide (((a3_n : Nat) : Int) = ((a0_Cells_n : Nat) : Int))) (J166 true σ2) (cl Try.prog (.func (.func 58) #[] #[]) #[(.int .i64 a4), (.int .i64 0), (.int .i64 500)] σ2 (fun v168 σ169 => 
    ∃ t170 : Bool, (v168 = (.bool t170) ∧ J166 (!t170) σ169))))))))
def M_ground_Leave_an : MAn := (.seq (.txt []) (.seq (.txt []) (.seq (.seq (.txt []) (.cond (.seq (.txt []) .leaf) .leaf)) (.cut ⟨[true], 1, [.slot 10 (.sc (.slc))], [(3, true), (4, true), (12, true)]⟩ (.cut ⟨[true], 1, [.slot 45 (.sc (.bool))], [(3, true), (4, true), (10, true), (12, true)]⟩ (.txt [⟨[], false, []⟩, ⟨[], false, []⟩, ⟨[], false, []⟩, ⟨[], false, []⟩, ⟨[], false, []⟩, ⟨[], false, []⟩, ⟨[], true, []⟩]) (.cond (.seq (.txt []) .leaf) .leaf)) (.seq (.txt []) (.cut ⟨[true], 1, [.slot 10 (.sc (.slc)), .slot 14 (.sc (.int .i64))], [(3, true), (4, true), (12, true)]⟩ (.seq (.txt []) (.block (.loop ⟨[true], 1, [.slot 10 (.sc (.slc)), .slot 14 (.sc (.int .i64)), .slot 48 (.sc (.int .i64))], [(3, true), (4, true), (12, true), (46, true), (47, true)]⟩ (.seq (.txt []) (.seq (.cond .leaf .leaf) (.cut ⟨[true], 1, [.slot 10 (.sc (.slc)), .slot 14 (.sc (.int .i64))], [(3, true), (4, true), (12, true), (46, true), (47, true), (48, true)]⟩ (.block (.seq (.txt []) (.cut ⟨[true], 1, [.slot 10 (.sc (.slc))], [(3, true), (4, true), (12, true), (14, true), (16, true), (46, true), (47, true), (48, true)]⟩ (.cut ⟨[true], 1, [.slot 65 (.sc (.bool))], [(3, true), (4, true), (10, true), (12, true), (14, true), (16, true), (46, true), (47, true), (48, true)]⟩ (.txt [⟨[], false, []⟩, ⟨[], false, []⟩, ⟨[], false, []⟩, ⟨[], true, []⟩, ⟨[], false, []⟩, ⟨[], false, []⟩, ⟨[], true, []⟩]) (.cond (.seq (.txt []) .leaf) .leaf)) (.txt [])))) (.txt []))))))) (.seq (.txt []) (.seq (.txt []) (.seq (.txt []) (.seq (.txt []) (.cut ⟨[true, false, false], 3, [.slot 10 (.sc (.slc))], []⟩ (.block (.loop ⟨[true, false, false], 3, [.slot 10 (.sc (.slc)), .slot 14 (.sc (.int .i64)), .slot 19 (.sc (.ptr))], [(4, true), (12, true), (17, true), (18, true)]⟩ (.cut ⟨[true, false, false], 3, [], [(4, true), (10, true), (12, true), (14, true), (17, true), (18, true), (19, true)]⟩ (.cut ⟨[true, false, false], 3, [.slot 87 (.sc (.bool))], [(4, true), (10, true), (12, true), (14, true), (17, true), (18, true), (19, true)]⟩ (.txt [⟨[], false, []⟩, ⟨[], false, []⟩, ⟨[], false, []⟩, ⟨[], false, []⟩, ⟨[], true, []⟩]) (.cond .leaf .leaf)) (.block (.cut ⟨[true, false, false], 3, [.slot 14 (.sc (.int .i64))], [(4, true), (10, true), (12, true), (17, true), (18, true), (19, true)]⟩ (.seq (.txt []) (.block (.loop ⟨[true, false, false], 3, [.slot 14 (.sc (.int .i64)), .slot 90 (.sc (.int .i64))], [(4, true), (10, true), (12, true), (17, true), (18, true), (19, true), (88, true), (89, true)]⟩ (.seq (.txt []) (.seq (.cond .leaf .leaf) (.cut ⟨[true, false, false], 3, [.slot 14 (.sc (.int .i64))], [(4, true), (10, true), (12, true), (17, true), (18, true), (19, true), (88, true), (89, true), (90, true)]⟩ (.block (.seq (.txt []) (.seq (.seq (.txt []) (.cond .leaf .leaf)) (.seq (.seq (.txt []) (.cond (.seq (.txt []) (.seq (.txt []) .leaf)) .leaf)) (.seq (.txt [⟨[], false, []⟩, ⟨[], false, []⟩, ⟨[], false, [.adl 114 3 [.int .i64]]⟩]) (.seq (.txt [⟨[], false, []⟩, ⟨[], false, []⟩, ⟨[], false, [.adl 22 3 [.int .i64]]⟩]) (.seq (.txt []) (.cond (.seq (.txt []) (.plan [9] (.take 0 ⟨[], false, []⟩ (.take 1 ⟨[], false, []⟩ (.take 2 ⟨[], false, []⟩ (.take 3 ⟨[], false, []⟩ (.take 4 ⟨[], false, []⟩ (.take 5 ⟨[], false, []⟩ (.take 6 ⟨[], false, []⟩ (.take 7 ⟨[], false, []⟩ (.take 8 ⟨[], false, []⟩ (.alt 9 false ⟨[], false, []⟩ .done .done)))))))))))) .leaf)))))))) (.txt []))))))) (.txt [])))))) (.seq (.txt []) .leaf))))))))))))
set_option maxRecDepth 100000 in
theorem M_ground_Leave_ok (σ : Hp) (a0_Wide : Int) (a0_High : Int) (a0_Cells_A : Option Addr) (a0_Cells_n : Nat) (a0_Cells_c : Nat) (a0_Heights_A : Option Addr) (a0_Heights_n : Nat) (a0_Heights_c : Nat) (a1_A : Option Addr) (a1_n : Nat) (a1_c : Nat) (a2_A : Option Addr) (a2_n : Nat) (a2_c : Nat) (a3_A : Option Addr) (a3_n : Nat) (a3_c : Nat) (a4 : Int) (R : Value → Hp → Prop) (h : M_ground_Leave σ a0_Wide a0_High a0_Cells_A a0_Cells_n a0_Cells_c a0_Heights_A a0_Heights_n a0_Heights_c a1_A a1_n a1_c a2_A a2_n a2_c a3_A a3_n a3_c a4 R) : FCalls Try.prog 42 #[(.agg #[(.int .i64 a0_Wide), (.int .i64 a0_High), (.slice a0_Cells_A a0_Cells_n a0_Cells_c), (.slice a0_Heights_A a0_Heights_n a0_Heights_c)]), (.slice a1_A a1_n a1_c), (.slice a2_A a2_n a2_c), (.slice a3_A a3_n a3_c), (.int .i64 a4)] σ R :=
  fcalls_of_M mixed_M2 M_ground_Leave_an Try.func42 rfl (by kernel_rfl) (by kernel_rfl) (M := M_ground_Leave σ a0_Wide a0_High a0_Cells_A a0_Cells_n a0_Cells_c a0_Heights_A a0_Heights_n a0_Heights_c a1_A a1_n a1_c a2_A a2_n a2_c a3_A a3_n a3_c a4 R) (by kernel_rfl) h
theorem M_ground_Leave_enter : enterB Try.prog 42 = true := by kernel_rfl

abbrev N_ref04_Leave : FuncId := 43
/-- waltzer/waltzerref04.Leave -/
def M_ref04_Leave (σ : Hp) (a0_Wide : Int) (a0_High : Int) (a0_Cells_A : Option Addr) (a0_Cells_n : Nat) (a0_Cells_c : Nat) (a0_Heights_A : Option Addr) (a0_Heights_n : Nat) (a0_Heights_c : Nat) (a1_A : Option Addr) (a1_n : Nat) (a1_c : Nat) (a2_A : Option Addr) (a2_n : Nat) (a2_c : Nat) (a3_A : Option Addr) (a3_n : Nat) (_ : Nat) (a4 : Int) (R : Value → Hp → Prop) : Prop :=
  cl Try.prog (.func (.func 18) #[] #[]) #[(.agg #[(.int .i64 a0_Wide), (.int .i64 a0_High), (.slice a0_Cells_A a0_Cells_n a0_Cells_c), (.slice a0_Heights_A a0_Heights_n a0_Heights_c)]), (.slice a1_A a1_n a1_c), (.slice a2_A a2_n a2_c)] σ (fun v1 σ2 => 
    ∃ n3 : Int, ∃ n4 : Int, (v1 = (.tuple #[(.int .i64 n3), (.int .i64 n4)]) ∧ bc (!decide (n4 = 0)) (rt σ2 R (.tuple #[(.slice none 0 0), (.int .i64 n4)])) (cl Try.prog (.func (.func 19) #[] #[]) #[(.agg #[(.int .i64 a0_Wide), (.int .i64 a0_High), (.slice a0_Cells_A a0_Cells_n a0_Cells_c), (.slice a0_Heights_A a0_Heights_n a0_Heights_c)]), (.slice a1_A a1_n a1_c), (.slice a2_A a2_n a2_c)] σ2 (fun v5 σ6 => 
    ∃ A7 : Option Addr, ∃ l7 : Nat, ∃ c7 : Nat, (v5 = (.slice A7 l7 c7) ∧ adp 4 [.bool] A7 l7 c7 σ6 (fun (xs8 : List Bool) σ9 => 
    cut (α := Hp → Prop) (fun  σ11 => ∀ _ : Nat → Value, cut (α := Hp → Prop) (fun  σ14 => ∀ _ : Nat → Value, 
    exl 4 [.bool] xs8 σ14 (fun A16 l16 c16 σ17 => cl Try.prog (.func (.func 71) #[] #[]) #[(.agg #[(.int .i64 a0_Wide), (.int .i64 a0_High), (.slice a0_Cells_A a0_Cells_n a0_Cells_c), (.slice a0_Heights_A a0_Heights_n a0_Heights_c)]), (.slice A16 l16 c16)] σ17 (fun v18 σ19 => 
    ∃ A20 : Option Addr, ∃ l20 : Nat, ∃ c20 : Nat, (v18 = (.slice A20 l20 c20) ∧ adp 3 [.int .i64] A20 l20 c20 σ19 (fun (xs21 : List Int) σ22 => 
    adp 4 [.bool] A16 l16 c16 σ22 (fun (xs23 : List Bool) σ24 => adp 3 [.int .i64] none 0 0 σ24 (fun (xs25 : List Int) σ26 => 
    ∃ ys27 : List Int, RdS [.int .i64] σ26 a3_A a3_n ys27 ∧ roomy (List.length xs25 + List.length ys27) (cut (α := List Int → Hp → Prop) (fun xs31 σ29 => 
    ∀ _ : Nat → Value, exl 3 [.int .i64] xs31 σ29 (fun A32 l32 c32 σ33 => rt σ33 R (.tuple #[(.slice A32 l32 c32), (.int .i64 0)]))) (fun J30 => 
    ∃ I36 : Nat → List Int → List Int → Int → List Int → Hp → Prop, (∃ n370, adp 3 [.int .i64] none 0 0 σ26 (fun (xs38 : List Int) σ39 => 
    I36 n370 (xs25 ++ ys27) xs38 0 xs21 σ39)) ∧ ∀ n37 : Nat, ∀ xs40 : List Int, ∀ xs41 : List Int, ∀ n42 : Int, ∀ xs43 : List Int, ∀ σ35 : Hp, I36 n37 xs40 xs41 n42 xs43 σ35 → ∀ _ : Nat → Value, cut (α := List Int → Hp → Prop) (fun xs47 σ45 => 
    ∀ _ : Nat → Value, cut (α := List Int → List Int → List Int → Hp → Prop) (fun xs51 xs52 xs53 σ49 => 
    ∀ _ : Nat → Value, wk .i64 (n42 + 1) (fun n54 => bk σ49 n37 (fun m55 σ56 => I36 m55 xs51 xs52 n54 xs53 σ56))) (fun J50 => 
    cut (α := List Int → List Int → Hp → Prop) (fun xs60 xs61 σ58 => ∀ _ : Nat → Value, exl 3 [.int .i64] xs61 σ58 (fun A62 l62 c62 σ63 => 
    cl Try.prog (.func (.func 83) #[] #[]) #[(.slice A62 l62 c62)] σ63 (fun v64 σ65 => ∃ n66 : Int, (v64 = (.int .i64 n66) ∧ 
    adp 3 [.int .i64] A62 l62 c62 σ65 (fun (xs67 : List Int) σ68 => roomy (List.length xs41 + List.length ([n66] : List Int)) (J50 xs67 (xs41 ++ ([n66] : List Int)) xs60 σ68)))))) (fun J59 => 
    ∃ I71 : Nat → Int → List Int → List Int → Hp → Prop, (∃ n720, I71 n720 0 xs43 xs47 σ45) ∧ ∀ n72 : Nat, ∀ n73 : Int, ∀ xs74 : List Int, ∀ xs75 : List Int, ∀ σ70 : Hp, I71 n72 n73 xs74 xs75 σ70 → ∀ _ : Nat → Value, bc (decide (n73 < ((List.length xs23 : Nat) : Int))) (cut (α := List Int → List Int → Hp → Prop) (fun xs79 xs80 σ77 => 
    ∀ _ : Nat → Value, wk .i64 (n73 + 1) (fun n81 => bk σ77 n72 (fun m82 σ83 => I71 m82 n81 xs79 xs80 σ83))) (fun J78 => 
    ∃ I86 : Nat → Int → List Int → List Int → Hp → Prop, (∃ n870, I86 n870 0 xs74 xs75 σ70) ∧ ∀ n87 : Nat, ∀ n88 : Int, ∀ xs89 : List Int, ∀ xs90 : List Int, ∀ σ85 : Hp, I86 n87 n88 xs89 xs90 σ85 → ∀ _ : Nat → Value, bc (decide (n88 < ((List.length xs23 : Nat) : Int))) (cut (α := List Int → List Int → Hp → Prop) (fun xs94 xs95 σ92 => 
    ∀ _ : Nat → Value, wk .i64 (n88 + 1) (fun n96 => bk σ92 n87 (fun m97 σ98 => I86 m97 n96 xs94 xs95 σ98))) (fun J93 => 
    (0 ≤ n88 ∧ n88 < ((List.length xs89 : Nat) : Int) ∧ lat xs89 ((n88 : Int).toNat) (fun r99 => bc (decide (r99 = n73)) (exl 3 [.int .i64] xs89 σ85 (fun A100 l100 c100 σ101 => 
    exl 3 [.int .i64] xs90 σ101 (fun A102 l102 c102 σ103 => cl Try.prog (.func (.func 84) #[] #[]) #[(.agg #[(.int .i64 a0_Wide), (.int .i64 a0_High), (.slice a0_Cells_A a0_Cells_n a0_Cells_c), (.slice a0_Heights_A a0_Heights_n a0_Heights_c)]), (.slice A100 l100 c100), (.slice A102 l102 c102), (.int .i64 n88)] σ103 (fun _ σ105 => 
    adp 3 [.int .i64] A100 l100 c100 σ105 (fun (xs106 : List Int) σ107 => adp 3 [.int .i64] A102 l102 c102 σ107 (fun (xs108 : List Int) σ109 => 
    J93 xs106 xs108 σ109)))))) (J93 xs89 xs90 σ85))))) (J78 xs89 xs90 σ85))) (J59 xs74 xs75 σ70)))) (fun J46 => 
    cut (α := List Int → Bool → Hp → Prop) (fun xs113 t114 σ111 => ∀ _ : Nat → Value, bc t114 (J46 xs113 σ111) (J30 xs41 σ111)) (fun J112 => 
    bc (decide (n42 < a4)) (exl 3 [.int .i64] xs40 σ35 (fun A115 l115 c115 σ116 => cl Try.prog (.func (.func 83) #[] #[]) #[(.slice A115 l115 c115)] σ116 (fun v117 σ118 => 
    ∃ n119 : Int, (v117 = (.int .i64 n119) ∧ adp 3 [.int .i64] A115 l115 c115 σ118 (fun (xs120 : List Int) σ121 => 
    J112 xs120 (decide ((0 : Int) < n119)) σ121))))) (J112 xs40 false σ35)))))))))))) (fun J15 => ∃ I124 : Nat → Int → Hp → Prop, (∃ n1250, I124 n1250 0 σ11) ∧ 
    ∀ n125 : Nat, ∀ n126 : Int, ∀ σ123 : Hp, I124 n125 n126 σ123 → ∀ _ : Nat → Value, bc (decide (n126 < ((List.length xs8 : Nat) : Int))) (cut (α := Hp → Prop) (fun  σ128 => 
    ∀ _ : Nat → Value, wk .i64 (n126 + 1) (fun n130 => bk σ128 n125 (fun m131 σ132 => I124 m131 n130 σ132))) (fun J129 => 
    cut (α := Bool → Hp → Prop) (fun t136 σ134 => ∀ _ : Nat → Value, bc t136 (rt σ134 R (.tuple #[(.slice none 0 0), (.int .i64 1)])) (J129 σ134)) (fun J135 => 
    ix a3_A a3_n n126 1 (fun b137 a138 => ldI σ123 .i64 b137 a138 (fun n139 => cl Try.prog (.func (.func 53) #[] #[]) #[(.int .i64 n139), (.int .i64 0), (.int .i64 20)] σ123 (fun v140 σ141 => 
    ∃ t142 : Bool, (v140 = (.bool t142) ∧ bc (!t142) (J135 true σ141) (ix a3_A a3_n n126 1 (fun b143 a144 => 
    ldI σ141 .i64 b143 a144 (fun n145 => bc (decide ((0 : Int) < n145)) ((0 ≤ n126 ∧ n126 < ((List.length xs8 : Nat) : Int) ∧ 
    lat xs8 ((n126 : Int).toNat) (fun r146 => J135 (!r146) σ141))) (J135 false σ141))))))))))) (J15 σ123))) (fun J12 => 
    cut (α := Bool → Hp → Prop) (fun t150 σ148 => ∀ _ : Nat → Value, bc t150 (rt σ148 R (.tuple #[(.slice none 0 0), (.int .i64 1)])) (J12 σ148)) (fun J149 => 
    bc (!decide (((a3_n : Nat) : Int) = ((List.length xs8 : Nat) : Int))) (J149 true σ9) (cl Try.prog (.func (.func 53) #[] #[]) #[(.int .i64 a4), (.int .i64 0), (.int .i64 500)] σ9 (fun v151 σ152 => 
    ∃ t153 : Bool, (v151 = (.bool t153) ∧ J149 (!t153) σ152)))))))))))
def M_ref04_Leave_an : MAn := (.seq (.txt []) (.seq (.seq (.txt []) (.seq (.txt []) (.cond (.seq (.txt []) .leaf) .leaf))) (.seq (.txt [⟨[], false, []⟩, ⟨[], false, []⟩, ⟨[], false, []⟩, ⟨[], false, [.adl 35 4 [.bool]]⟩]) (.cut ⟨[true, true], 2, [.slot 5 (.hb 0 0), .slot 14 (.hl 1 0)], [(3, true), (4, true)]⟩ (.cut ⟨[true, true], 2, [.slot 5 (.hb 0 0), .slot 14 (.hl 1 0), .slot 45 (.sc (.bool))], [(3, true), (4, true)]⟩ (.txt [⟨[], false, []⟩, ⟨[], false, []⟩, ⟨[], false, []⟩, ⟨[], false, []⟩, ⟨[], false, []⟩, ⟨[], true, []⟩]) (.cond (.seq (.txt []) .leaf) .leaf)) (.cut ⟨[true, true], 2, [.slot 5 (.hb 0 0), .slot 14 (.hl 1 0)], [(3, true), (4, true)]⟩ (.seq (.txt []) (.block (.loop ⟨[true, true], 2, [.slot 5 (.hb 0 0), .slot 14 (.hl 1 0), .slot 15 (.sc (.int .i64))], [(3, true), (4, true)]⟩ (.seq (.seq (.txt []) (.cond .leaf .leaf)) (.cut ⟨[true, true], 2, [.slot 5 (.hb 0 0), .slot 14 (.hl 1 0)], [(3, true), (4, true), (15, true)]⟩ (.block (.cut ⟨[true, true], 2, [.slot 5 (.hb 0 0), .slot 14 (.hl 1 0), .slot 71 (.sc (.bool))], [(3, true), (4, true), (15, true)]⟩ (.txt [⟨[], false, []⟩, ⟨[], false, []⟩, ⟨[], false, []⟩, ⟨[], false, []⟩, ⟨[], false, []⟩, ⟨[], false, []⟩, ⟨[], true, []⟩, ⟨[], false, []⟩, ⟨[], false, []⟩, ⟨[], false, []⟩, ⟨[], false, []⟩, ⟨[], false, []⟩, ⟨[], true, []⟩]) (.cond (.seq (.txt []) .leaf) .leaf))) (.txt [])))))) (.seq (.txt [⟨[], false, []⟩, ⟨[], false, []⟩, ⟨[], false, [.adl 74 3 [.int .i64], .adl 14 4 [.bool]]⟩]) (.seq (.txt []) (.seq (.txt []) (.cut ⟨[true, false, false, true, false], 6, [.slot 18 (.lst 5 3 [.int .i64])], []⟩ (.seq (.txt []) (.block (.loop ⟨[true, false, false, true, false], 6, [.slot 5 (.hb 0 0), .slot 14 (.hl 3 0), .slot 16 (.hl 2 0), .slot 17 (.lst 4 3 [.int .i64]), .slot 18 (.lst 5 3 [.int .i64]), .slot 19 (.sc (.int .i64)), .modl 2 0 3 [.int .i64]], [(4, true)]⟩ (.cut ⟨[true, false, true, true, false, true], 6, [.slot 5 (.hb 0 0), .slot 14 (.hl 3 0), .slot 16 (.hl 2 0), .slot 17 (.hl 4 0), .slot 18 (.hl 5 0), .modl 4 0 3 [.int .i64]], [(4, true), (19, true)]⟩ (.cut ⟨[true, false, true, true, false, true], 6, [.slot 5 (.hb 0 0), .slot 14 (.hl 3 0), .slot 16 (.hl 2 0), .slot 17 (.lst 4 3 [.int .i64]), .slot 18 (.hl 5 0), .slot 84 (.sc (.bool))], [(4, true), (19, true)]⟩ (.txt [⟨[], false, []⟩, ⟨[], false, []⟩, ⟨[], false, []⟩, ⟨[], true, []⟩, ⟨[], false, []⟩, ⟨[], false, [.adl 17 3 [.int .i64]]⟩]) (.cond .leaf .leaf)) (.cut ⟨[true, false, false, true, false, false], 7, [.slot 5 (.hb 0 0), .slot 14 (.hl 3 0), .slot 16 (.hl 2 0), .slot 17 (.lst 6 3 [.int .i64]), .slot 18 (.lst 5 3 [.int .i64]), .modl 2 0 3 [.int .i64]], [(4, true), (19, true)]⟩ (.block (.cut ⟨[true, false, false, true, false, true], 6, [.slot 5 (.hb 0 0), .slot 14 (.hl 3 0), .slot 16 (.hl 2 0), .slot 17 (.hl 4 0), .slot 18 (.hl 5 0), .modl 2 0 3 [.int .i64], .modl 4 0 3 [.int .i64]], [(4, true), (19, true)]⟩ (.seq (.txt []) (.block (.loop ⟨[true, false, false, true, false, true], 6, [.slot 5 (.hb 0 0), .slot 14 (.hl 3 0), .slot 16 (.hl 2 0), .slot 17 (.hl 4 0), .slot 18 (.hl 5 0), .slot 20 (.sc (.int .i64)), .modl 2 0 3 [.int .i64], .modl 4 0 3 [.int .i64]], [(4, true), (19, true)]⟩ (.seq (.seq (.txt []) (.cond .leaf .leaf)) (.cut ⟨[true, false, false, true, false, true], 6, [.slot 5 (.hb 0 0), .slot 14 (.hl 3 0), .slot 16 (.hl 2 0), .slot 17 (.hl 4 0), .slot 18 (.hl 5 0), .modl 2 0 3 [.int .i64], .modl 4 0 3 [.int .i64]], [(4, true), (19, true), (20, true)]⟩ (.block (.seq (.txt []) (.block (.loop ⟨[true, false, false, true, false, true], 6, [.slot 5 (.hb 0 0), .slot 14 (.hl 3 0), .slot 16 (.hl 2 0), .slot 17 (.hl 4 0), .slot 18 (.hl 5 0), .slot 21 (.sc (.int .i64)), .modl 2 0 3 [.int .i64], .modl 4 0 3 [.int .i64]], [(4, true), (19, true), (20, true)]⟩ (.seq (.seq (.txt []) (.cond .leaf .leaf)) (.cut ⟨[true, false, false, true, false, true], 6, [.slot 5 (.hb 0 0), .slot 14 (.hl 3 0), .slot 16 (.lst 2 3 [.int .i64]), .slot 17 (.lst 4 3 [.int .i64]), .slot 18 (.hl 5 0)], [(4, true), (19, true), (20, true), (21, true)]⟩ (.block (.seq (.txt []) (.cond (.txt [⟨[], false, []⟩, ⟨[], false, []⟩, ⟨[], false, []⟩, ⟨[], false, []⟩, ⟨[], false, [.adl 16 3 [.int .i64], .adl 17 3 [.int .i64]]⟩]) .leaf))) (.txt []))))))) (.txt [])))))) (.txt [⟨[], false, []⟩, ⟨[], false, []⟩, ⟨[], false, [.adl 17 3 [.int .i64]]⟩]))) (.txt [])))))) (.seq (.txt []) .leaf))))))))))
set_option maxRecDepth 100000 in
theorem M_ref04_Leave_ok (σ : Hp) (a0_Wide : Int) (a0_High : Int) (a0_Cells_A : Option Addr) (a0_Cells_n : Nat) (a0_Cells_c : Nat) (a0_Heights_A : Option Addr) (a0_Heights_n : Nat) (a0_Heights_c : Nat) (a1_A : Option Addr) (a1_n : Nat) (a1_c : Nat) (a2_A : Option Addr) (a2_n : Nat) (a2_c : Nat) (a3_A : Option Addr) (a3_n : Nat) (a3_c : Nat) (a4 : Int) (R : Value → Hp → Prop) (h : M_ref04_Leave σ a0_Wide a0_High a0_Cells_A a0_Cells_n a0_Cells_c a0_Heights_A a0_Heights_n a0_Heights_c a1_A a1_n a1_c a2_A a2_n a2_c a3_A a3_n a3_c a4 R) : FCalls Try.prog 43 #[(.agg #[(.int .i64 a0_Wide), (.int .i64 a0_High), (.slice a0_Cells_A a0_Cells_n a0_Cells_c), (.slice a0_Heights_A a0_Heights_n a0_Heights_c)]), (.slice a1_A a1_n a1_c), (.slice a2_A a2_n a2_c), (.slice a3_A a3_n a3_c), (.int .i64 a4)] σ R :=
  fcalls_of_M mixed_M2 M_ref04_Leave_an Try.func43 rfl (by kernel_rfl) (by kernel_rfl) (M := M_ref04_Leave σ a0_Wide a0_High a0_Cells_A a0_Cells_n a0_Cells_c a0_Heights_A a0_Heights_n a0_Heights_c a1_A a1_n a1_c a2_A a2_n a2_c a3_A a3_n a3_c a4 R) (by kernel_rfl) h
theorem M_ref04_Leave_enter : enterB Try.prog 43 = true := by kernel_rfl

abbrev N_ground_withCell : FuncId := 45
/-- waltzer/ground.withCell -/
def M_ground_withCell (σ : Hp) (g_Wide : Int) (g_High : Int) (g_Cells_A : Option Addr) (g_Cells_n : Nat) (g_Cells_c : Nat) (g_Heights_A : Option Addr) (g_Heights_n : Nat) (g_Heights_c : Nat) (l_A : Option Addr) (l_n : Nat) (l_c : Nat) (sites_A : Option Addr) (sites_n : Nat) (sites_c : Nat) (cells_A : Option Addr) (cells_n : Nat) (cells_c : Nat) (R : Value → Hp → Prop) : Prop :=
  cl Try.prog (.func (.func 57) #[] #[]) #[(.agg #[(.int .i64 g_Wide), (.int .i64 g_High), (.slice g_Cells_A g_Cells_n g_Cells_c), (.slice g_Heights_A g_Heights_n g_Heights_c)]), (.slice l_A l_n l_c), (.slice sites_A sites_n sites_c)] σ (fun v1 σ2 => 
    ∃ p3 : Option Addr, ∃ n4 : Int, ∃ n5 : Int, (v1 = (.tuple #[(.pointer p3), (.int .i64 n4), (.int .i64 n5)]) ∧ 
    bc (!decide (n5 = 0)) (rt σ2 R (.tuple #[(.pointer none), (.int .i64 n5)])) (bx σ2 (.cells #[(.int .i64 g_Wide), (.int .i64 g_High), (.slice g_Cells_A g_Cells_n g_Cells_c), (.slice g_Heights_A g_Heights_n g_Heights_c)] 24) (fun b6 σ7 => 
    cl Try.prog (.func (.func 76) #[] #[]) #[(.slice cells_A cells_n cells_c), (.func (.func 85) #[] #[(.pointer (some ⟨b6, 0, none⟩))])] σ7 (fun v8 σ9 => 
    ∃ t10 : Bool, (v8 = (.bool t10) ∧ bc t10 (rt σ9 R (.tuple #[(.pointer none), (.int .i64 1)])) (rt σ9 R (.tuple #[(.pointer p3), (.int .i64 0)]))))))))
def M_ground_withCell_an : MAn := (.seq (.txt []) (.seq (.txt []) (.seq (.seq (.txt []) (.cond (.seq (.txt []) .leaf) .leaf)) (.seq (.seq (.txt []) (.cond (.seq (.txt []) .leaf) .leaf)) (.seq (.txt []) .leaf)))))
set_option maxRecDepth 100000 in
theorem M_ground_withCell_ok (σ : Hp) (g_Wide : Int) (g_High : Int) (g_Cells_A : Option Addr) (g_Cells_n : Nat) (g_Cells_c : Nat) (g_Heights_A : Option Addr) (g_Heights_n : Nat) (g_Heights_c : Nat) (l_A : Option Addr) (l_n : Nat) (l_c : Nat) (sites_A : Option Addr) (sites_n : Nat) (sites_c : Nat) (cells_A : Option Addr) (cells_n : Nat) (cells_c : Nat) (R : Value → Hp → Prop) (h : M_ground_withCell σ g_Wide g_High g_Cells_A g_Cells_n g_Cells_c g_Heights_A g_Heights_n g_Heights_c l_A l_n l_c sites_A sites_n sites_c cells_A cells_n cells_c R) : FCalls Try.prog 45 #[(.agg #[(.int .i64 g_Wide), (.int .i64 g_High), (.slice g_Cells_A g_Cells_n g_Cells_c), (.slice g_Heights_A g_Heights_n g_Heights_c)]), (.slice l_A l_n l_c), (.slice sites_A sites_n sites_c), (.slice cells_A cells_n cells_c)] σ R :=
  fcalls_of_M mixed_M2 M_ground_withCell_an Try.func45 rfl (by kernel_rfl) (by kernel_rfl) (M := M_ground_withCell σ g_Wide g_High g_Cells_A g_Cells_n g_Cells_c g_Heights_A g_Heights_n g_Heights_c l_A l_n l_c sites_A sites_n sites_c cells_A cells_n cells_c R) (by kernel_rfl) h
theorem M_ground_withCell_enter : enterB Try.prog 45 = true := by kernel_rfl

abbrev N_ref04_Neighbours : FuncId := 34
/-- waltzer/waltzerref04.Neighbours -/
def M_ref04_Neighbours (σ : Hp) (g_Wide : Int) (g_High : Int) (_ : Option Addr) (_ : Nat) (_ : Nat) (_ : Option Addr) (_ : Nat) (_ : Nat) (cell : Int) (R : Value → Hp → Prop) : Prop :=
  (g_Wide ≠ 0 ∧ (g_Wide ≠ 0 ∧ wk .i64 (Int.tdiv cell g_Wide) (fun n1 => cut (α := List Int → Hp → Prop) (fun xs5 σ3 => 
    ∀ _ : Nat → Value, cut (α := List Int → Hp → Prop) (fun xs9 σ7 => ∀ _ : Nat → Value, cut (α := List Int → Hp → Prop) (fun xs13 σ11 => 
    ∀ _ : Nat → Value, cut (α := List Int → Hp → Prop) (fun xs17 σ15 => ∀ _ : Nat → Value, exl 3 [.int .i64] xs17 σ15 (fun A18 l18 c18 σ19 => 
    rt σ19 R (.slice A18 l18 c18))) (fun J16 => wk .i64 (n1 + 1) (fun n20 => bc (decide (n20 < g_High)) (wk .i64 (cell + g_Wide) (fun n21 => 
    roomy (List.length xs13 + List.length ([n21] : List Int)) (J16 (xs13 ++ ([n21] : List Int)) σ11))) (J16 xs13 σ11)))) (fun J12 => 
    wk .i64 ((Int.tmod cell g_Wide) + 1) (fun n22 => bc (decide (n22 < g_Wide)) (wk .i64 (cell + 1) (fun n23 => 
    roomy (List.length xs9 + List.length ([n23] : List Int)) (J12 (xs9 ++ ([n23] : List Int)) σ7))) (J12 xs9 σ7)))) (fun J8 => 
    bc (decide ((0 : Int) < (Int.tmod cell g_Wide))) (wk .i64 (cell - 1) (fun n24 => roomy (List.length xs5 + List.length ([n24] : List Int)) (J8 (xs5 ++ ([n24] : List Int)) σ3))) (J8 xs5 σ3))) (fun J4 => 
    bc (decide ((0 : Int) < n1)) (wk .i64 (cell - g_Wide) (fun n25 => adp 3 [.int .i64] none 0 0 σ (fun (xs26 : List Int) σ27 => 
    roomy (List.length xs26 + List.length ([n25] : List Int)) (J4 (xs26 ++ ([n25] : List Int)) σ27)))) (adp 3 [.int .i64] none 0 0 σ (fun (xs28 : List Int) σ29 => 
    J4 xs28 σ29))))))
def M_ref04_Neighbours_an : MAn := (.seq (.txt []) (.seq (.txt []) (.seq (.plan [] (.take 0 ⟨[], false, []⟩ (.take 1 ⟨[], false, []⟩ (.take 2 ⟨[], false, []⟩ (.take 3 ⟨[], false, []⟩ (.take 4 ⟨[], false, []⟩ (.take 5 ⟨[], false, []⟩ (.take 6 ⟨[], false, []⟩ (.take 7 ⟨[], false, []⟩ (.take 8 ⟨[], false, []⟩ (.take 9 ⟨[], false, []⟩ .done))))))))))) (.cut ⟨[true], 2, [.slot 2 (.hb 0 0), .slot 5 (.lst 1 3 [.int .i64])], [(1, true), (6, true), (7, true)]⟩ (.seq (.txt []) (.cond (.txt []) .leaf)) (.cut ⟨[true, false], 2, [.slot 2 (.hb 0 0), .slot 5 (.lst 1 3 [.int .i64])], [(1, true), (6, true), (7, true)]⟩ (.seq (.txt []) (.cond (.txt []) .leaf)) (.cut ⟨[true, false], 2, [.slot 2 (.hb 0 0), .slot 5 (.lst 1 3 [.int .i64])], [(1, true), (7, true)]⟩ (.seq (.txt []) (.cond (.txt []) .leaf)) (.cut ⟨[true, false], 2, [.slot 5 (.lst 1 3 [.int .i64])], []⟩ (.seq (.txt []) (.cond (.txt []) .leaf)) (.seq (.txt []) .leaf))))))))
set_option maxRecDepth 100000 in
theorem M_ref04_Neighbours_ok (σ : Hp) (g_Wide : Int) (g_High : Int) (g_Cells_A : Option Addr) (g_Cells_n : Nat) (g_Cells_c : Nat) (g_Heights_A : Option Addr) (g_Heights_n : Nat) (g_Heights_c : Nat) (cell : Int) (R : Value → Hp → Prop) (h : M_ref04_Neighbours σ g_Wide g_High g_Cells_A g_Cells_n g_Cells_c g_Heights_A g_Heights_n g_Heights_c cell R) : FCalls Try.prog 34 #[(.agg #[(.int .i64 g_Wide), (.int .i64 g_High), (.slice g_Cells_A g_Cells_n g_Cells_c), (.slice g_Heights_A g_Heights_n g_Heights_c)]), (.int .i64 cell)] σ R :=
  fcalls_of_M mixed_M2 M_ref04_Neighbours_an Try.func34 rfl (by kernel_rfl) (by kernel_rfl) (M := M_ref04_Neighbours σ g_Wide g_High g_Cells_A g_Cells_n g_Cells_c g_Heights_A g_Heights_n g_Heights_c cell R) (by kernel_rfl) h
theorem M_ref04_Neighbours_enter : enterB Try.prog 34 = true := by kernel_rfl

end Go.Proofs.Ytmpkiaghkhhlhaa

