/- Texts Ga1 Ga2 Ga3 Ga4 Ga5 Ga6 Ga7 Ga8 Ga9 Ga10 Ga11 Ga12 Gb1 Gb2 Gb3: what the claims of this seat rest on; each text says what it proves. -/
import Derived.Test.YtmpkiaghkhhlhaaB11
import Derived.Test.YtmpkiaghkhhlhaaB12

/- Contracts of layer 4: within, checkGround. No conditions but those that each theorem names. -/
namespace Go.Proofs.Ytmpkiaghkhhlhaa
open Go.RowKit

theorem c_ref04_within {σ : Hp} {n lo hi : Int} : FCalls Try.prog N_ref04_within #[.int .i64 n, .int .i64 lo, .int .i64 hi] σ fun v σ' => v = .bool (decide (lo ≤ n ∧ n ≤ hi)) ∧ σ' = σ := by
  refine M_ref04_within_ok _ _ _ _ _ ?_
  unfold M_ref04_within
  refine bc_d (fun h => rt_of ?_) (fun h => rt_of ?_) <;> simp [h]
theorem c_ground_within {σ : Hp} {n lo hi : Int} : FCalls Try.prog N_ground_within #[.int .i64 n, .int .i64 lo, .int .i64 hi] σ fun v σ' => v = .bool (decide (lo ≤ n ∧ n ≤ hi)) ∧ σ' = σ := by
  refine M_ground_within_ok _ _ _ _ _ ?_
  unfold M_ground_within
  refine bc_d (fun h => rt_of ?_) (fun h => rt_of ?_) <;> simp [h]
/-- calls of within, seen from the caller -/
theorem l_rw {σ : Hp} {n lo hi : Int} {K : Bool → Hp → Prop} (h : K (decide (lo ≤ n ∧ n ≤ hi)) σ) : cl Try.prog (.func (.func N_ref04_within) #[] #[]) #[.int .i64 n, .int .i64 lo, .int .i64 hi] σ fun v σ' => ∃ t : Bool, (v = .bool t ∧ K t σ') := clB M_ref04_within_enter c_ref04_within h
theorem l_gw {σ : Hp} {n lo hi : Int} {K : Bool → Hp → Prop} (h : K (decide (lo ≤ n ∧ n ≤ hi)) σ) : cl Try.prog (.func (.func N_ground_within) #[] #[]) #[.int .i64 n, .int .i64 lo, .int .i64 hi] σ fun v σ' => ∃ t : Bool, (v = .bool t ∧ K t σ') := clB M_ground_within_enter c_ground_within h

/-! ### Grounds -/
structure Gnd where
  W : Int
  H : Int
  C : List Int
  T : List Int
/-- the value of a ground: its two slices lie at (cA, ..), (hA, ..) -/
structure GV where
  cA : Option Addr
  cn : Nat
  cc : Nat
  hA : Option Addr
  hn : Nat
  hc : Nat
def GV.v (x : GV) (g : Gnd) : Value := .agg #[.int .i64 g.W, .int .i64 g.H, .slice x.cA x.cn x.cc, .slice x.hA x.hn x.hc]
structure GRd (σ : Hp) (x : GV) (g : Gnd) : Prop where
  c : RdS [.int .i64] σ x.cA x.cn g.C
  h : RdS [.int .i64] σ x.hA x.hn g.T
theorem GRd.sub {σ σ' : Hp} {x : GV} {g : Gnd} (h : GRd σ x g) (hs : Hp.Sub σ σ') : GRd σ' x g := ⟨h.c.sub hs, h.h.sub hs⟩
def Gnd.okS (g : Gnd) : Bool := decide ((1 ≤ g.W ∧ g.W ≤ 8) ∧ (1 ≤ g.H ∧ g.H ≤ 8) ∧ (g.C.length : Int) = g.W * g.H ∧ g.T.length = g.C.length)
def Gnd.ok (g : Gnd) : Bool := g.okS && g.C.all (fun n => decide (0 ≤ n ∧ n ≤ 3)) && g.T.all fun n => decide (0 ≤ n ∧ n ≤ 100)

theorem mulb {a b : Int} (h1 : 1 ≤ a ∧ a ≤ 8) (h2 : 1 ≤ b ∧ b ≤ 8) : 1 ≤ a * b ∧ a * b ≤ 64 := by
  have e1 : 1 * 1 ≤ a * b := Int.mul_le_mul h1.1 h2.1 (by omega) (by omega)
  have e2 : a * b ≤ 8 * 8 := Int.mul_le_mul h1.2 h2.2 (by omega) (by omega)
  omega
theorem Gnd.okS_iff {g : Gnd} : g.okS = true ↔ (1 ≤ g.W ∧ g.W ≤ 8) ∧ (1 ≤ g.H ∧ g.H ≤ 8) ∧ (g.C.length : Int) = g.W * g.H ∧ g.T.length = g.C.length := by simp [Gnd.okS]
theorem Gnd.okS_len {g : Gnd} (h : g.okS = true) : 1 ≤ g.C.length ∧ g.C.length ≤ 64 ∧ g.T.length = g.C.length := by
  obtain ⟨h1, h2, h3, h4⟩ := okS_iff.1 h
  have := mulb h1 h2
  omega
theorem Gnd.ok_iff {g : Gnd} : g.ok = true ↔ g.okS = true ∧ ∀ i, (h : i < g.C.length) → (h' : i < g.T.length) → (0 ≤ g.C[i] ∧ g.C[i] ≤ 3) ∧ (0 ≤ g.T[i] ∧ g.T[i] ≤ 100) := by
  unfold Gnd.ok
  simp only [Bool.and_eq_true, List.all_eq_true, decide_eq_true_eq]
  constructor
  · rintro ⟨⟨h1, h2⟩, h3⟩
    exact ⟨h1, fun i h h' => ⟨h2 _ (List.getElem_mem h), h3 _ (List.getElem_mem h')⟩⟩
  · rintro ⟨h1, h2⟩
    have hl := (okS_len h1).2.2
    refine ⟨⟨h1, fun a ha => ?_⟩, fun a ha => ?_⟩
    · obtain ⟨i, h, rfl⟩ := List.getElem_of_mem ha
      exact (h2 i h (by omega)).1
    · obtain ⟨i, h, rfl⟩ := List.getElem_of_mem ha
      exact (h2 i (by omega) h).2

theorem c_ref04_checkGround {σ : Hp} {x : GV} {g : Gnd} (hg : GRd σ x g) : FCalls Try.prog N_ref04_checkGround #[x.v g] σ fun v σ' => v = .int .i64 (if g.ok then 0 else 40) ∧ σ' = σ := by
  refine M_ref04_checkGround_ok _ _ _ _ _ _ _ _ _ _ ?_
  unfold M_ref04_checkGround
  refine cut_intro fun J3 h3 => cut_intro fun J36 h36 => ?_
  have hc := hg.c.lenI
  have hh := hg.h.lenI
  have k3 : g.okS = true → J3 σ := by
    intro ho
    obtain ⟨l1, l2, l3⟩ := Gnd.okS_len ho
    rw [h3]
    intro _
    refine cut_intro fun J6 h6 => ?_
    refine ⟨fun n i σ' => ∃ k : Nat, n = g.C.length - k ∧ i = k ∧ k ≤ g.C.length ∧ σ' = σ ∧ ∀ j, (h : j < g.C.length) → (h' : j < g.T.length) → j < k → (0 ≤ g.C[j] ∧ g.C[j] ≤ 3) ∧ (0 ≤ g.T[j] ∧ g.T[j] ≤ 100), ⟨_, 0, rfl, rfl, by omega, rfl, fun j _ _ h => by omega⟩, ?_⟩
    rintro n i σ' ⟨k, rfl, rfl, hk, rfl, hj⟩ _
    refine bc_d (fun hlt => ?_) (fun hlt => ?_)
    · have hkl : k < g.C.length := by omega
      have hkh : k < g.T.length := by omega
      refine cut_intro fun J14 h14 => cut_intro fun J20 h20 => ?_
      have k14 : ((0 ≤ g.C[k] ∧ g.C[k] ≤ 3) ∧ (0 ≤ g.T[k] ∧ g.T[k] ≤ 100)) → J14 σ' := by
        intro hok
        rw [h14]
        intro _
        refine wk_i (by omega) (bk_of _ (by omega) ⟨k + 1, rfl, rfl, by omega, rfl, fun j h h' hjk => ?_⟩)
        rcases Nat.lt_or_ge j k with hlt | hge
        · exact hj j h h' hlt
        · have : j = k := by omega
          subst this
          exact hok
      have k20 : ∀ t, (t = true → ¬ g.ok = true) → (t = false → ((0 ≤ g.C[k] ∧ g.C[k] ≤ 3) ∧ (0 ≤ g.T[k] ∧ g.T[k] ≤ 100))) → J20 t σ' := by
        intro t ht hf
        rw [h20]
        intro _
        exact bc_b (fun h => rt_of (by simp [ht h])) (fun h => k14 (hf h))
      refine ix_ldI hg.c (by omega) (by simpa using hkl) ?_
      refine l_rw ?_
      simp only [Int.toNat_natCast]
      refine bc_nd (fun h => k20 _ (fun _ ho2 => h ((Gnd.ok_iff.1 ho2).2 k hkl hkh).1) (by simp)) (fun h => ?_)
      refine ix_ldI hg.h (by omega) (by simpa using hkh) ?_
      refine l_rw ?_
      simp only [Int.toNat_natCast]
      refine k20 _ (fun h' ho2 => ?_) (fun h' => ⟨h, by simpa using h'⟩)
      have := ((Gnd.ok_iff.1 ho2).2 k hkl hkh).2
      simp [this] at h'
    · rw [h6]
      intro _
      refine rt_of ?_
      have : g.ok = true := Gnd.ok_iff.2 ⟨ho, fun j h h' => hj j h h' (by omega)⟩
      simp [this]
  have k36 : ∀ t, t = !g.okS → J36 t σ := by
    rintro t rfl
    rw [h36]
    intro _
    refine bc_nb (fun h => rt_of ?_) (fun h => k3 h)
    simp [Gnd.ok, h]
  refine l_rw (bc_nd (fun h => bc_t (bc_t (k36 _ ?_))) (fun h => l_rw (bc_nd (fun h2 => bc_t (k36 _ ?_)) (fun h2 => ?_))))
  · simp [Gnd.okS, h]
  · simp [Gnd.okS, h2]
  · have := mulb h h2
    refine wk_i (by omega) (bc_nd (fun h3 => k36 _ ?_) (fun h3 => k36 _ ?_))
    · rw [hc] at h3
      simp [Gnd.okS, h3]
    · rw [hc] at h3
      refine congrArg Bool.not (decide_eq_decide.2 ⟨fun e => ⟨h, h2, h3, by omega⟩, fun ⟨_, _, _, e⟩ => by omega⟩)
end Go.Proofs.Ytmpkiaghkhhlhaa

/- Contracts of layer 4: finding; grounded, pitched, checkPitches. No conditions but those that each theorem names. -/
namespace Go.Proofs.Ytmpkiaghkhhlhaa
open Go.RowKit

/-! ### Finding -/
def fidx {α : Type} (p : α → Bool) (xs : List α) : Int := if xs.findIdx p < xs.length then (xs.findIdx p : Int) else -1
theorem fidx_at {α : Type} {p : α → Bool} {xs : List α} {k : Nat} (hk : k < xs.length) (h : p xs[k] = true) (hj : ∀ j, (h : j < xs.length) → j < k → p xs[j] = false) : fidx p xs = k := by
  have : xs.findIdx p = k := (List.findIdx_eq hk).2 ⟨h, fun j hjk => hj j (by omega) hjk⟩
  unfold fidx
  rw [this, if_pos hk]
theorem fidx_none {α : Type} {p : α → Bool} {xs : List α} (h : ∀ j, (h : j < xs.length) → p xs[j] = false) : fidx p xs = -1 := by
  have : xs.findIdx p = xs.length := List.findIdx_eq_length.2 fun x hx => by
    obtain ⟨i, hi, rfl⟩ := List.getElem_of_mem hx
    exact h i hi
  unfold fidx
  rw [this, if_neg (by omega)]
theorem fidx_any {α : Type} {p : α → Bool} {xs : List α} : decide (0 ≤ fidx p xs) = xs.any p := by
  unfold fidx
  split
  · rename_i h
    have : xs.any p = true := List.any_eq_true.2 ⟨_, List.getElem_mem h, List.findIdx_getElem⟩
    rw [this]
    simp
  · rename_i h
    have h1 : xs.findIdx p = xs.length := by have := List.findIdx_le_length (p := p) (xs := xs); omega
    have := List.findIdx_eq_length.1 h1
    simp
    intro x hx
    simp [this x hx]
/-- a function's value that decides p -/
def Dec {α : Type} (f : Value) (enc : α → Array Value) (p : α → Bool) (xs : List α) (σ : Hp) : Prop := ∀ a ∈ xs, ∀ K : Bool → Hp → Prop, K (p a) σ → cl Try.prog f (enc a) σ fun v σ' => ∃ t : Bool, (v = .bool t ∧ K t σ')
theorem Dec.of {α : Type} {g : FuncId} {caps : Array Value} {enc : α → Array Value} {p : α → Bool} {xs : List α} {σ : Hp} (he : enterB Try.prog g = true) (h : ∀ a ∈ xs, FCalls Try.prog g (app3 #[] (enc a) caps) σ fun u σ' => u = .bool (p a) ∧ σ' = σ) : Dec (.func (.func g) #[] caps) enc p xs σ :=
  fun a ha _ hk => FFun.func he ((h a ha).mono fun _ _ ⟨e1, e2⟩ => by subst e1; subst e2; exact ⟨_, rfl, hk⟩)
abbrev encI (a : Int) : Array Value := #[.int .i64 a]
theorem c_IndexFunc_int {σ : Hp} {A : Option Addr} {n c : Nat} {f : Value} {xs : List Int} {p : Int → Bool} (hx : RdS [.int .i64] σ A n xs) (hl : xs.length ≤ 4294967296) (hf : Dec f encI p xs σ) :
    FCalls Try.prog N_slices_IndexFunc_int #[.slice A n c, f] σ fun v σ' => v = .int .i64 (fidx p xs) ∧ σ' = σ := by
  refine M_slices_IndexFunc_int_ok _ _ _ _ _ _ ?_
  unfold M_slices_IndexFunc_int
  refine cut_intro fun J hJ => ?_
  have hn := hx.lenI
  refine ⟨fun n i σ' => ∃ k : Nat, n = xs.length - k ∧ i = k ∧ k ≤ xs.length ∧ σ' = σ ∧ ∀ j, (h : j < xs.length) → j < k → p xs[j] = false, ⟨_, 0, rfl, rfl, by omega, rfl, fun j _ h => by omega⟩, ?_⟩
  rintro n i σ' ⟨k, rfl, rfl, hk, rfl, hj⟩ _
  refine bc_d (fun hlt => ?_) (fun hlt => ?_)
  · have hkl : k < xs.length := by omega
    refine ix_ldI hx (by omega) (by simpa using hkl) ?_
    refine hf _ (List.getElem_mem _) _ ?_
    simp only [Int.toNat_natCast]
    refine bc_b (fun h => rt_of ⟨?_, rfl⟩) (fun h => wk_i (by omega) (bk_of _ (by omega) ⟨k + 1, rfl, rfl, by omega, rfl, fun j h' hjk => ?_⟩))
    · rw [fidx_at hkl h hj]
    · rcases Nat.lt_or_ge j k with hlt | hge
      · exact hj j h' hlt
      · have : j = k := by omega
        subst this
        exact h
  · subst hJ
    intro _
    refine rt_of ⟨?_, rfl⟩
    rw [fidx_none fun j h => hj j h (by omega)]
theorem c_ContainsFunc_int {σ : Hp} {A : Option Addr} {n c : Nat} {f : Value} {xs : List Int} {p : Int → Bool} (hx : RdS [.int .i64] σ A n xs) (hl : xs.length ≤ 4294967296) (hf : Dec f encI p xs σ) :
    FCalls Try.prog N_slices_ContainsFunc_int #[.slice A n c, f] σ fun v σ' => v = .bool (xs.any p) ∧ σ' = σ := by
  refine M_slices_ContainsFunc_int_ok _ _ _ _ _ _ ?_
  unfold M_slices_ContainsFunc_int
  refine clI M_slices_IndexFunc_int_enter (c_IndexFunc_int hx hl hf) (rt_of ⟨?_, rfl⟩)
  rw [fidx_any]
theorem c_grounded_1 {σ : Hp} {n : Int} : FCalls Try.prog N_ground_grounded_1 #[.int .i64 n] σ fun v σ' => v = .bool (!decide (0 ≤ n ∧ n ≤ 3)) ∧ σ' = σ := by
  refine M_ground_grounded_1_ok _ _ _ ?_
  unfold M_ground_grounded_1
  exact l_gw (rt_of ⟨rfl, rfl⟩)
theorem c_grounded_2 {σ : Hp} {n : Int} : FCalls Try.prog N_ground_grounded_2 #[.int .i64 n] σ fun v σ' => v = .bool (!decide (0 ≤ n ∧ n ≤ 100)) ∧ σ' = σ := by
  refine M_ground_grounded_2_ok _ _ _ ?_
  unfold M_ground_grounded_2
  exact l_gw (rt_of ⟨rfl, rfl⟩)
theorem c_grounded {σ : Hp} {x : GV} {g : Gnd} (hg : GRd σ x g) : FCalls Try.prog N_ground_grounded #[x.v g] σ fun v σ' => v = .bool g.ok ∧ σ' = σ := by
  refine M_ground_grounded_ok _ _ _ _ _ _ _ _ _ _ ?_
  unfold M_ground_grounded
  refine cut_intro fun J3 h3 => cut_intro fun J12 h12 => ?_
  have hc := hg.c.lenI
  have hh := hg.h.lenI
  have k3 : g.okS = true → J3 σ := by
    intro ho
    obtain ⟨l1, l2, l3⟩ := Gnd.okS_len ho
    rw [h3]
    intro _
    refine clB M_slices_ContainsFunc_int_enter (c_ContainsFunc_int hg.c (by omega) (Dec.of M_ground_grounded_1_enter fun a _ => c_grounded_1)) ?_
    refine bc_nb (fun h => clB M_slices_ContainsFunc_int_enter (c_ContainsFunc_int hg.h (by omega) (Dec.of M_ground_grounded_2_enter fun a _ => c_grounded_2)) (rt_of ⟨?_, rfl⟩)) (fun h => rt_of ⟨?_, rfl⟩)
    · have h' := congrArg Bool.not h
      simp only [List.not_any_eq_all_not, Bool.not_not, Bool.not_false] at h'
      simp only [List.not_any_eq_all_not, Bool.not_not, Gnd.ok, ho, h', Bool.true_and]
    · have h' := congrArg Bool.not h
      simp only [List.not_any_eq_all_not, Bool.not_not, Bool.not_true] at h'
      simp only [Gnd.ok, ho, h', Bool.and_false, Bool.false_and]
  have k12 : ∀ t, t = !g.okS → J12 t σ := by
    rintro t rfl
    rw [h12]
    intro _
    refine bc_nb (fun h => rt_of ?_) (fun h => k3 h)
    simp [Gnd.ok, h]
  refine l_gw (bc_nd (fun h => bc_t (bc_t (k12 _ ?_))) (fun h => l_gw (bc_nd (fun h2 => bc_t (k12 _ ?_)) (fun h2 => ?_))))
  · simp [Gnd.okS, h]
  · simp [Gnd.okS, h2]
  · have := mulb h h2
    refine wk_i (by omega) (bc_nd (fun h3 => k12 _ ?_) (fun h3 => k12 _ ?_))
    · rw [hc] at h3
      simp [Gnd.okS, h3]
    · rw [hc] at h3
      refine congrArg Bool.not (decide_eq_decide.2 ⟨fun e => ⟨h, h2, h3, by omega⟩, fun ⟨_, _, _, e⟩ => by omega⟩)

/-! ### Pitches -/
abbrev Pit := Int × Int × Int × Int × Int
abbrev sP : List Sh := [.int .i64, .int .i64, .int .i64, .int .i64, .int .i64]
abbrev pv (p : Pit) : Value := .agg #[.int .i64 p.1, .int .i64 p.2.1, .int .i64 p.2.2.1, .int .i64 p.2.2.2.1, .int .i64 p.2.2.2.2]
abbrev encP (p : Pit) : Array Value := #[pv p]
theorem RdS.lenP {σ : Hp} {A : Option Addr} {n : Nat} {xs : List Pit} (h : RdS sP σ A n xs) : n = xs.length := h.1
theorem ix_pit {σ : Hp} {A : Option Addr} {n : Nat} {xs : List Pit} {i : Int} {K : Int → Int → Int → Int → Int → Prop} (h : RdS sP σ A n xs) (hi : 0 ≤ i) (hn : i.toNat < xs.length) (hk : K xs[i.toNat].1 xs[i.toNat].2.1 xs[i.toNat].2.2.1 xs[i.toNat].2.2.2.1 xs[i.toNat].2.2.2.2) :
    ix A n i 5 fun b a => ldI σ .i64 b a fun x1 => ldI σ .i64 b (a + 1) fun x2 => ldI σ .i64 b (a + 2) fun x3 => ldI σ .i64 b (a + 3) fun x4 => ldI σ .i64 b (a + 4) fun x5 => K x1 x2 x3 x4 x5 := by
  refine ix_of (ss := sP) h rfl hi hn fun b o hc => ?_
  exact ldI_of (hc 0 (by decide)) (ldI_of (hc 1 (by decide)) (ldI_of (hc 2 (by decide)) (ldI_of (hc 3 (by decide)) (ldI_of (hc 4 (by decide)) hk))))
theorem ix_pit0 {σ : Hp} {A : Option Addr} {n : Nat} {xs : List Pit} {i : Int} {K : Int → Prop} (h : RdS sP σ A n xs) (hi : 0 ≤ i) (hn : i.toNat < xs.length) (hk : K xs[i.toNat].1) : ix A n i 5 fun b a => ldI σ .i64 b a K := by
  refine ix_of (ss := sP) h rfl hi hn fun b o hc => ?_
  exact ldI_of (hc 0 (by decide)) hk
theorem ix_pit1 {σ : Hp} {A : Option Addr} {n : Nat} {xs : List Pit} {i : Int} {K : Int → Prop} (h : RdS sP σ A n xs) (hi : 0 ≤ i) (hn : i.toNat < xs.length) (hk : K xs[i.toNat].2.1) : ix A n i 5 fun b a => ldI σ .i64 b (a + 1) K := by
  refine ix_of (ss := sP) h rfl hi hn fun b o hc => ?_
  exact ldI_of (hc 1 (by decide)) hk
def Gnd.pOK (g : Gnd) (p : Pit) : Bool := decide ((1 ≤ p.1 ∧ p.1 ≤ 8) ∧ (1 ≤ p.2.1 ∧ p.2.1 ≤ 8) ∧ (0 ≤ p.2.2.1 ∧ p.2.2.1 ≤ 100) ∧ (0 ≤ p.2.2.2.1 ∧ p.2.2.2.1 ≤ 1000) ∧ (-1 ≤ p.2.2.2.2 ∧ p.2.2.2.2 ≤ (g.C.length : Int) - 1))
theorem c_pitched {σ : Hp} {x : GV} {g : Gnd} {p : Pit} (hc : x.cn = g.C.length) (hl : g.C.length ≤ 4294967296) : FCalls Try.prog N_ground_pitched #[x.v g, pv p] σ fun v σ' => v = .bool (g.pOK p) ∧ σ' = σ := by
  refine M_ground_pitched_ok _ _ _ _ _ _ _ _ _ _ _ _ _ _ _ ?_
  unfold M_ground_pitched
  repeat' (first | refine wk_i (by omega) ?_ | refine l_gw ?_ | refine bc_t ?_ | refine bc_f ?_ | refine bc_d (fun _ => ?_) (fun _ => ?_))
  all_goals
    refine rt_of ⟨congrArg Value.bool ?_, rfl⟩
    simp only [Gnd.pOK, hc]
    first
      | (refine decide_eq_decide.2 ?_; constructor <;> (intro h; omega))
      | (symm; refine decide_eq_false ?_; omega)
theorem c_IndexFunc_pit {σ : Hp} {A : Option Addr} {n c : Nat} {f : Value} {xs : List Pit} {p : Pit → Bool} (hx : RdS sP σ A n xs) (hl : xs.length ≤ 4294967296) (hf : Dec f encP p xs σ) :
    FCalls Try.prog N_slices_IndexFunc_api_Pitch #[.slice A n c, f] σ fun v σ' => v = .int .i64 (fidx p xs) ∧ σ' = σ := by
  refine M_slices_IndexFunc_api_Pitch_ok _ _ _ _ _ _ ?_
  unfold M_slices_IndexFunc_api_Pitch
  refine cut_intro fun J hJ => ?_
  have hn := hx.lenP
  refine ⟨fun n i σ' => ∃ k : Nat, n = xs.length - k ∧ i = k ∧ k ≤ xs.length ∧ σ' = σ ∧ ∀ j, (h : j < xs.length) → j < k → p xs[j] = false, ⟨_, 0, rfl, rfl, by omega, rfl, fun j _ h => by omega⟩, ?_⟩
  rintro n i σ' ⟨k, rfl, rfl, hk, rfl, hj⟩ _
  refine bc_d (fun hlt => ?_) (fun hlt => ?_)
  · have hkl : k < xs.length := by omega
    refine ix_pit hx (by omega) (by simpa using hkl) ?_
    refine hf _ (List.getElem_mem (show (k : Int).toNat < xs.length by simpa using hkl)) _ ?_
    simp only [Int.toNat_natCast]
    refine bc_b (fun h => rt_of ⟨?_, rfl⟩) (fun h => wk_i (by omega) (bk_of _ (by omega) ⟨k + 1, rfl, rfl, by omega, rfl, fun j h' hjk => ?_⟩))
    · rw [fidx_at hkl h hj]
    · rcases Nat.lt_or_ge j k with hlt | hge
      · exact hj j h' hlt
      · have : j = k := by omega
        subst this
        exact h
  · subst hJ
    intro _
    refine rt_of ⟨?_, rfl⟩
    rw [fidx_none fun j h => hj j h (by omega)]
/-- the errors of a ground and pitches -/
def chkP (g : Gnd) (l : List Pit) : Int × Int := if g.ok = false then (0, 40) else if 8 < l.length then (0, 2) else if 0 ≤ fidx (fun p => !g.pOK p) l then (fidx (fun p => !g.pOK p) l, 41) else (0, 0)
theorem l_checkGround {σ : Hp} {x : GV} {g : Gnd} {K : Int → Hp → Prop} (hg : GRd σ x g) (h : K (if g.ok then 0 else 40) σ) : cl Try.prog (.func (.func N_ref04_checkGround) #[] #[]) #[x.v g] σ fun v σ' => ∃ t : Int, (v = .int .i64 t ∧ K t σ') :=
  clI M_ref04_checkGround_enter (c_ref04_checkGround hg) h
theorem c_checkPitches {σ : Hp} {x : GV} {g : Gnd} {A : Option Addr} {n c : Nat} {l : List Pit} (hg : GRd σ x g) (hx : RdS sP σ A n l) : FCalls Try.prog N_ref04_checkPitches #[x.v g, .slice A n c] σ fun v σ' => v = .tuple #[.int .i64 (chkP g l).1, .int .i64 (chkP g l).2] ∧ σ' = σ := by
  refine M_ref04_checkPitches_ok _ _ _ _ _ _ _ _ _ _ _ _ _ ?_
  unfold M_ref04_checkPitches
  have hc := hg.c.lenI
  have hn := hx.lenP
  refine l_checkGround hg ?_
  cases ho : g.ok with
  | false => exact bc_nd (fun _ => rt_of ⟨by simp [chkP, ho], rfl⟩) (fun h => by simp at h)
  | true =>
    obtain ⟨l1, l2, l3⟩ := Gnd.okS_len (Gnd.ok_iff.1 ho).1
    refine bc_nd (fun h => by simp at h) (fun _ => ?_)
    refine bc_d (fun h8 => rt_of ⟨by simp [chkP, ho, show 8 < l.length by omega], rfl⟩) (fun h8 => ?_)
    have h8' : ¬ 8 < l.length := by omega
    refine cut_intro fun J6 h6 => ?_
    refine ⟨fun n i σ' => ∃ k : Nat, n = l.length - k ∧ i = k ∧ k ≤ l.length ∧ σ' = σ ∧ ∀ j, (h : j < l.length) → j < k → (!g.pOK l[j]) = false, ⟨_, 0, rfl, rfl, by omega, rfl, fun j _ h => by omega⟩, ?_⟩
    rintro n i σ' ⟨k, rfl, rfl, hk, rfl, hj⟩ _
    refine bc_d (fun hlt => ?_) (fun hlt => ?_)
    · have hkl : k < l.length := by omega
      refine cut_intro fun J14 h14 => ?_
      refine ix_pit hx (by omega) (by simpa using hkl) ?_
      simp only [Int.toNat_natCast]
      refine cut_intro fun J27 h27 => ?_
      have k27 : ∀ t, t = (!g.pOK l[k]) → J27 t σ' := by
        rintro t rfl
        rw [h27]
        intro _
        refine bc_b (fun h => rt_of ⟨?_, rfl⟩) (fun h => ?_)
        · have := fidx_at (p := fun p => !g.pOK p) hkl h hj
          unfold chkP
          rw [this]
          simp [ho, h8']
        · rw [h14]
          intro _
          refine wk_i (by omega) (bk_of _ (by omega) ⟨k + 1, rfl, rfl, by omega, rfl, fun j h' hjk => ?_⟩)
          rcases Nat.lt_or_ge j k with hlt | hge
          · exact hj j h' hlt
          · have : j = k := by omega
            subst this
            exact h
      repeat' (first | refine wk_i (by omega) ?_ | refine l_rw ?_ | refine bc_t ?_ | refine bc_f ?_ | refine bc_nd (fun _ => ?_) (fun _ => ?_) | refine k27 _ ?_)
      all_goals
        simp only [Gnd.pOK, hc]
        first
          | (refine congrArg Bool.not (decide_eq_decide.2 ?_); constructor <;> (intro h; omega))
          | (symm; simp only [Bool.not_eq_true', decide_eq_false_iff_not]; omega)
    · subst h6
      intro _
      refine rt_of ⟨?_, rfl⟩
      have := fidx_none (p := fun p => !g.pOK p) fun j h => hj j h (by omega)
      unfold chkP
      rw [this]
      simp [ho, h8']
end Go.Proofs.Ytmpkiaghkhhlhaa

/- Contracts of layer 4: Cover. No conditions but those that each theorem names. -/
namespace Go.Proofs.Ytmpkiaghkhhlhaa
open Go.RowKit

/-! ### The cells of a pitch at a site -/
abbrev Sit := Int × Bool
abbrev sS : List Sh := [.int .i64, .bool]
abbrev sv (s : Sit) : Value := .agg #[.int .i64 s.1, .bool s.2]
def rowC (W x : Int) (w : Nat) (r : Int) : List Int := (List.range w).map fun k : Nat => r * W + (x + (k : Int))
def blkC (W x y : Int) (w h : Nat) : List Int := (List.range h).flatMap fun k : Nat => rowC W x w (y + (k : Int))
theorem rowC_succ (W x : Int) (j : Nat) (r : Int) : rowC W x (j + 1) r = rowC W x j r ++ [r * W + (x + (j : Int))] := by simp [rowC, List.range_succ]
theorem blkC_succ (W x y : Int) (w k : Nat) : blkC W x y w (k + 1) = blkC W x y w k ++ rowC W x w (y + (k : Int)) := by simp [blkC, List.range_succ]
theorem rowC_len (W x : Int) (j : Nat) (r : Int) : (rowC W x j r).length = j := by simp [rowC]
theorem blkC_len (W x y : Int) (w k : Nat) : (blkC W x y w k).length = k * w := by
  induction k with
  | zero => simp [blkC]
  | succ k ih => rw [blkC_succ, List.length_append, ih, rowC_len, Nat.succ_mul]
def Gnd.cov (g : Gnd) (w h c : Int) : List Int × Bool :=
  if (0 ≤ c ∧ c ≤ (g.C.length : Int) - 1) ∧ Int.tmod c g.W + w ≤ g.W ∧ Int.tdiv c g.W + h ≤ g.H then (blkC g.W (Int.tmod c g.W) (Int.tdiv c g.W) w.toNat h.toNat, true) else ([], false)
def Gnd.cover (g : Gnd) (p : Pit) (s : Sit) : List Int × Bool := if s.2 then g.cov p.2.1 p.1 s.1 else g.cov p.1 p.2.1 s.1
/-- a cell's column and row -/
theorem Gnd.xy {g : Gnd} (ho : g.okS = true) {c : Int} (h0 : 0 ≤ c) (h1 : c ≤ (g.C.length : Int) - 1) : 0 ≤ Int.tmod c g.W ∧ Int.tmod c g.W < g.W ∧ 0 ≤ Int.tdiv c g.W ∧ Int.tdiv c g.W < g.H ∧ Int.tdiv c g.W * g.W + Int.tmod c g.W = c := by
  obtain ⟨hW, hH, hl, _⟩ := okS_iff.1 ho
  have e := Int.mul_tdiv_add_tmod c g.W
  have e2 : Int.tdiv c g.W * g.W + Int.tmod c g.W = c := by rw [Int.mul_comm]; exact e
  have m0 := Int.tmod_nonneg g.W h0
  have m1 := Int.tmod_lt_of_pos c (show 0 < g.W by omega)
  have d0 : 0 ≤ Int.tdiv c g.W := Int.tdiv_nonneg h0 (by omega)
  refine ⟨m0, m1, d0, ?_, e2⟩
  rcases Int.lt_or_le (Int.tdiv c g.W) g.H with h | h
  · exact h
  · have : g.H * g.W ≤ Int.tdiv c g.W * g.W := Int.mul_le_mul_of_nonneg_right h (by omega)
    rw [Int.mul_comm g.H] at this
    omega
theorem mulle {a b : Int} {m n : Int} (h1 : 0 ≤ a) (h2 : a ≤ m) (h3 : 0 ≤ b) (h4 : b ≤ n) : 0 ≤ a * b ∧ a * b ≤ m * n := ⟨Int.mul_nonneg h1 h3, Int.mul_le_mul h2 h4 h3 (by omega)⟩

theorem c_Cover {σ : Hp} {x : GV} {g : Gnd} {p : Pit} {s : Sit} (hc : x.cn = g.C.length) (ho : g.okS = true) (hp : g.pOK p = true) :
    FCalls Try.prog N_ref04_Cover #[x.v g, pv p, sv s] σ (NewLB 3 [.int .i64] σ (g.cover p s).1 (g.cover p s).2) := by
  refine M_ref04_Cover_ok _ _ _ _ _ _ _ _ _ _ _ _ _ _ _ _ _ ?_
  unfold M_ref04_Cover
  obtain ⟨hW, hH, hl, _⟩ := Gnd.okS_iff.1 ho
  obtain ⟨l1, l2, _⟩ := Gnd.okS_len ho
  have hp' := of_decide_eq_true hp
  refine wk_i (by omega) (l_rw (bc_nd (fun h => rt_of ?_) (fun h => ?_)))
  · refine ⟨none, 0, 0, ?_, ?_⟩
    · have : (g.cover p s).2 = false := by
        unfold Gnd.cover Gnd.cov
        have : ¬ (0 ≤ s.1 ∧ s.1 ≤ (g.C.length : Int) - 1) := by rw [hc] at h; exact h
        split <;> simp only [this, false_and, if_false]
      rw [this]
    · have : (g.cover p s).1 = [] := by
        unfold Gnd.cover Gnd.cov
        have : ¬ (0 ≤ s.1 ∧ s.1 ≤ (g.C.length : Int) - 1) := by rw [hc] at h; exact h
        split <;> simp only [this, false_and, if_false]
      rw [this]
      exact OwnSl.nil ..
  rw [hc] at h
  obtain ⟨m0, m1, d0, d1, e⟩ := Gnd.xy ho h.1 h.2
  refine cut_intro fun J7 h7 => ?_
  have k7 : ∀ w h' : Int, (1 ≤ w ∧ w ≤ 8) → (1 ≤ h' ∧ h' ≤ 8) → g.cover p s = g.cov w h' s.1 → J7 w h' σ := by
    intro w hh bw bh hcov
    rw [h7, hcov]
    intro _
    refine ⟨by omega, by omega, wk_i (by omega) ?_⟩
    refine cut_intro fun J13 h13 => cut_intro fun J50 h50 => ?_
    have k13 : (Int.tmod s.1 g.W + w ≤ g.W ∧ Int.tdiv s.1 g.W + hh ≤ g.H) → J13 σ := by
      intro hin
      rw [h13]
      intro _
      refine cut_intro fun J16 h16 => ?_
      have ecov : g.cov w hh s.1 = (blkC g.W (Int.tmod s.1 g.W) (Int.tdiv s.1 g.W) w.toNat hh.toNat, true) := by
        unfold Gnd.cov
        rw [if_pos ⟨h, hin⟩]
      rw [ecov] at h16
      generalize hx : Int.tmod s.1 g.W = X at *
      generalize hy : Int.tdiv s.1 g.W = Y at *
      refine ⟨fun n A l c r σ' => ∃ k : Nat, n = hh.toNat - k ∧ r = Y + k ∧ k ≤ hh.toNat ∧ OwnSl 3 [.int .i64] σ A l c (blkC g.W X Y w.toNat k) σ', ⟨_, 0, rfl, by omega, by omega, ?_⟩, ?_⟩
      · exact OwnSl.nil ..
      rintro n A l c r σ' ⟨k, rfl, rfl, hk, hown⟩ _
      refine wk_i (by omega) (bc_d (fun hlt => ?_) (fun hlt => ?_))
      · refine cut_intro fun J27 h27 => ?_
        refine ⟨fun n A l c q σ' => ∃ j : Nat, n = w.toNat - j ∧ q = X + j ∧ j ≤ w.toNat ∧ OwnSl 3 [.int .i64] σ A l c (blkC g.W X Y w.toNat k ++ rowC g.W X j (Y + k)) σ', ⟨_, 0, rfl, by omega, by omega, ?_⟩, ?_⟩
        · simpa [rowC] using hown
        rintro n A l c q σ' ⟨j, rfl, rfl, hj, hown⟩ _
        refine wk_i (by omega) (bc_d (fun hlt2 => ?_) (fun hlt2 => ?_))
        · have b1 := mulle (a := Y + (k : Int)) (b := g.W) (m := 8) (n := 8) (by omega) (by omega) (by omega) (by omega)
          refine wk_i (by omega) (wk_i (by omega) (adp_own hown (roomy_i ?_ (wk_i (by omega) (bk_of _ ?_ fun A l c σ' hown' => ⟨j + 1, rfl, by omega, by omega, ?_⟩)))))
          · have b2 : k * w.toNat ≤ 8 * 8 := Nat.mul_le_mul (by omega) (by omega)
            simp only [List.length_append, blkC_len, rowC_len, List.length_cons, List.length_nil]
            omega
          · omega
          · rw [rowC_succ, ← List.append_assoc]
            exact hown'
        · rw [h27]
          intro _
          refine wk_i (by omega) (bk_of _ ?_ ⟨k + 1, rfl, by omega, by omega, ?_⟩)
          · omega
          · have : j = w.toNat := by omega
            subst this
            rw [blkC_succ]
            exact hown
      · rw [h16]
        intro _
        have : k = hh.toNat := by omega
        subst this
        exact rt_of ⟨_, _, _, rfl, hown⟩
    have k50 : ∀ t, t = !decide (Int.tmod s.1 g.W + w ≤ g.W ∧ Int.tdiv s.1 g.W + hh ≤ g.H) → J50 t σ := by
      rintro t rfl
      rw [h50]
      intro _
      refine bc_nd (fun hn => rt_of ?_) (fun hn => k13 hn)
      have : g.cov w hh s.1 = ([], false) := by
        unfold Gnd.cov
        rw [if_neg fun h => hn h.2]
      rw [this]
      exact ⟨none, 0, 0, rfl, OwnSl.nil ..⟩
    refine wk_i (by omega) (bc_d (fun h1 => k50 _ ?_) (fun h1 => wk_i (by omega) (k50 _ ?_)))
    · simp only [Bool.true_eq, Bool.not_eq_true', decide_eq_false_iff_not]; omega
    · simp only [← decide_not]
      exact decide_eq_decide.2 (by omega)
  refine bc_b (fun ht => k7 _ _ (by omega) (by omega) ?_) (fun ht => k7 _ _ (by omega) (by omega) ?_) <;> simp [Gnd.cover, ht]
end Go.Proofs.Ytmpkiaghkhhlhaa

/- Contracts of layer 4: fields in memory. No conditions but those that each theorem names. -/
namespace Go.Proofs.Ytmpkiaghkhhlhaa
open Go.RowKit

/-! ### Fields -/
structure Fd where
  g : Gnd
  l : List Pit
  st : List Sit
  tk : List Int
/-- where they lie -/
structure FA where
  x : GV
  lA : Option Addr
  ln : Nat
  lc : Nat
  sA : Option Addr
  sn : Nat
  sc : Nat
  tA : Option Addr
  tn : Nat
  tc : Nat
def FA.cells (V : FA) (g : Gnd) : Array Value := #[.int .i64 g.W, .int .i64 g.H, .slice V.x.cA V.x.cn V.x.cc, .slice V.x.hA V.x.hn V.x.hc, .slice V.lA V.ln V.lc, .slice V.sA V.sn V.sc, .slice V.tA V.tn V.tc]
structure Fd.ok (F : Fd) : Prop where
  g : F.g.ok = true
  p : ∀ i, (h : i < F.l.length) → F.g.pOK F.l[i] = true
  l : F.l.length ≤ 8
  st : F.st.length = F.l.length
  tk : F.tk.length = F.g.C.length
theorem Fd.ok.s {F : Fd} (h : F.ok) : F.g.okS = true := (Gnd.ok_iff.1 h.g).1
theorem Fd.ok.len {F : Fd} (h : F.ok) : 1 ≤ F.g.C.length ∧ F.g.C.length ≤ 64 ∧ F.g.T.length = F.g.C.length := Gnd.okS_len h.s
/-- the part that is only read -/
structure FdB (σ : Hp) (f : Option Addr) (V : FA) (g : Gnd) (l : List Pit) : Prop where
  o : ∃ b rw, f = some ⟨b, 0, none⟩ ∧ σ b = some (.cells (V.cells g) 73 (0, 0), rw)
  gr : GRd σ V.x g
  pr : RdS sP σ V.lA V.ln l
/-- a field that can be read -/
structure FdR (σ : Hp) (f : Option Addr) (V : FA) (F : Fd) : Prop extends FdB σ f V F.g F.l where
  sr : RdS sS σ V.sA V.sn F.st
  tr : RdS [.int .i64] σ V.tA V.tn F.tk
/-- a field that can be written: beside σ0 there are its sites and what is taken -/
def FdW (σ0 σ : Hp) (f : Option Addr) (V : FA) (F : Fd) : Prop := FdB σ0 f V F.g F.l ∧ ∃ σ1 σ2, OwnSl 50 sS σ0 V.sA V.sn V.sc F.st σ1 ∧ OwnSl 3 [.int .i64] σ1 V.tA V.tn V.tc F.tk σ2 ∧ Hp.Sub σ2 σ
theorem FdB.sub {σ σ' : Hp} {f : Option Addr} {V : FA} {g : Gnd} {l : List Pit} (h : FdB σ f V g l) (hs : Hp.Sub σ σ') : FdB σ' f V g l :=
  ⟨let ⟨b, rw, h1, h2⟩ := h.o; ⟨b, rw, h1, hs _ _ h2⟩, h.gr.sub hs, h.pr.sub hs⟩
theorem FdR.sub {σ σ' : Hp} {f : Option Addr} {V : FA} {F : Fd} (h : FdR σ f V F) (hs : Hp.Sub σ σ') : FdR σ' f V F := ⟨h.toFdB.sub hs, h.sr.sub hs, h.tr.sub hs⟩
theorem FdW.base {σ0 σ : Hp} {f : Option Addr} {V : FA} {F : Fd} (h : FdW σ0 σ f V F) : Hp.Sub σ0 σ := let ⟨_, _, _, h1, h2, h3⟩ := h; h1.sub.trans (h2.sub.trans h3)
theorem FdW.r {σ0 σ : Hp} {f : Option Addr} {V : FA} {F : Fd} (h : FdW σ0 σ f V F) : FdR σ f V F :=
  let ⟨h0, _, _, h1, h2, h3⟩ := h; ⟨h0.sub (h1.sub.trans (h2.sub.trans h3)), h1.rd.sub (h2.sub.trans h3), h2.rd.sub h3⟩
theorem FdW.less {σ0 σ σ' : Hp} {f : Option Addr} {V : FA} {F : Fd} (h : FdW σ0 σ f V F) (hs : Hp.Sub σ σ') : FdW σ0 σ' f V F :=
  let ⟨h0, σ1, σ2, h1, h2, h3⟩ := h; ⟨h0, σ1, σ2, h1, h2, h3.trans hs⟩
/-- one more slice beside it -/
theorem FdW.own {σ0 σ σ' : Hp} {f : Option Addr} {V : FA} {F : Fd} (h : FdW σ0 σ f V F) {e : TypeId} {ss : List Sh} {A : Option Addr} {n c : Nat} {xs : List (TyR ss)} (ho : OwnSl e ss σ A n c xs σ') : ∃ σ0', OwnSl e ss σ0 A n c xs σ0' ∧ FdW σ0' σ' f V F := by
  rcases ho with ⟨h1, h2, h3, h4, rfl⟩ | ⟨b, off, cells, hA, hn, hnc, hb, rfl, hsz, hr⟩
  · exact ⟨σ0, .inl ⟨h1, h2, h3, h4, rfl⟩, h⟩
  · have hb0 := h.base.none hb
    obtain ⟨h0, σ1, σ2, h1, h2, h3⟩ := h
    have hb2 := h3.none hb
    have hb1 := h2.sub.none hb2
    exact ⟨_, .inr ⟨b, off, cells, hA, hn, hnc, hb0, rfl, hsz, hr⟩, h0.sub (Hp.Sub.ins _ hb0), _, _, h1.ins_base hb1 _, h2.ins_base hb2 _, h3.ins_both b _⟩

section
variable {σ : Hp} {f : Option Addr} {V : FA} {g : Gnd} {l : List Pit}
theorem FdB.cell (h : FdB σ f V g l) : ∃ b, f = some ⟨b, 0, none⟩ ∧ ∀ i, σ.cell? ⟨b, i, none⟩ = (V.cells g)[i]? := by
  obtain ⟨b, rw, h1, h2⟩ := h.o
  refine ⟨b, h1, fun i => ?_⟩
  unfold Hp.cell?
  simp only [h2]
  rfl
theorem FdB.dW (h : FdB σ f V g l) {K : Int → Prop} (hk : K g.W) : dr f fun b o => ldI σ .i64 b o K := by
  obtain ⟨b, rfl, hc⟩ := h.cell
  exact dr_i (ldI_of ((hc _).trans rfl) hk)
theorem FdB.dH (h : FdB σ f V g l) {K : Int → Prop} (hk : K g.H) : dr f fun b o => ldI σ .i64 b (o + 1) K := by
  obtain ⟨b, rfl, hc⟩ := h.cell
  exact dr_i (ldI_of ((hc _).trans rfl) hk)
theorem FdB.dC (h : FdB σ f V g l) {K : Option Addr → Nat → Nat → Prop} (hk : K V.x.cA V.x.cn V.x.cc) : dr f fun b o => ldS σ b (o + 2) K := by
  obtain ⟨b, rfl, hc⟩ := h.cell
  exact dr_i (ldS_of ((hc _).trans rfl) hk)
theorem FdB.dT (h : FdB σ f V g l) {K : Option Addr → Nat → Nat → Prop} (hk : K V.x.hA V.x.hn V.x.hc) : dr f fun b o => ldS σ b (o + 3) K := by
  obtain ⟨b, rfl, hc⟩ := h.cell
  exact dr_i (ldS_of ((hc _).trans rfl) hk)
theorem FdB.dP (h : FdB σ f V g l) {K : Option Addr → Nat → Nat → Prop} (hk : K V.lA V.ln V.lc) : dr f fun b o => ldS σ b (o + 4) K := by
  obtain ⟨b, rfl, hc⟩ := h.cell
  exact dr_i (ldS_of ((hc _).trans rfl) hk)
theorem FdB.dS (h : FdB σ f V g l) {K : Option Addr → Nat → Nat → Prop} (hk : K V.sA V.sn V.sc) : dr f fun b o => ldS σ b (o + 5) K := by
  obtain ⟨b, rfl, hc⟩ := h.cell
  exact dr_i (ldS_of ((hc _).trans rfl) hk)
theorem FdB.dK (h : FdB σ f V g l) {K : Option Addr → Nat → Nat → Prop} (hk : K V.tA V.tn V.tc) : dr f fun b o => ldS σ b (o + 6) K := by
  obtain ⟨b, rfl, hc⟩ := h.cell
  exact dr_i (ldS_of ((hc _).trans rfl) hk)
end
/-- a number of a list that is read -/
theorem gix {σ : Hp} {A : Option Addr} {n : Nat} {xs : List Int} {i : Int} {K : Int → Prop} (h : RdS [.int .i64] σ A n xs) (hi : 0 ≤ i) (hn : i < xs.length) (hk : ∀ h : i.toNat < xs.length, K xs[i.toNat]) : ix A n i 1 fun b a => ldI σ .i64 b a K :=
  ix_ldI h hi (by omega) (hk (by omega))
end Go.Proofs.Ytmpkiaghkhhlhaa

/- Contracts of layer 4: fits of the reference. No conditions but those that each theorem names. -/
namespace Go.Proofs.Ytmpkiaghkhhlhaa
open Go.RowKit

/-- a number of a list -/
def gt (xs : List Int) (i : Int) : Int := xs.getD i.toNat 0
theorem gt_eq {xs : List Int} {i : Int} (h : i.toNat < xs.length) : gt xs i = xs[i.toNat] := by simp [gt, List.getD, h]
theorem gt_nat {xs : List Int} {k : Nat} (h : k < xs.length) : gt xs k = xs[k] := by rw [gt_eq (by simpa using h)]; simp
theorem gixg {σ : Hp} {A : Option Addr} {n : Nat} {xs : List Int} {i : Int} {K : Int → Prop} (h : RdS [.int .i64] σ A n xs) (hi : 0 ≤ i) (hn : i < xs.length) (hk : K (gt xs i)) : ix A n i 1 fun b a => ldI σ .i64 b a K :=
  gix h hi hn fun h' => by rw [← gt_eq h']; exact hk
theorem gt_in {xs : List Int} {a b : Int} (h : ∀ x ∈ xs, a ≤ x ∧ x ≤ b) (h0 : a ≤ 0 ∧ 0 ≤ b) (i : Int) : a ≤ gt xs i ∧ gt xs i ≤ b := by
  by_cases hi : i.toNat < xs.length
  · rw [gt_eq hi]; exact h _ (List.getElem_mem hi)
  · have : gt xs i = 0 := by simp [gt, List.getD, hi]
    rw [this]; exact h0
theorem Gnd.okT {g : Gnd} (h : g.ok = true) : ∀ x ∈ g.T, 0 ≤ x ∧ x ≤ 100 := by
  unfold Gnd.ok at h
  simp only [Bool.and_eq_true, List.all_eq_true, decide_eq_true_eq] at h
  exact h.2
theorem Gnd.okC {g : Gnd} (h : g.ok = true) : ∀ x ∈ g.C, 0 ≤ x ∧ x ≤ 3 := by
  unfold Gnd.ok at h
  simp only [Bool.and_eq_true, List.all_eq_true, decide_eq_true_eq] at h
  exact h.1.2
theorem Gnd.ok.s {g : Gnd} (h : g.ok = true) : g.okS = true := (Gnd.ok_iff.1 h).1

/-! ### What is covered lies on the ground -/
theorem mem_rowC {W x r c : Int} {w : Nat} : c ∈ rowC W x w r ↔ ∃ k : Nat, k < w ∧ c = r * W + (x + k) := by
  simp only [rowC, List.mem_map, List.mem_range]
  exact ⟨fun ⟨k, h, e⟩ => ⟨k, h, e.symm⟩, fun ⟨k, h, e⟩ => ⟨k, h, e.symm⟩⟩
theorem mem_blkC {W x y c : Int} {w h : Nat} : c ∈ blkC W x y w h ↔ ∃ k : Nat, k < h ∧ ∃ j : Nat, j < w ∧ c = (y + k) * W + (x + j) := by
  simp only [blkC, List.mem_flatMap, List.mem_range, mem_rowC]
theorem Gnd.cov_in {g : Gnd} (ho : g.okS = true) {w h c : Int} (hw : 1 ≤ w) (hh : 1 ≤ h) : ∀ a ∈ (g.cov w h c).1, 0 ≤ a ∧ a < g.C.length := by
  intro a ha
  unfold Gnd.cov at ha
  split at ha
  · rename_i hin
    obtain ⟨hc, hx, hy⟩ := hin
    obtain ⟨m0, m1, d0, d1, e⟩ := Gnd.xy ho hc.1 hc.2
    obtain ⟨k, hk, j, hj, rfl⟩ := mem_blkC.1 ha
    obtain ⟨hW, hH, hl, _⟩ := Gnd.okS_iff.1 ho
    generalize Int.tmod c g.W = X at *
    generalize Int.tdiv c g.W = Y at *
    have e1 : 0 ≤ (Y + k) * g.W := Int.mul_nonneg (by omega) (by omega)
    have e2 : (Y + k) * g.W ≤ (g.H - 1) * g.W := Int.mul_le_mul_of_nonneg_right (by omega) (by omega)
    rw [Int.sub_mul, Int.one_mul, Int.mul_comm g.H] at e2
    omega
  · cases ha
theorem Gnd.cover_in {g : Gnd} (ho : g.okS = true) {p : Pit} (hp : g.pOK p = true) {s : Sit} : ∀ a ∈ (g.cover p s).1, 0 ≤ a ∧ a < g.C.length := by
  have := of_decide_eq_true hp
  unfold Gnd.cover
  split <;> exact Gnd.cov_in ho (by omega) (by omega)
theorem Gnd.cov_len {g : Gnd} {w h c : Int} (hw : 1 ≤ w ∧ w ≤ 8) (hh : 1 ≤ h ∧ h ≤ 8) : (g.cov w h c).1.length ≤ 64 ∧ ((g.cov w h c).2 = true → 0 < (g.cov w h c).1.length) := by
  unfold Gnd.cov
  split
  · simp only [blkC_len]
    have b1 : h.toNat * w.toNat ≤ 8 * 8 := Nat.mul_le_mul (by omega) (by omega)
    have b2 : 1 * 1 ≤ h.toNat * w.toNat := Nat.mul_le_mul (by omega) (by omega)
    omega
  · simp
theorem Gnd.cover_len {g : Gnd} {p : Pit} (hp : g.pOK p = true) {s : Sit} : (g.cover p s).1.length ≤ 64 ∧ ((g.cover p s).2 = true → 0 < (g.cover p s).1.length) := by
  have := of_decide_eq_true hp
  unfold Gnd.cover
  split <;> exact Gnd.cov_len (by omega) (by omega)

/-! ### Does a pitch fit -/
def loT (T cs : List Int) (k : Nat) : Int := (cs.take k).foldl (fun a c => if gt T c < a then gt T c else a) (gt T (gt cs 0))
def hiT (T cs : List Int) (k : Nat) : Int := (cs.take k).foldl (fun a c => if gt T c > a then gt T c else a) (gt T (gt cs 0))
theorem loT_succ {T cs : List Int} {k : Nat} (h : k < cs.length) : loT T cs (k + 1) = if gt T (gt cs k) < loT T cs k then gt T (gt cs k) else loT T cs k := by
  unfold loT
  rw [List.take_succ_eq_append_getElem h, List.foldl_append, gt_nat h]
  rfl
theorem hiT_succ {T cs : List Int} {k : Nat} (h : k < cs.length) : hiT T cs (k + 1) = if gt T (gt cs k) > hiT T cs k then gt T (gt cs k) else hiT T cs k := by
  unfold hiT
  rw [List.take_succ_eq_append_getElem h, List.foldl_append, gt_nat h]
  rfl
theorem loT_in {T cs : List Int} (h : ∀ x ∈ T, 0 ≤ x ∧ x ≤ 100) : ∀ k, k ≤ cs.length → 0 ≤ loT T cs k ∧ loT T cs k ≤ 100
  | 0, _ => by simpa [loT] using gt_in h (by omega) _
  | k + 1, hk => by
    have := loT_in (cs := cs) h k (by omega)
    have := gt_in h (by omega) (gt cs k)
    rw [loT_succ (by omega)]
    split <;> omega
theorem hiT_in {T cs : List Int} (h : ∀ x ∈ T, 0 ≤ x ∧ x ≤ 100) : ∀ k, k ≤ cs.length → 0 ≤ hiT T cs k ∧ hiT T cs k ≤ 100
  | 0, _ => by simpa [hiT] using gt_in h (by omega) _
  | k + 1, hk => by
    have := hiT_in (cs := cs) h k (by omega)
    have := gt_in h (by omega) (gt cs k)
    rw [hiT_succ (by omega)]
    split <;> omega
/-- fits, of what holds of each cell -/
def Gnd.fit (g : Gnd) (p : Pit) (s : Sit) (q : Int → Bool) : Bool :=
  (g.cover p s).2 && !(s.2 && decide (p.1 = p.2.1)) && (g.cover p s).1.all q && decide (hiT g.T (g.cover p s).1 (g.cover p s).1.length - loT g.T (g.cover p s).1 (g.cover p s).1.length ≤ p.2.2.1)
def Gnd.grass (g : Gnd) (c : Int) : Bool := decide (gt g.C c = 0)
theorem l_Cover {σ : Hp} {x : GV} {g : Gnd} {p : Pit} {s : Sit} {K : Option Addr → Nat → Nat → Bool → Hp → Prop} (hc : x.cn = g.C.length) (ho : g.okS = true) (hp : g.pOK p = true) (h : ∀ A n c σ', OwnSl 3 [.int .i64] σ A n c (g.cover p s).1 σ' → K A n c (g.cover p s).2 σ') :
    cl Try.prog (.func (.func N_ref04_Cover) #[] #[]) #[x.v g, pv p, sv s] σ fun v σ' => ∃ A : Option Addr, ∃ l c : Nat, ∃ t : Bool, (v = .tuple #[.slice A l c, .bool t] ∧ K A l c t σ') :=
  clSB M_ref04_Cover_enter (c_Cover hc ho hp) h
theorem all_false {cs : List Int} {q : Int → Bool} {k : Nat} (hk : k < cs.length) (h : q (gt cs k) = false) : cs.all q = false := by
  rw [gt_nat hk] at h
  cases e : cs.all q with
  | false => rfl
  | true => rw [List.all_eq_true] at e; rw [e _ (List.getElem_mem hk)] at h; cases h
theorem all_true {cs : List Int} {q : Int → Bool} (h : ∀ j : Nat, j < cs.length → q (gt cs j) = true) : cs.all q = true := by
  rw [List.all_eq_true]
  intro x hx
  obtain ⟨i, hi, rfl⟩ := List.getElem_of_mem hx
  rw [← gt_nat hi]
  exact h i hi
theorem gt_mem {cs : List Int} {k : Nat} (h : k < cs.length) : gt cs k ∈ cs := by rw [gt_nat h]; exact List.getElem_mem h

theorem c_ref04_fits {σ : Hp} {x : GV} {g : Gnd} {p : Pit} {s : Sit} (hg : GRd σ x g) (hok : g.ok = true) (hp : g.pOK p = true) :
    FCalls Try.prog N_ref04_fits #[x.v g, pv p, sv s] σ fun v σ' => v = .bool (g.fit p s g.grass) ∧ σ' = σ := by
  refine M_ref04_fits_ok _ _ _ _ _ _ _ _ _ _ _ _ _ _ _ _ _ ?_
  unfold M_ref04_fits
  have ho := Gnd.ok.s hok
  have hcn := hg.c.lenI
  refine l_Cover hcn ho hp fun A n c σ' hown => ?_
  have hl := hown.len
  have hl' : n = (g.cover p s).1.length := hl
  have hin := Gnd.cover_in (s := s) ho hp
  obtain ⟨l1, l2⟩ := Gnd.cover_len (s := s) hp
  have hrd := hown.rd
  have hrd' : RdS [.int .i64] σ' A n (g.cover p s).1 := hrd
  have hg' := hg.sub hown.sub
  have hs := hown.sub
  have hT := Gnd.okT hok
  obtain ⟨_, g2, g3⟩ := Gnd.okS_len ho
  unfold Gnd.fit
  generalize (g.cover p s).1 = cs at *
  generalize (g.cover p s).2 = is at *
  refine cut_intro fun J7 h7 => cut_intro fun J56 h56 => ?_
  have k7 : is = true → (s.2 && decide (p.1 = p.2.1)) = false → J7 σ' := by
    rintro rfl hq
    rw [h7, hq]
    intro _
    have l3 := l2 rfl
    have i0 : 0 ≤ gt cs 0 ∧ gt cs 0 < g.C.length := hin _ (gt_mem l3)
    refine gixg hrd' (by omega) (by omega) ?_
    refine gixg hg'.h (by omega) (by omega) ?_
    refine gixg hrd' (by omega) (by omega) ?_
    refine gixg hg'.h (by omega) (by omega) ?_
    refine cut_intro fun J22 h22 => ?_
    refine ⟨fun n lo hi i τ => ∃ k : Nat, n = cs.length - k ∧ i = k ∧ k ≤ cs.length ∧ lo = loT g.T cs k ∧ hi = hiT g.T cs k ∧ τ = σ' ∧ ∀ j : Nat, j < k → g.grass (gt cs j) = true, ⟨_, 0, rfl, rfl, by omega, by simp [loT], by simp [hiT], rfl, fun j h => by omega⟩, ?_⟩
    rintro m lo hi i τ ⟨k, rfl, rfl, hk, rfl, rfl, rfl, hj⟩ _
    refine bc_d (fun hlt => ?_) (fun hlt => ?_)
    · have hkl : k < cs.length := by omega
      have ik := hin _ (gt_mem hkl)
      refine gixg hrd' (by omega) (by omega) ?_
      refine gixg hg'.c (by omega) (by omega) ?_
      refine bc_nd (fun hn => rt_sub hs ⟨?_, rfl⟩) (fun hn => ?_)
      · rw [all_false hkl (show g.grass (gt cs k) = false by simpa [Gnd.grass] using hn)]
        simp
      · refine gixg hrd' (by omega) (by omega) ?_
        refine gixg hg'.h (by omega) (by omega) ?_
        refine gixg hrd' (by omega) (by omega) ?_
        refine gixg hg'.h (by omega) (by omega) ?_
        refine wk_i (by omega) (bk_of _ (by omega) ⟨k + 1, rfl, rfl, by omega, (loT_succ hkl).symm, (hiT_succ hkl).symm, rfl, fun j hjk => ?_⟩)
        rcases Nat.lt_or_ge j k with hlt | hge
        · exact hj j hlt
        · have : j = k := by omega
          subst this
          simpa [Gnd.grass] using hn
    · rw [h22]
      intro _
      have : k = cs.length := by omega
      subst this
      have := loT_in hT cs.length (Nat.le_refl (cs.length))
      have := hiT_in hT cs.length (Nat.le_refl (cs.length))
      refine wk_i (by omega) (rt_sub hs ⟨?_, rfl⟩)
      rw [all_true hj]
      simp
  have k56 : ∀ t, t = (!is || (s.2 && decide (p.1 = p.2.1))) → J56 t σ' := by
    rintro t rfl
    rw [h56]
    intro _
    refine bc_b (fun h => rt_sub hs ⟨?_, rfl⟩) (fun h => k7 ?_ ?_)
    · cases is <;> simp_all
    · cases is <;> simp_all
    · cases is <;> simp_all
  refine bc_nb (fun h => k56 _ ?_) (fun h => bc_b (fun h2 => k56 _ ?_) (fun h2 => k56 _ ?_)) <;> simp [*]
end Go.Proofs.Ytmpkiaghkhhlhaa

/- Contracts of layer 4: cells and fits of a field. No conditions but those that each theorem names. -/
namespace Go.Proofs.Ytmpkiaghkhhlhaa
open Go.RowKit

theorem tail_or {α : Type} {p : α → Prop} {k j : Nat} {f : Nat → α} (hj : ∀ j, j < k → p (f j)) (hk : p (f k)) (h : j < k + 1) : p (f j) := by
  rcases Nat.lt_or_ge j k with hlt | hge
  · exact hj j hlt
  · have : j = k := by omega
    subst this
    exact hk
/-- a pitch by its number -/
def pt (l : List Pit) (i : Int) : Pit := l.getD i.toNat (0, 0, 0, 0, 0)
theorem pt_eq {l : List Pit} {i : Int} (h : i.toNat < l.length) : pt l i = l[i.toNat] := by simp [pt, List.getD, h]
theorem pt_nat {l : List Pit} {k : Nat} (h : k < l.length) : pt l k = l[k] := by rw [pt_eq (by simpa using h)]; simp
theorem pix {σ : Hp} {A : Option Addr} {n : Nat} {xs : List Pit} {i : Int} {K : Int → Int → Int → Int → Int → Prop} (h : RdS sP σ A n xs) (hi : 0 ≤ i) (hn : i < xs.length) (hk : K (pt xs i).1 (pt xs i).2.1 (pt xs i).2.2.1 (pt xs i).2.2.2.1 (pt xs i).2.2.2.2) :
    ix A n i 5 fun b a => ldI σ .i64 b a fun x1 => ldI σ .i64 b (a + 1) fun x2 => ldI σ .i64 b (a + 2) fun x3 => ldI σ .i64 b (a + 3) fun x4 => ldI σ .i64 b (a + 4) fun x5 => K x1 x2 x3 x4 x5 :=
  ix_pit h hi (by omega) (by rw [← pt_eq (by omega)]; exact hk)
theorem pix0 {σ : Hp} {A : Option Addr} {n : Nat} {xs : List Pit} {i : Int} {K : Int → Prop} (h : RdS sP σ A n xs) (hi : 0 ≤ i) (hn : i < xs.length) (hk : K (pt xs i).1) : ix A n i 5 fun b a => ldI σ .i64 b a K :=
  ix_pit0 h hi (by omega) (by rw [← pt_eq (by omega)]; exact hk)
theorem pix1 {σ : Hp} {A : Option Addr} {n : Nat} {xs : List Pit} {i : Int} {K : Int → Prop} (h : RdS sP σ A n xs) (hi : 0 ≤ i) (hn : i < xs.length) (hk : K (pt xs i).2.1) : ix A n i 5 fun b a => ldI σ .i64 b (a + 1) K :=
  ix_pit1 h hi (by omega) (by rw [← pt_eq (by omega)]; exact hk)
/-- a site by its number -/
def sit (l : List Sit) (i : Int) : Sit := l.getD i.toNat (0, false)
theorem sit_eq {l : List Sit} {i : Int} (h : i.toNat < l.length) : sit l i = l[i.toNat] := by simp [sit, List.getD, h]
theorem sit_nat {l : List Sit} {k : Nat} (h : k < l.length) : sit l k = l[k] := by rw [sit_eq (by simpa using h)]; simp
theorem RdS.lenS {σ : Hp} {A : Option Addr} {n : Nat} {xs : List Sit} (h : RdS sS σ A n xs) : n = xs.length := h.1
theorem six {σ : Hp} {A : Option Addr} {n : Nat} {xs : List Sit} {i : Int} {K : Int → Bool → Prop} (h : RdS sS σ A n xs) (hi : 0 ≤ i) (hn : i < xs.length) (hk : K (sit xs i).1 (sit xs i).2) :
    ix A n i 2 fun b a => ldI σ .i64 b a fun x1 => ldB σ b (a + 1) fun x2 => K x1 x2 := by
  have h' : i.toNat < xs.length := by omega
  rw [sit_eq h'] at hk
  refine ix_of (ss := sS) h rfl hi h' fun b o hc => ?_
  exact ldI_of (hc 0 (by decide)) (ldB_of (hc 1 (by decide)) hk)
theorem six0 {σ : Hp} {A : Option Addr} {n : Nat} {xs : List Sit} {i : Int} {K : Int → Prop} (h : RdS sS σ A n xs) (hi : 0 ≤ i) (hn : i < xs.length) (hk : K (sit xs i).1) :
    ix A n i 2 fun b a => ldI σ .i64 b a K := by
  have h' : i.toNat < xs.length := by omega
  rw [sit_eq h'] at hk
  refine ix_of (ss := sS) h rfl hi h' fun b o hc => ?_
  exact ldI_of (hc 0 (by decide)) hk

theorem FdR.cn {σ : Hp} {f : Option Addr} {V : FA} {F : Fd} (h : FdR σ f V F) : V.x.cn = F.g.C.length := h.gr.c.lenI
theorem FdR.pn {σ : Hp} {f : Option Addr} {V : FA} {F : Fd} (h : FdR σ f V F) : V.ln = F.l.length := h.pr.lenP
theorem Fd.ok.pt {F : Fd} (h : F.ok) {i : Int} (h0 : 0 ≤ i) (h1 : i < F.l.length) : F.g.pOK (pt F.l i) = true := by
  rw [pt_eq (by omega)]
  exact h.p _ (by omega)
theorem c_cells {σ : Hp} {f : Option Addr} {V : FA} {F : Fd} {i : Int} {s : Sit} (hf : FdR σ f V F) (hF : F.ok) (i0 : 0 ≤ i) (i1 : i < F.l.length) :
    FCalls Try.prog N_ground_field_cells #[.pointer f, .int .i64 i, sv s] σ (NewLB 3 [.int .i64] σ (F.g.cover (pt F.l i) s).1 (F.g.cover (pt F.l i) s).2) := by
  refine M_ground_field_cells_ok _ _ _ _ _ _ ?_
  unfold M_ground_field_cells
  have ho := hF.s
  have hp := hF.pt i0 i1
  obtain ⟨hW, hH, hl, _⟩ := Gnd.okS_iff.1 ho
  obtain ⟨l1, l2, _⟩ := Gnd.okS_len ho
  have hp' := of_decide_eq_true hp
  have hc := hf.cn
  refine hf.dP (pix0 hf.pr i0 i1 (hf.dP (pix1 hf.pr i0 i1 ?_)))
  generalize pt F.l i = p at *
  generalize hgg : F.g = g at *
  refine cut_intro fun J7 h7 => ?_
  have k7 : ∀ w h' : Int, (1 ≤ w ∧ w ≤ 8) → (1 ≤ h' ∧ h' ≤ 8) → g.cover p s = g.cov w h' s.1 → J7 w h' σ := by
    intro w hh bw bh hcov
    rw [h7, hcov]
    intro _
    refine cut_intro fun J13 h13 => cut_intro fun J50 h50 => ?_
    have k13 : ((0 ≤ s.1 ∧ s.1 ≤ (g.C.length : Int) - 1) ∧ Int.tmod s.1 g.W + w ≤ g.W ∧ Int.tdiv s.1 g.W + hh ≤ g.H) → J13 σ := by
      rintro ⟨h, hin⟩
      obtain ⟨m0, m1, d0, d1, e⟩ := Gnd.xy ho h.1 h.2
      rw [h13]
      intro _
      refine cut_intro fun J16 h16 => ?_
      have ecov : g.cov w hh s.1 = (blkC g.W (Int.tmod s.1 g.W) (Int.tdiv s.1 g.W) w.toNat hh.toNat, true) := by
        unfold Gnd.cov
        rw [if_pos ⟨h, hin⟩]
      rw [ecov] at h16
      generalize hx : Int.tmod s.1 g.W = X at *
      generalize hy : Int.tdiv s.1 g.W = Y at *
      refine ⟨fun n A l c r σ' => ∃ k : Nat, n = hh.toNat - k ∧ r = k ∧ k ≤ hh.toNat ∧ OwnSl 3 [.int .i64] σ A l c (blkC g.W X Y w.toNat k) σ', ⟨_, 0, rfl, by omega, by omega, ?_⟩, ?_⟩
      · exact OwnSl.nil ..
      rintro n A l c r σ' ⟨k, rfl, rfl, hk, hown⟩ _
      refine bc_d (fun hlt => ?_) (fun hlt => ?_)
      · refine cut_intro fun J27 h27 => ?_
        refine ⟨fun n A l c q σ' => ∃ j : Nat, n = w.toNat - j ∧ q = j ∧ j ≤ w.toNat ∧ OwnSl 3 [.int .i64] σ A l c (blkC g.W X Y w.toNat k ++ rowC g.W X j (Y + k)) σ', ⟨_, 0, rfl, by omega, by omega, ?_⟩, ?_⟩
        · simpa [rowC] using hown
        rintro n A l c q σ' ⟨j, rfl, rfl, hj, hown⟩ _
        refine bc_d (fun hlt2 => ?_) (fun hlt2 => ?_)
        · have b1 := mulle (a := (k : Int)) (b := g.W) (m := 8) (n := 8) (by omega) (by omega) (by omega) (by omega)
          have hb : FdB σ' f V g F.l := by have := hf.toFdB.sub hown.sub; rw [hgg] at this; exact this
          refine hb.dW (wk_i (by omega) (wk_i (by omega) (wk_i (by omega) (adp_own hown (roomy_i ?_ (wk_i (by omega) (bk_of _ ?_ fun A l c σ' hown' => ⟨j + 1, rfl, by omega, by omega, ?_⟩)))))))
          · have b2 : k * w.toNat ≤ 8 * 8 := Nat.mul_le_mul (by omega) (by omega)
            simp only [List.length_append, blkC_len, rowC_len, List.length_cons, List.length_nil]
            omega
          · omega
          · rw [rowC_succ, ← List.append_assoc]
            have e3 : s.1 + (k : Int) * g.W + (j : Int) = (Y + k) * g.W + (X + j) := by rw [Int.add_mul]; omega
            rw [← e3]
            exact hown'
        · rw [h27]
          intro _
          refine wk_i (by omega) (bk_of _ ?_ ⟨k + 1, rfl, by omega, by omega, ?_⟩)
          · omega
          · have : j = w.toNat := by omega
            subst this
            rw [blkC_succ]
            exact hown
      · rw [h16]
        intro _
        have : k = hh.toNat := by omega
        subst this
        exact rt_of ⟨_, _, _, rfl, hown⟩
    have k50 : ∀ t, t = !decide ((0 ≤ s.1 ∧ s.1 ≤ (g.C.length : Int) - 1) ∧ Int.tmod s.1 g.W + w ≤ g.W ∧ Int.tdiv s.1 g.W + hh ≤ g.H) → J50 t σ := by
      rintro t rfl
      rw [h50]
      intro _
      refine bc_nd (fun hn => rt_of ?_) (fun hn => k13 hn)
      have : g.cov w hh s.1 = ([], false) := by
        unfold Gnd.cov
        rw [if_neg hn]
      rw [this]
      exact ⟨none, 0, 0, rfl, OwnSl.nil ..⟩
    have hb : FdB σ f V g F.l := by have := hf.toFdB; rw [hgg] at this; exact this
    refine hb.dC (wk_i (by omega) (l_gw (bc_nd (fun h => bc_t (k50 _ ?_)) (fun h => ?_))))
    · rw [hc] at h
      simp only [Bool.true_eq, Bool.not_eq_true', decide_eq_false_iff_not]
      exact fun h' => h h'.1
    · rw [hc] at h
      obtain ⟨m0, m1, d0, d1, e⟩ := Gnd.xy ho h.1 h.2
      refine hb.dW ⟨by omega, wk_i (by omega) (hb.dW (bc_d (fun h1 => k50 _ ?_) (fun h1 => hb.dW ⟨by omega, wk_i (by omega) (wk_i (by omega) (hb.dH (k50 _ ?_)))⟩)))⟩
      · simp only [Bool.true_eq, Bool.not_eq_true', decide_eq_false_iff_not]
        omega
      · simp only [← decide_not]
        exact decide_eq_decide.2 (by omega)
  refine bc_b (fun ht => k7 _ _ (by omega) (by omega) ?_) (fun ht => k7 _ _ (by omega) (by omega) ?_) <;> simp [Gnd.cover, ht]
theorem l_cells {σ : Hp} {f : Option Addr} {V : FA} {F : Fd} {i : Int} {s : Sit} {K : Option Addr → Nat → Nat → Bool → Hp → Prop} (hf : FdR σ f V F) (hF : F.ok) (i0 : 0 ≤ i) (i1 : i < F.l.length)
    (h : ∀ A n c σ', OwnSl 3 [.int .i64] σ A n c (F.g.cover (pt F.l i) s).1 σ' → K A n c (F.g.cover (pt F.l i) s).2 σ') :
    cl Try.prog (.func (.func N_ground_field_cells) #[] #[]) #[.pointer f, .int .i64 i, sv s] σ fun v σ' => ∃ A : Option Addr, ∃ l c : Nat, ∃ t : Bool, (v = .tuple #[.slice A l c, .bool t] ∧ K A l c t σ') :=
  clSB M_ground_field_cells_enter (c_cells hf hF i0 i1) h
/-- what a field says of a cell on which a pitch may be put -/
def Fd.bare (F : Fd) (c : Int) : Bool := decide (gt F.g.C c = 0 ∧ gt F.tk c < 0)
theorem c_field_fits {σ : Hp} {f : Option Addr} {V : FA} {F : Fd} {i : Int} {s : Sit} (hf : FdR σ f V F) (hF : F.ok) (i0 : 0 ≤ i) (i1 : i < F.l.length) :
    FCalls Try.prog N_ground_field_fits #[.pointer f, .int .i64 i, sv s] σ fun v σ' => v = .bool (F.g.fit (pt F.l i) s F.bare) ∧ σ' = σ := by
  refine M_ground_field_fits_ok _ _ _ _ _ _ ?_
  unfold M_ground_field_fits
  refine hf.dP (pix hf.pr i0 i1 ?_)
  refine l_cells hf hF i0 i1 fun A n c σ' hown => ?_
  have hok := hF.g
  have ho := hF.s
  have hp := hF.pt i0 i1
  have hl : n = (F.g.cover (pt F.l i) s).1.length := hown.len
  have hin := Gnd.cover_in (s := s) ho hp
  obtain ⟨l1, l2⟩ := Gnd.cover_len (s := s) hp
  have hrd' : RdS [.int .i64] σ' A n (F.g.cover (pt F.l i) s).1 := hown.rd
  have hf' := hf.sub hown.sub
  have hs := hown.sub
  have hT := Gnd.okT hok
  obtain ⟨_, g2, g3⟩ := Gnd.okS_len ho
  have gk := hF.tk
  unfold Gnd.fit
  generalize (F.g.cover (pt F.l i) s).1 = cs at *
  generalize (F.g.cover (pt F.l i) s).2 = is at *
  generalize pt F.l i = p at *
  refine cut_intro fun J7 h7 => cut_intro fun J56 h56 => ?_
  have k7 : is = true → (s.2 && decide (p.1 = p.2.1)) = false → J7 σ' := by
    rintro rfl hq
    rw [h7, hq]
    intro _
    have l3 := l2 rfl
    have i0 : 0 ≤ gt cs 0 ∧ gt cs 0 < F.g.C.length := hin _ (gt_mem l3)
    refine hf'.dT (gixg hrd' (by omega) (by omega) (gixg hf'.gr.h (by omega) (by omega) ?_))
    refine hf'.dT (gixg hrd' (by omega) (by omega) (gixg hf'.gr.h (by omega) (by omega) ?_))
    refine cut_intro fun J22 h22 => ?_
    refine ⟨fun n lo hi i τ => ∃ k : Nat, n = cs.length - k ∧ i = k ∧ k ≤ cs.length ∧ lo = loT F.g.T cs k ∧ hi = hiT F.g.T cs k ∧ τ = σ' ∧ ∀ j : Nat, j < k → F.bare (gt cs j) = true, ⟨_, 0, rfl, rfl, by omega, by simp [loT], by simp [hiT], rfl, fun j h => by omega⟩, ?_⟩
    rintro m lo hi i τ ⟨k, rfl, rfl, hk, rfl, rfl, rfl, hj⟩ _
    refine bc_d (fun hlt => ?_) (fun hlt => ?_)
    · have hkl : k < cs.length := by omega
      have ik := hin _ (gt_mem hkl)
      refine cut_intro fun J51 h51 => ?_
      refine gixg hrd' (by omega) (by omega) ?_
      refine cut_intro fun J62 h62 => cut_intro fun J77 h77 => ?_
      have k77 : ∀ t, t = (!F.bare (gt cs k)) → J77 t τ := by
        rintro t rfl
        rw [h77]
        intro _
        refine bc_nb (fun hn => rt_sub hs ⟨?_, rfl⟩) (fun hn => ?_)
        · rw [all_false hkl hn]
          simp
        · rw [h62]
          intro _
          refine hf'.dT (gixg hf'.gr.h (by omega) (by omega) ?_)
          refine hf'.dT (gixg hf'.gr.h (by omega) (by omega) ?_)
          rw [h51]
          intro _
          exact wk_i (by omega) (bk_of _ (by omega) ⟨k + 1, rfl, rfl, by omega, (loT_succ hkl).symm, (hiT_succ hkl).symm, rfl, fun j hjk => tail_or (p := fun a => F.bare a = true) (f := fun j : Nat => gt cs j) hj hn hjk⟩)
      refine hf'.dC (gixg hf'.gr.c (by omega) (by omega) (bc_nd (fun hn => k77 _ ?_) (fun hn => hf'.dK (gixg hf'.tr (by omega) (by omega) (k77 _ ?_)))))
      · simp [Fd.bare, hn]
      · simp only [Fd.bare, hn, true_and, ← decide_not]
        exact decide_eq_decide.2 (by omega)
    · rw [h22]
      intro _
      have : k = cs.length := by omega
      subst this
      have := loT_in hT cs.length (Nat.le_refl (cs.length))
      have := hiT_in hT cs.length (Nat.le_refl (cs.length))
      refine wk_i (by omega) (rt_sub hs ⟨?_, rfl⟩)
      rw [all_true hj]
      simp
  have k56 : ∀ t, t = (!is || (s.2 && decide (p.1 = p.2.1))) → J56 t σ' := by
    rintro t rfl
    rw [h56]
    intro _
    refine bc_b (fun h => rt_sub hs ⟨?_, rfl⟩) (fun h => k7 ?_ ?_)
    · cases is <;> simp_all
    · cases is <;> simp_all
    · cases is <;> simp_all
  refine bc_nb (fun h => k56 _ ?_) (fun h => bc_b (fun h2 => k56 _ ?_) (fun h2 => k56 _ ?_)) <;> simp [*]
end Go.Proofs.Ytmpkiaghkhhlhaa

/- Contracts of layer 4: taken, beside and Check of the reference. No conditions but those that each theorem names. -/
namespace Go.Proofs.Ytmpkiaghkhhlhaa
open Go.RowKit

theorem RdS.take {ss : List Sh} {σ : Hp} {A : Option Addr} {n : Nat} {xs : List (TyR ss)} (h : RdS ss σ A n xs) {k : Nat} (hk : k ≤ n) : RdS ss σ A k (xs.take k) := by
  refine ⟨?_, ?_⟩
  · rw [List.length_take]; have := h.1; omega
  · rcases h.2 with h0 | ⟨b, off, cells, e, f, rw, hA, hb, hr⟩
    · exact .inl (by omega)
    · exact .inr ⟨b, off, cells, e, f, rw, hA, hb, hr.take k⟩
/-- a truth value of a list -/
def gb (xs : List Bool) (i : Int) : Bool := xs.getD i.toNat false
theorem gb_eq {xs : List Bool} {i : Int} (h : i.toNat < xs.length) : gb xs i = xs[i.toNat] := by simp [gb, List.getD, h]
theorem gb_nat {xs : List Bool} {k : Nat} (h : k < xs.length) : gb xs k = xs[k] := by rw [gb_eq (by simpa using h)]; simp
theorem bix {σ : Hp} {A : Option Addr} {n : Nat} {xs : List Bool} {i : Int} {K : Bool → Prop} (h : RdS [.bool] σ A n xs) (hi : 0 ≤ i) (hn : i < xs.length) (hk : K (gb xs i)) : ix A n i 1 fun b a => ldB σ b a K :=
  ix_ldB h hi (by omega) (by rw [← gb_eq (by omega)]; exact hk)
def setAll (xs : List Bool) (cs : List Int) : List Bool := cs.foldl (fun a c => a.set c.toNat true) xs
theorem setAll_len (xs : List Bool) (cs : List Int) : (setAll xs cs).length = xs.length := by
  induction cs generalizing xs with
  | nil => rfl
  | cons c cs ih => exact (ih _).trans (by simp)
theorem setAll_succ {xs : List Bool} {cs : List Int} {k : Nat} (h : k < cs.length) : setAll xs (cs.take (k + 1)) = (setAll xs (cs.take k)).set (gt cs k).toNat true := by
  unfold setAll
  rw [List.take_succ_eq_append_getElem h, List.foldl_append, gt_nat h]
  rfl
/-- which cells the first k sites of a layout have, but for one -/
def Gnd.takS (g : Gnd) (l : List Pit) (st : List Sit) (but : Int) : Nat → List Bool
  | 0 => List.replicate g.C.length false
  | k + 1 => if (k : Int) = but ∨ (sit st k).1 < 0 then g.takS l st but k else setAll (g.takS l st but k) (g.cover (pt l k) (sit st k)).1
theorem takS_len {g : Gnd} {l : List Pit} {st : List Sit} {but : Int} : ∀ k, (g.takS l st but k).length = g.C.length
  | 0 => by simp [Gnd.takS]
  | k + 1 => by
    unfold Gnd.takS
    split
    · exact takS_len k
    · rw [setAll_len, takS_len k]
theorem sit_take {st : List Sit} {k j : Nat} (h : j < k) : sit (st.take k) j = sit st j := by
  simp [sit, List.getD, h]
theorem takS_take {g : Gnd} {l : List Pit} {st : List Sit} {but : Int} {m : Nat} : ∀ k, k ≤ m → g.takS l (st.take m) but k = g.takS l st but k
  | 0, _ => rfl
  | k + 1, h => by
    unfold Gnd.takS
    rw [takS_take k (by omega), sit_take (by omega)]
theorem lat_b {xs : List Bool} {i : Int} {K : Bool → Prop} (h0 : 0 ≤ i) (h1 : i < xs.length) (hk : K (gb xs i)) : lat xs i.toNat K := ⟨by omega, by rw [← gb_eq (by omega)]; exact hk⟩
theorem lat_I {xs : List Int} {i : Int} {K : Int → Prop} (h0 : 0 ≤ i) (h1 : i < xs.length) (hk : K (gt xs i)) : lat xs i.toNat K := ⟨by omega, by rw [← gt_eq (by omega)]; exact hk⟩

theorem c_taken {σ : Hp} {x : GV} {g : Gnd} {lA sA : Option Addr} {ln lc sn sc : Nat} {l : List Pit} {st : List Sit} {but : Int} (hg : GRd σ x g) (ho : g.okS = true) (hl : RdS sP σ lA ln l) (hst : RdS sS σ sA sn st)
    (hp : ∀ i, (h : i < l.length) → g.pOK l[i] = true) (hle : st.length ≤ l.length) (h8 : l.length ≤ 8) :
    FCalls Try.prog N_ref04_taken #[x.v g, .slice lA ln lc, .slice sA sn sc, .int .i64 but] σ (NewL 4 [.bool] σ (g.takS l st but st.length)) := by
  refine M_ref04_taken_ok _ _ _ _ _ _ _ _ _ _ _ _ _ _ _ _ _ ?_
  unfold M_ref04_taken
  obtain ⟨l1, l2, _⟩ := Gnd.okS_len ho
  have hcn := hg.c.lenI
  have hsn := hst.lenS
  have hln := hl.lenP
  refine ⟨by omega, by omega, by omega, cut_intro fun J3 h3 => ?_⟩
  refine ⟨fun n i xs τ => ∃ k : Nat, n = st.length - k ∧ i = k ∧ k ≤ st.length ∧ xs = g.takS l st but k ∧ τ = σ, ⟨_, 0, rfl, rfl, by omega, by simp [Gnd.takS, hcn], rfl⟩, ?_⟩
  rintro n i xs τ ⟨k, rfl, rfl, hk, rfl, rfl⟩ _
  refine bc_d (fun hlt => ?_) (fun hlt => ?_)
  · have hkl : k < st.length := by omega
    refine cut_intro fun J15 h15 => cut_intro fun J22 h22 => cut_intro fun J53 h53 => ?_
    have k15 : ∀ σ', Hp.Sub τ σ' → J15 (g.takS l st but (k + 1)) σ' := by
      intro σ' hs
      rw [h15]
      intro _
      exact wk_i (by omega) (bk_sub _ (by omega) hs ⟨k + 1, rfl, rfl, by omega, rfl, rfl⟩)
    have k53 : ∀ t, t = decide ((k : Int) = but ∨ (sit st k).1 < 0) → J53 t τ := by
      rintro t rfl
      rw [h53]
      intro _
      refine bc_d (fun h => ?_) (fun h => ?_)
      · have := k15 τ (Hp.Sub.refl _)
        rw [show g.takS l st but (k + 1) = g.takS l st but k by simp [Gnd.takS, h]] at this
        exact this
      · rw [h22]
        intro _
        have ek : g.takS l st but (k + 1) = setAll (g.takS l st but k) (g.cover (pt l k) (sit st k)).1 := by
          rw [Gnd.takS, if_neg h]
        rw [ek] at k15
        have hpk : g.pOK (pt l k) = true := by rw [pt_nat (show k < l.length by omega)]; exact hp _ _
        refine pix hl (by omega) (by omega) (six hst (by omega) (by omega) ?_)
        refine l_Cover hcn ho hpk fun A n c σ' hown => ?_
        have hin := Gnd.cover_in (s := sit st k) ho hpk
        have hl : n = (g.cover (pt l k) (sit st k)).1.length := hown.len
        have hrd' : RdS [.int .i64] σ' A n (g.cover (pt l k) (sit st k)).1 := hown.rd
        obtain ⟨c1, c2⟩ := Gnd.cover_len (s := sit st k) hpk
        generalize (g.cover (pt l k) (sit st k)).1 = cs at *
        refine ⟨fun n i xs τ => ∃ j : Nat, n = cs.length - j ∧ i = j ∧ j ≤ cs.length ∧ xs = setAll (g.takS l st but k) (cs.take j) ∧ τ = σ', ⟨_, 0, rfl, rfl, by omega, by simp [setAll], rfl⟩, ?_⟩
        rintro m i xs τ2 ⟨j, rfl, rfl, hj, rfl, rfl⟩ _
        refine bc_d (fun hlt2 => ?_) (fun hlt2 => ?_)
        · have hjl : j < cs.length := by omega
          have ij := hin _ (gt_mem hjl)
          have hlen : (setAll (g.takS l st but k) (cs.take j)).length = g.C.length := by rw [setAll_len, takS_len]
          refine gixg hrd' (by omega) (by omega) ⟨by omega, by omega, lat_b (by omega) (by omega) (wk_i (by omega) (bk_of _ (by omega) ⟨j + 1, rfl, rfl, by omega, (setAll_succ hjl).symm, rfl⟩))⟩
        · have : j = cs.length := by omega
          subst this
          rw [List.take_length]
          exact k15 _ hown.sub
    refine bc_d (fun h => k53 _ ?_) (fun h => six0 hst (by omega) (by omega) (k53 _ ?_))
    · simp [h]
    · simp [h]
  · rw [h3]
    intro _
    have : k = st.length := by omega
    subst this
    exact fun A n c σ' hown => rt_of ⟨_, _, _, rfl, hown⟩
def Gnd.bes (g : Gnd) (p : Pit) (s : Sit) (full : List Bool) : Bool := g.fit p s g.grass && (g.cover p s).1.all fun c => !gb full c
theorem c_ref04_beside {σ : Hp} {x : GV} {g : Gnd} {p : Pit} {s : Sit} {fA : Option Addr} {fn fc : Nat} {full : List Bool} (hg : GRd σ x g) (hok : g.ok = true) (hp : g.pOK p = true) (hf : RdS [.bool] σ fA fn full) (hfl : full.length = g.C.length) :
    FCalls Try.prog N_ref04_beside #[x.v g, pv p, sv s, .slice fA fn fc] σ fun v σ' => v = .bool (g.bes p s full) ∧ σ' = σ := by
  refine M_ref04_beside_ok _ _ _ _ _ _ _ _ _ _ _ _ _ _ _ _ _ _ _ _ ?_
  unfold M_ref04_beside
  have ho := Gnd.ok.s hok
  refine clB M_ref04_fits_enter (c_ref04_fits hg hok hp) ?_
  refine bc_nb (fun h => rt_of ⟨?_, rfl⟩) (fun h => ?_)
  · simp [Gnd.bes, h]
  · refine l_Cover hg.c.lenI ho hp fun A n c σ' hown => ?_
    have hin := Gnd.cover_in (s := s) ho hp
    have hl : n = (g.cover p s).1.length := hown.len
    have hrd' : RdS [.int .i64] σ' A n (g.cover p s).1 := hown.rd
    have hf' := hf.sub hown.sub
    have hs := hown.sub
    obtain ⟨c1, c2⟩ := Gnd.cover_len (s := s) hp
    unfold Gnd.bes
    rw [h]
    generalize (g.cover p s).1 = cs at *
    refine cut_intro fun J h10 => ?_
    refine ⟨fun n i τ => ∃ j : Nat, n = cs.length - j ∧ i = j ∧ j ≤ cs.length ∧ τ = σ' ∧ ∀ i : Nat, i < j → (!gb full (gt cs i)) = true, ⟨_, 0, rfl, rfl, by omega, rfl, fun j h => by omega⟩, ?_⟩
    rintro m i τ2 ⟨j, rfl, rfl, hj, rfl, hq⟩ _
    refine bc_d (fun hlt2 => ?_) (fun hlt2 => ?_)
    · have hjl : j < cs.length := by omega
      have ij := hin _ (gt_mem hjl)
      refine gixg hrd' (by omega) (by omega) (bix hf' (by omega) (by omega) (bc_b (fun ht => rt_sub hs ⟨?_, rfl⟩) (fun ht => ?_)))
      · rw [all_false hjl (by simp [ht])]
        rfl
      · exact wk_i (by omega) (bk_of _ (by omega) ⟨j + 1, rfl, rfl, by omega, rfl, fun j hjk => tail_or (p := fun a => (!gb full a) = true) (f := fun j : Nat => gt cs j) hq (by simp [ht]) hjk⟩)
    · rw [h10]
      intro _
      have : j = cs.length := by omega
      subst this
      refine rt_sub hs ⟨?_, rfl⟩
      rw [all_true hq]
      rfl
/-- is the k-th site of a layout right? -/
def Gnd.siteOK (g : Gnd) (l : List Pit) (st : List Sit) (k : Nat) : Bool := decide (sit st k = (-1, false)) || (decide (0 ≤ (sit st k).1) && g.bes (pt l k) (sit st k) (g.takS l st (-1) k))
def chkS (g : Gnd) (l : List Pit) (st : List Sit) : Int × Int :=
  if (chkP g l).2 ≠ 0 then chkP g l else if st.length ≠ l.length then (st.length, 41) else if 0 ≤ fidx (fun k => !g.siteOK l st k) (List.range l.length) then (fidx (fun k => !g.siteOK l st k) (List.range l.length), 41) else (0, 0)
theorem chkP_ok {g : Gnd} {l : List Pit} (h : (chkP g l).2 = 0) : g.ok = true ∧ l.length ≤ 8 ∧ (∀ i, (h : i < l.length) → g.pOK l[i] = true) ∧ chkP g l = (0, 0) := by
  unfold chkP at h ⊢
  cases hok : g.ok with
  | false => simp [hok] at h
  | true =>
    simp only [hok, Bool.true_eq_false, if_false] at h ⊢
    by_cases h8 : 8 < l.length
    · simp [h8] at h
    · simp only [h8, if_false] at h ⊢
      by_cases h0 : 0 ≤ fidx (fun p => !g.pOK p) l
      · simp [h0] at h
      · simp only [h0, if_false, and_true, true_and]
        refine ⟨by omega, fun i hi => ?_⟩
        have := fidx_any (p := fun p => !g.pOK p) (xs := l)
        rw [decide_eq_false h0] at this
        have := List.any_eq_false.1 this.symm _ (List.getElem_mem hi)
        simpa using this
theorem c_ref04_Check {σ : Hp} {x : GV} {g : Gnd} {lA sA : Option Addr} {ln lc sn sc : Nat} {l : List Pit} {st : List Sit} (hg : GRd σ x g) (hl : RdS sP σ lA ln l) (hst : RdS sS σ sA sn st) (hsc : sn ≤ sc) :
    FCalls Try.prog N_ref04_Check #[x.v g, .slice lA ln lc, .slice sA sn sc] σ fun v σ' => v = .tuple #[.int .i64 (chkS g l st).1, .int .i64 (chkS g l st).2] ∧ σ' = σ := by
  refine M_ref04_Check_ok _ _ _ _ _ _ _ _ _ _ _ _ _ _ _ _ ?_
  unfold M_ref04_Check
  have hsn := hst.lenS
  have hln := hl.lenP
  refine clII M_ref04_checkPitches_enter (c_checkPitches hg hl) ?_
  refine bc_nd (fun h => rt_of ⟨by rw [chkS, if_pos h], rfl⟩) (fun h => ?_)
  obtain ⟨hok, h8, hp, h00⟩ := chkP_ok h
  have ho := Gnd.ok.s hok
  refine bc_nd (fun h2 => rt_of ⟨by rw [chkS, if_neg (by simp [h]), if_pos (by omega), hsn], rfl⟩) (fun h2 => ?_)
  have hll : st.length = l.length := by omega
  have ec : chkS g l st = if 0 ≤ fidx (fun k => !g.siteOK l st k) (List.range l.length) then (fidx (fun k => !g.siteOK l st k) (List.range l.length), 41) else (0, 0) := by
    rw [chkS, if_neg (by simp [h]), if_neg (by omega)]
  rw [ec]
  refine cut_intro fun J7 h7 => ?_
  refine ⟨fun n i τ => ∃ k : Nat, n = l.length - k ∧ i = k ∧ k ≤ l.length ∧ τ = σ ∧ ∀ j, (h : j < (List.range l.length).length) → j < k → (!g.siteOK l st (List.range l.length)[j]) = false, ⟨_, 0, rfl, rfl, by omega, rfl, fun j _ h => by omega⟩, ?_⟩
  rintro n i τ ⟨k, rfl, rfl, hk, rfl, hj⟩ _
  refine bc_d (fun hlt => ?_) (fun hlt => ?_)
  · have hkl : k < l.length := by omega
    have hkr : k < (List.range l.length).length := by simpa using hkl
    refine cut_intro fun J15 h15 => ?_
    refine six hst (by omega) (by omega) (cut_intro fun J25 h25 => ?_)
    have k25 : ∀ t σ', Hp.Sub τ σ' → t = (!g.siteOK l st k) → J25 t σ' := by
      rintro t σ' hs rfl
      rw [h25]
      intro _
      refine bc_nb (fun hn => rt_sub hs ⟨?_, rfl⟩) (fun hn => ?_)
      · have := fidx_at (p := fun k => !g.siteOK l st k) hkr (by simp [hn]) hj
        rw [this]
        simp
      · rw [h15]
        intro _
        refine wk_i (by omega) (bk_sub _ (by omega) hs ⟨k + 1, rfl, rfl, by omega, rfl, fun j hjr hjk => ?_⟩)
        rcases Nat.lt_or_ge j k with hlt | hge
        · exact hj j hjr hlt
        · have : j = k := by omega
          subst this
          simp [hn]
    have hpk : g.pOK (pt l k) = true := by rw [pt_nat hkl]; exact hp _ _
    have e1 : decide (sit st k = (-1, false)) = (decide ((sit st k).1 = -1) && ((sit st k).2 == false)) := by
      cases hs : sit st k with
      | mk a b => cases b <;> simp
    refine bc_nb (fun hw => ?_) (fun hw => k25 _ _ (Hp.Sub.refl _) ?_)
    · refine six0 hst (by omega) (by omega) (bc_d (fun h0 => k25 _ _ (Hp.Sub.refl _) ?_) (fun h0 => ?_))
      · rw [← e1] at hw
        simp [Gnd.siteOK, hw, h0]
      · refine pix hl (by omega) (by omega) (six hst (by omega) (by omega) ⟨by omega, by omega, ?_⟩)
        have hst' : RdS sS τ sA k (st.take k) := hst.take (by omega)
        have hlt' : (st.take k).length = k := by rw [List.length_take]; omega
        refine clLs M_ref04_taken_enter (c_taken (st := st.take k) hg ho hl hst' hp (by omega) h8) ?_
        rw [hlt', takS_take k (Nat.le_refl _)]
        intro A n c σ' hown
        have hrd : RdS [.bool] σ' A n (g.takS l st (-1) k) := hown.rd
        refine clB M_ref04_beside_enter (c_ref04_beside (hg.sub hown.sub) hok hpk hrd (takS_len k)) (k25 _ _ hown.sub ?_)
        rw [← e1] at hw
        have h0' : 0 ≤ (sit st k).1 := by omega
        simp [Gnd.siteOK, hw, h0']
    · rw [← e1] at hw
      simp [Gnd.siteOK, hw]
  · rw [h7]
    intro _
    refine rt_of ⟨?_, rfl⟩
    have := fidx_none (p := fun k => !g.siteOK l st k) (xs := List.range l.length) fun j h => hj j h (by simp at h; omega)
    rw [this]
    simp
end Go.Proofs.Ytmpkiaghkhhlhaa

/- Contracts of layer 4: slices.Repeat. No conditions but those that each theorem names. -/
namespace Go.Proofs.Ytmpkiaghkhhlhaa
open Go.RowKit

theorem u64_wrap {e : Int} (h : 0 ≤ e ∧ e ≤ 18446744073709551615) : IntKind.u64.wrap e = e := by
  have h1 : IntKind.u64.wrap e = e % 18446744073709551616 := by
    unfold IntKind.wrap
    simp [IntKind.signed, IntKind.bits]
  rw [h1]
  omega
theorem wk_u {e : Int} {K : Int → Prop} (h : 0 ≤ e ∧ e ≤ 18446744073709551615) (hk : K e) : wk .u64 e K := by
  unfold wk
  rw [u64_wrap h]
  exact hk
theorem and32 {x : Int} (h : 0 ≤ x ∧ x < 4294967296) : (((BitVec.ofInt (IntKind.bits .u64) x &&& BitVec.ofInt (IntKind.bits .u64) 4294967295).toNat : Nat) : Int) = x := by
  have key : ∀ w, w = 64 → (((BitVec.ofInt w x &&& BitVec.ofInt w 4294967295).toNat : Nat) : Int) = x := by
    rintro w rfl
    rw [BitVec.toNat_and, BitVec.toNat_ofInt, BitVec.toNat_ofInt]
    have e3 : ((4294967295 : Int) % ((2 ^ 64 : Nat) : Int)).toNat = 2 ^ 32 - 1 := by decide
    rw [e3, Nat.and_two_pow_sub_one_eq_mod]
    omega
  exact key _ rfl
theorem sh32 {x : Int} (h : 0 ≤ x ∧ x < 4294967296) : Int.fdiv x (2 ^ (min (32 : Int).toNat (IntKind.bits .u64))) = 0 := by
  have : (2 : Int) ^ (min (32 : Int).toNat (IntKind.bits .u64)) = 4294967296 := by decide
  rw [this, Int.fdiv_eq_ediv_of_nonneg _ (by omega)]
  omega
theorem c_Mul64 {σ : Hp} {x y : Int} (hx : 0 ≤ x ∧ x < 65536) (hy : 0 ≤ y ∧ y < 65536) : FCalls Try.prog N_math_bits_Mul64 #[.int .u64 x, .int .u64 y] σ fun v σ' => v = .tuple #[.int .u64 0, .int .u64 (x * y)] ∧ σ' = σ := by
  refine M_math_bits_Mul64_ok _ _ _ _ ?_
  unfold M_math_bits_Mul64
  have b1 : 0 ≤ x * y ∧ x * y ≤ 65535 * 65535 := mulle hx.1 (by omega) hy.1 (by omega)
  rw [and32 (by omega), and32 (by omega), sh32 (x := x) (by omega), sh32 (x := y) (by omega)]
  refine wk_u (by omega) ⟨by omega, wk_u (by omega) ⟨by omega, wk_u (by omega) ?_⟩⟩
  rw [sh32 (x := x * y) (by omega)]
  simp only [Int.zero_mul, Int.mul_zero, Int.add_zero]
  refine wk_u (by omega) ⟨by omega, wk_u (by omega) ?_⟩
  rw [and32 (by omega)]
  refine wk_u (by omega) ⟨by omega, wk_u (by omega) (wk_u (by omega) (wk_u (by omega) ?_))⟩
  rw [sh32 (x := 0) (by omega)]
  refine wk_u (by omega) ⟨by omega, ?_⟩
  rw [sh32 (x := 0 + 0) (by omega)]
  refine wk_u (by omega) (wk_u (by omega) (rt_of ⟨rfl, rfl⟩))
theorem c_Mul {σ : Hp} {x y : Int} (hx : 0 ≤ x ∧ x < 65536) (hy : 0 ≤ y ∧ y < 65536) : FCalls Try.prog N_math_bits_Mul #[.int .u64 x, .int .u64 y] σ fun v σ' => v = .tuple #[.int .u64 0, .int .u64 (x * y)] ∧ σ' = σ := by
  refine M_math_bits_Mul_ok _ _ _ _ ?_
  unfold M_math_bits_Mul
  refine bc_f (cl_of M_math_bits_Mul64_enter (c_Mul64 hx hy) ?_)
  rintro v σ' ⟨rfl, rfl⟩
  exact ⟨_, _, rfl, rt_of ⟨rfl, rfl⟩⟩
theorem rep_take {α : Type} (a z : α) (k m : Nat) : (List.replicate k a ++ List.replicate m z).take k = List.replicate k a := by
  rw [List.take_left' (by simp)]
theorem rep_drop {α : Type} (a z : α) (k m q : Nat) : (List.replicate k a ++ List.replicate m z).drop (k + q) = List.replicate (m - q) z := by
  rw [List.drop_append, List.drop_of_length_le (by simp)]
  simp
/-- slices.Repeat, of one element -/
theorem repeat_core {P : Program} {t0 t1 ty e : TypeId} {ss : List Sh} {σ : Hp} {a z : TyR ss} {N w : Nat} {R : Value → Hp → Prop} {xA : Option Addr} {xc : Nat}
    (hok : cpyOK P t0 e ss.length = true) (hw : w = ss.length) (hna : noAny ss = true) (hx : RdS ss σ xA 1 [a]) (hN : N ≤ 4294967296) (hR : ∀ A n c σ', OwnSl e ss σ A n c (List.replicate N a) σ' → R (.slice A n c) σ') :
    exl e ss (List.replicate N z) σ fun A14 l14 c14 σ15 => cpy P #[t0, t1] ty #[(.slice A14 l14 c14), (.slice xA 1 xc)] σ15 fun n16 σ17 => cut (α := Hp → Prop) (fun σ19 => ∀ _ : Nat → Value, rt σ19 R (.slice A14 l14 c14)) fun J20 => ∃ I23 : Nat → Int → Hp → Prop, (∃ n240, I23 n240 n16 σ17) ∧ 
    ∀ n24 : Nat, ∀ n25 : Int, ∀ σ22 : Hp, I23 n24 n25 σ22 → ∀ _ : Nat → Value, bc (decide (n25 < ((l14 : Nat) : Int))) ((0 ≤ n25 ∧ 
    n25 ≤ ((l14 : Nat) : Int) ∧ (0 ≤ n25 ∧ n25 ≤ ((c14 : Nat) : Int) ∧ cpy P #[t0, t1] ty #[(.slice (if c14 = (n25 : Int).toNat then (A14 : Option Addr) else (A14 : Option Addr).map (fun x => 
    x.add ((n25 : Int).toNat * w))) (l14 - (n25 : Int).toNat) (c14 - (n25 : Int).toNat)), (.slice A14 ((n25 : Int).toNat) c14)] σ22 (fun n26 σ27 => 
    wk .i64 (n25 + n26) (fun n28 => bk σ27 n24 (fun m29 σ30 => I23 m29 n28 σ30)))))) (J20 σ22) := by
  intro A n c σ' hown
  have hl : n = N := by simpa using hown.len
  subst hl
  have hnc : n ≤ c := by
    rcases hown with ⟨_, h2, h3, _⟩ | ⟨_, _, _, _, _, h, _⟩ <;> omega
  subst hw
  refine cpy_own (k := 0) hok hna hown (Hp.Sub.refl _) (Nat.zero_le _) (fun b off h => by simpa using h) id (hx.sub hown.sub) fun σ2 τ2 ho2 hs2 => ?_
  refine cut_intro fun J hJ => ?_
  refine ⟨fun m i τ => ∃ k : Nat, m = n - k ∧ i = k ∧ k ≤ n ∧ (k = 0 → n = 0) ∧ ∃ σ3, OwnSl e ss σ A n c (List.replicate k a ++ List.replicate (n - k) z) σ3 ∧ Hp.Sub σ3 τ, ⟨_, min 1 (n - 0), rfl, rfl, by omega, by omega, σ2, ?_, hs2⟩, ?_⟩
  · cases n with
    | zero => simpa using ho2
    | succ n =>
      have : min 1 (n + 1 - 0) = 1 := by omega
      rw [this] at ho2 ⊢
      simpa using ho2
  · rintro m i τ ⟨k, rfl, rfl, hk, hk0, σ3, ho3, hs3⟩ _
    refine bc_d (fun hlt => ⟨by omega, by omega, by omega, by omega, ?_⟩) (fun hlt => ?_)
    · simp only [Int.toNat_natCast]
      rw [if_neg (by omega)]
      have hsrc : RdS ss τ A k (List.replicate k a) := by
        have := (ho3.rd.sub hs3).take hk
        rw [rep_take] at this
        exact this
      refine cpy_own hok hna ho3 hs3 hk (fun b off h => by rw [h]; simp [addr_add]) (fun h => by rw [h]; rfl) hsrc fun σ4 τ4 ho4 hs4 => ?_
      generalize hq : min k (n - k) = q at *
      refine wk_i (by omega) (bk_of _ ?_ ⟨k + q, rfl, by omega, by omega, by omega, σ4, ?_, hs4⟩)
      · omega
      · rw [rep_take, rep_drop, List.take_replicate, show min q k = q by omega, ← List.append_assoc, List.replicate_append_replicate] at ho4
        rw [show n - (k + q) = n - k - q by omega]
        exact ho4
    · subst hJ
      intro _
      have : k = n := by omega
      subst this
      refine rt_sub hs3 (hR _ _ _ _ ?_)
      simpa using ho3
set_option maxRecDepth 20000 in
theorem c_Repeat_int {σ : Hp} {a n : Int} {xA : Option Addr} {xc : Nat} (hx : RdS [.int .i64] σ xA 1 [a]) (hn : 0 ≤ n ∧ n < 65536) : FCalls Try.prog N_slices_Repeat_int #[.slice xA 1 xc, .int .i64 n] σ (NewL 3 [.int .i64] σ (List.replicate n.toNat a)) := by
  refine M_slices_Repeat_int_ok _ _ _ _ _ _ ?_
  unfold M_slices_Repeat_int
  refine cut_intro fun J3 h3 => bc_d (fun h => by omega) (fun h => ?_)
  subst h3
  intro _
  refine wk_u (by omega) (wk_u (by omega) (cl_of M_math_bits_Mul_enter (c_Mul (by omega) (by omega)) ?_))
  rintro v σ' ⟨rfl, rfl⟩
  refine ⟨_, _, rfl, cut_intro fun J12 h12 => cut_intro fun J33 h33 => bc_d (fun h => by omega) (fun h => ?_)⟩
  rw [show (((1 : Nat) : Int) * n) = n by omega] at *
  rw [h33]
  intro _
  refine bc_d (fun h => by omega) (fun h => ?_)
  subst h12
  intro _
  refine wk_i (by omega) ⟨by omega, by omega, by omega, ?_⟩
  exact repeat_core (by kernel_rfl) rfl rfl hx (by omega) fun A n c σ' ho => ⟨_, _, _, rfl, ho⟩
set_option maxRecDepth 20000 in
theorem c_Repeat_sit {σ : Hp} {a : Sit} {n : Int} {xA : Option Addr} {xc : Nat} (hx : RdS sS σ xA 1 [a]) (hn : 0 ≤ n ∧ n < 65536) : FCalls Try.prog N_slices_Repeat_api_Site #[.slice xA 1 xc, .int .i64 n] σ (NewL 50 sS σ (List.replicate n.toNat a)) := by
  refine M_slices_Repeat_api_Site_ok _ _ _ _ _ _ ?_
  unfold M_slices_Repeat_api_Site
  refine cut_intro fun J3 h3 => bc_d (fun h => by omega) (fun h => ?_)
  subst h3
  intro _
  refine wk_u (by omega) (wk_u (by omega) (cl_of M_math_bits_Mul_enter (c_Mul (by omega) (by omega)) ?_))
  rintro v σ' ⟨rfl, rfl⟩
  refine ⟨_, _, rfl, cut_intro fun J12 h12 => cut_intro fun J33 h33 => bc_d (fun h => by omega) (fun h => ?_)⟩
  rw [show (((1 : Nat) : Int) * n) = n by omega] at *
  rw [h33]
  intro _
  refine bc_d (fun h => by omega) (fun h => ?_)
  subst h12
  intro _
  refine wk_i (by omega) ⟨by omega, by omega, by omega, ?_⟩
  exact repeat_core (ss := sS) (by kernel_rfl) rfl rfl hx (by omega) fun A n c σ' ho => ⟨_, _, _, rfl, ho⟩
end Go.Proofs.Ytmpkiaghkhhlhaa

/- Contracts of layer 4: put, empty. No conditions but those that each theorem names. -/
namespace Go.Proofs.Ytmpkiaghkhhlhaa
open Go.RowKit

/-- an owned slice on less -/
theorem OwnSl.base {e : TypeId} {ss : List Sh} {σ τ τ' : Hp} {A : Option Addr} {n c : Nat} {xs : List (TyR ss)} (h : OwnSl e ss τ A n c xs τ') (hs : Hp.Sub σ τ) : ∃ σ', OwnSl e ss σ A n c xs σ' ∧ Hp.Sub σ' τ' := by
  rcases h with ⟨h1, h2, h3, h4, rfl⟩ | ⟨b, off, cells, hA, hn, hnc, hb, rfl, hsz, hr⟩
  · exact ⟨σ, .inl ⟨h1, h2, h3, h4, rfl⟩, hs⟩
  · exact ⟨_, .inr ⟨b, off, cells, hA, hn, hnc, hs.none hb, rfl, hsz, hr⟩, hs.ins_both b _⟩
theorem FdW.rebase {σ0 σ0' σ : Hp} {f : Option Addr} {V : FA} {F : Fd} (hb : FdB σ0 f V F.g F.l) (hs : Hp.Sub σ0 σ0') (h : FdW σ0' σ f V F) : FdW σ0 σ f V F := by
  obtain ⟨_, σ1, σ2, h1, h2, h3⟩ := h
  obtain ⟨s1, k1, j1⟩ := h1.base hs
  obtain ⟨s2, k2, j2⟩ := h2.base j1
  exact ⟨hb, s1, s2, k1, k2, j2.trans h3⟩

/-! ### Putting -/
def putAll (xs : List Int) (cs : List Int) (v : Int) : List Int := cs.foldl (fun a c => a.set c.toNat v) xs
theorem putAll_len (xs : List Int) (cs : List Int) (v : Int) : (putAll xs cs v).length = xs.length := by
  induction cs generalizing xs with
  | nil => rfl
  | cons c cs ih => exact (ih _).trans (by simp)
theorem putAll_succ {xs : List Int} {cs : List Int} {v : Int} {k : Nat} (h : k < cs.length) : putAll xs (cs.take (k + 1)) v = (putAll xs (cs.take k) v).set (gt cs k).toNat v := by
  unfold putAll
  rw [List.take_succ_eq_append_getElem h, List.foldl_append, gt_nat h]
  rfl
def Fd.put (F : Fd) (i : Int) (s : Sit) : Fd := { F with st := F.st.set i.toNat s, tk := putAll F.tk (F.g.cover (pt F.l i) s).1 i }
theorem Fd.ok.put {F : Fd} (h : F.ok) (i : Int) (s : Sit) : (F.put i s).ok := ⟨h.g, h.p, h.l, by simpa [Fd.put] using h.st, by simpa [Fd.put, putAll_len] using h.tk⟩
theorem c_put {σ0 σ : Hp} {f : Option Addr} {V : FA} {F : Fd} {i : Int} {s : Sit} (hf : FdW σ0 σ f V F) (hF : F.ok) (i0 : 0 ≤ i) (i1 : i < F.l.length) :
    FCalls Try.prog N_ground_field_put #[.pointer f, .int .i64 i, sv s] σ fun _ σ' => FdW σ0 σ' f V (F.put i s) := by
  refine M_ground_field_put_ok _ _ _ _ _ _ ?_
  unfold M_ground_field_put
  have hst := hF.st
  have hb := hf.1
  refine hf.r.dS ?_
  obtain ⟨_, σ1, σ2, h1, h2, h3⟩ := hf
  obtain ⟨s1, k1, k2⟩ := h1.swap h2
  refine k2.ix_stIB h3 i0 (by omega) fun σ3 τ ho3 hs3 => ?_
  obtain ⟨s1', m1, m2⟩ := k1.swap ho3
  have hf : FdW σ0 τ f V { F with st := F.st.set i.toNat s } := ⟨hb, s1', σ3, m1, m2, hs3⟩
  have hF2 : Fd.ok { F with st := F.st.set i.toNat s } := ⟨hF.g, hF.p, hF.l, by simpa using hF.st, hF.tk⟩
  refine l_cells hf.r hF2 i0 i1 fun A n c σ' hown => ?_
  have hin := Gnd.cover_in (s := s) hF.s (hF.pt i0 i1)
  have hl : n = (F.g.cover (pt F.l i) s).1.length := hown.len
  have htk := hF.tk
  obtain ⟨c1, c2⟩ := Gnd.cover_len (s := s) (hF.pt i0 i1)
  obtain ⟨σ0', hown0, hf2⟩ := hf.own hown
  have hcs : RdS [.int .i64] σ0' A n (F.g.cover (pt F.l i) s).1 := hown0.rd
  have hb0 := hown0.sub
  unfold Fd.put
  generalize (F.g.cover (pt F.l i) s).1 = cs at *
  refine ⟨fun m j τ => ∃ k : Nat, m = cs.length - k ∧ j = k ∧ k ≤ cs.length ∧ FdW σ0' τ f V { F with st := F.st.set i.toNat s, tk := putAll F.tk (cs.take k) i }, ⟨_, 0, rfl, rfl, by omega, by simpa [putAll] using hf2⟩, ?_⟩
  rintro m j τ2 ⟨k, rfl, rfl, hk, hf3⟩ _
  refine bc_d (fun hlt => ?_) (fun hlt => ?_)
  · have hkl : k < cs.length := by omega
    have ik := hin _ (gt_mem hkl)
    refine gixg (hcs.sub hf3.base) (by omega) (by omega) (hf3.r.dK ?_)
    have hb3 := hf3.1
    obtain ⟨_, σ4, σ5, h4, h5, h6⟩ := hf3
    refine h5.ix_stI h6 (by omega) (by rw [putAll_len]; omega) fun σ6 τ6 ho6 hs6 => ?_
    rw [← putAll_succ hkl] at ho6
    exact wk_i (by omega) (bk_of _ (by omega) ⟨k + 1, rfl, rfl, by omega, hb3, σ4, σ6, h4, ho6, hs6⟩)
  · have : k = cs.length := by omega
    subst this
    rw [List.take_length] at hf3
    exact rt_of (FdW.rebase hb hb0 hf3)

/-! ### A new field -/
theorem dup3 {p : Prop} (h : p) : (p ∧ p) ∧ p := ⟨⟨h, h⟩, h⟩
def fd0 (g : Gnd) (l : List Pit) : Fd := ⟨g, l, List.replicate l.length (-1, false), List.replicate g.C.length (-1)⟩
theorem fd0_ok {g : Gnd} {l : List Pit} (h : (chkP g l).2 = 0) : (fd0 g l).ok := by
  obtain ⟨h1, h2, h3, _⟩ := chkP_ok h
  exact ⟨h1, h3, h2, by simp [fd0], by simp [fd0]⟩
/-- what hands back a new field, or an error -/
def NewF (σ : Hp) (e : Int × Int) (F : Fd) : Value → Hp → Prop := fun v σ' =>
  (e.2 ≠ 0 ∧ v = .tuple #[.pointer none, .int .i64 e.1, .int .i64 e.2] ∧ σ' = σ) ∨
  (e.2 = 0 ∧ ∃ f V σ0, v = .tuple #[.pointer f, .int .i64 e.1, .int .i64 e.2] ∧ Hp.Sub σ σ0 ∧ FdW σ0 σ' f V F)
theorem c_empty_1 {σ : Hp} {x : GV} {g : Gnd} {p : Pit} {b : Nat} (hb : ∀ i, σ.cell? ⟨b, i, none⟩ = (#[.int .i64 g.W, .int .i64 g.H, .slice x.cA x.cn x.cc, .slice x.hA x.hn x.hc] : Array Value)[i]?) (hc : x.cn = g.C.length) (hl : g.C.length ≤ 4294967296) :
    FCalls Try.prog N_ground_empty_1 #[pv p, .pointer (some ⟨b, 0, none⟩)] σ fun v σ' => v = .bool (!g.pOK p) ∧ σ' = σ := by
  refine M_ground_empty_1_ok _ _ _ _ _ _ _ _ ?_
  unfold M_ground_empty_1
  refine dr_i (ldI_of ((hb _).trans rfl) (ldI_of ((hb _).trans rfl) (ldS_of ((hb _).trans rfl) (ldS_of ((hb _).trans rfl) ?_))))
  exact clB M_ground_pitched_enter (c_pitched (x := x) hc hl) (rt_of ⟨rfl, rfl⟩)
theorem c_empty {σ : Hp} {x : GV} {g : Gnd} {lA : Option Addr} {ln lc : Nat} {l : List Pit} (hg : GRd σ x g) (hl : RdS sP σ lA ln l) :
    FCalls Try.prog N_ground_empty #[x.v g, .slice lA ln lc] σ (NewF σ (chkP g l) (fd0 g l)) := by
  refine M_ground_empty_ok _ _ _ _ _ _ _ _ _ _ _ _ _ ?_
  unfold M_ground_empty
  have hln := hl.lenP
  have hcn := hg.c.lenI
  refine clB M_ground_grounded_enter (c_grounded hg) ?_
  refine bc_nb (fun h => rt_of (.inl ?_)) (fun hok => ?_)
  · simp [chkP, h]
  obtain ⟨l1, l2, l3⟩ := Gnd.okS_len (Gnd.ok.s hok)
  refine bc_d (fun h8 => rt_of (.inl ?_)) (fun h8 => ?_)
  · simp [chkP, hok, show 8 < l.length by omega]
  have h8' : ¬ 8 < l.length := by omega
  intro b4 hb4
  have hs4 : Hp.Sub σ (σ.ins b4 (.cells #[.int .i64 g.W, .int .i64 g.H, .slice x.cA x.cn x.cc, .slice x.hA x.hn x.hc] 24)) := Hp.Sub.ins _ hb4
  have hcell : ∀ i, (σ.ins b4 (.cells #[.int .i64 g.W, .int .i64 g.H, .slice x.cA x.cn x.cc, .slice x.hA x.hn x.hc] 24)).cell? ⟨b4, i, none⟩ = (#[.int .i64 g.W, .int .i64 g.H, .slice x.cA x.cn x.cc, .slice x.hA x.hn x.hc] : Array Value)[i]? := by
    intro i
    unfold Hp.cell?
    simp only [Hp.ins_same]
    rfl
  generalize (σ.ins b4 (.cells #[.int .i64 g.W, .int .i64 g.H, .slice x.cA x.cn x.cc, .slice x.hA x.hn x.hc] 24)) = τ at *
  refine clI M_slices_IndexFunc_api_Pitch_enter (c_IndexFunc_pit (p := fun p => !g.pOK p) (hl.sub hs4) (by omega) (Dec.of M_ground_empty_1_enter fun a _ => ?_)) ?_
  · exact c_empty_1 hcell hcn (by omega)
  refine bc_d (fun h => rt_sub hs4 (.inl ?_)) (fun h => ?_)
  · have e : chkP g l = (fidx (fun p => !g.pOK p) l, 41) := by simp [chkP, hok, h8', h]
    rw [e]
    exact ⟨by simp, rfl, rfl⟩
  have e : chkP g l = (0, 0) := by simp [chkP, hok, h8', h]
  rw [e]
  refine ldI_of ((hcell _).trans rfl) (ldI_of ((hcell _).trans rfl) (ldS_of ((hcell _).trans rfl) (ldS_of ((hcell _).trans rfl) (ldS_of ((hcell _).trans rfl) ?_))))
  refine dup3 ?_
  intro A14 l14 c14 σ15 ho14
  obtain rfl : l14 = 1 := ho14.len
  refine cl_of M_slices_Repeat_api_Site_enter (c_Repeat_sit (a := ((-1, false) : Sit)) ho14.rd (by omega)) ?_
  rintro v16 σ17 ⟨A18, l18, c18, rfl, ho18⟩
  refine ⟨_, _, _, rfl, ho18.sub, ?_⟩
  intro A19 l19 c19 σ20 ho19
  obtain rfl : l19 = 1 := ho19.len
  refine clLs M_slices_Repeat_int_enter (c_Repeat_int (a := (-1 : Int)) ho19.rd (by omega)) ?_
  intro A26 l26 c26 σ27 ho26 b28 hb28
  obtain ⟨s1, k1, j1⟩ := ho18.base (hs4.trans ho14.sub)
  obtain ⟨s2, k2, j2⟩ := ho26.base (j1.trans ho19.sub)
  have e1 : ((ln : Nat) : Int).toNat = l.length := by omega
  rw [e1] at k1
  have hs2n : s2 b28 = none := j2.none hb28
  have hs1n : s1 b28 = none := k2.sub.none hs2n
  have hsn : σ b28 = none := k1.sub.none hs1n
  refine rt_sub (j2.ins_both b28 _) (.inr ⟨rfl, some ⟨b28, 0, none⟩, ⟨x, lA, ln, lc, A18, l18, c18, A26, l26, c26⟩, _, rfl, Hp.Sub.ins _ hsn, ⟨⟨b28, true, rfl, Hp.ins_same ..⟩, hg.sub (Hp.Sub.ins _ hsn), hl.sub (Hp.Sub.ins _ hsn)⟩, _, _, k1.ins_base hs1n _, ?_, Hp.Sub.refl _⟩)
  have := k2.ins_base hs2n (.cells (FA.cells ⟨x, lA, ln, lc, A18, l18, c18, A26, l26, c26⟩ g) 73)
  have e2 : ((x.cn : Nat) : Int).toNat = g.C.length := by omega
  rw [e2] at this
  exact this
end Go.Proofs.Ytmpkiaghkhhlhaa

/- Contracts of layer 4: newField and Check: both sides of Check have one answer. No conditions but those that each theorem names. -/
namespace Go.Proofs.Ytmpkiaghkhhlhaa
open Go.RowKit

/-! ### What is taken -/
theorem gt_set {xs : List Int} {i c v : Int} (h0 : 0 ≤ i) (h1 : 0 ≤ c) (h2 : c < xs.length) : gt (xs.set i.toNat v) c = if c = i then v else gt xs c := by
  have hc : c.toNat < xs.length := by omega
  rw [gt_eq (by simpa using hc), gt_eq hc, List.getElem_set]
  by_cases h : c = i
  · subst h; simp
  · rw [if_neg h, if_neg (by omega)]
theorem gb_set {xs : List Bool} {i c : Int} {v : Bool} (h0 : 0 ≤ i) (h1 : 0 ≤ c) (h2 : c < xs.length) : gb (xs.set i.toNat v) c = if c = i then v else gb xs c := by
  have hc : c.toNat < xs.length := by omega
  rw [gb_eq (by simpa using hc), gb_eq hc, List.getElem_set]
  by_cases h : c = i
  · subst h; simp
  · rw [if_neg h, if_neg (by omega)]
theorem gt_putAll {cs : List Int} {v c : Int} : ∀ {xs : List Int}, (∀ a ∈ cs, 0 ≤ a) → 0 ≤ c → c < xs.length → gt (putAll xs cs v) c = if c ∈ cs then v else gt xs c := by
  induction cs with
  | nil => intro xs _ _ _; simp [putAll]
  | cons a cs ih =>
    intro xs h h0 h1
    have := ih (xs := xs.set a.toNat v) (fun a ha => h a (List.mem_cons_of_mem _ ha)) h0 (by simpa using h1)
    unfold putAll at this ⊢
    rw [List.foldl_cons, this, gt_set (h a (List.mem_cons_self ..)) h0 h1]
    by_cases e1 : c ∈ cs <;> by_cases e2 : c = a <;> simp [e1, e2]
theorem gb_setAll {cs : List Int} {c : Int} : ∀ {xs : List Bool}, (∀ a ∈ cs, 0 ≤ a) → 0 ≤ c → c < xs.length → gb (setAll xs cs) c = (decide (c ∈ cs) || gb xs c) := by
  induction cs with
  | nil => intro xs _ _ _; simp [setAll]
  | cons a cs ih =>
    intro xs h h0 h1
    have := ih (xs := xs.set a.toNat true) (fun a ha => h a (List.mem_cons_of_mem _ ha)) h0 (by simpa using h1)
    unfold setAll at this ⊢
    rw [List.foldl_cons, this, gb_set (h a (List.mem_cons_self ..)) h0 h1]
    by_cases e1 : c ∈ cs <;> by_cases e2 : c = a <;> simp [e1, e2]
theorem cover_neg {g : Gnd} {p : Pit} {s : Sit} (h : s.1 < 0) : g.cover p s = ([], false) := by
  unfold Gnd.cover Gnd.cov
  have : ¬ (0 ≤ s.1 ∧ s.1 ≤ (g.C.length : Int) - 1) := by omega
  split <;> simp only [this, false_and, if_false]
/-- a layout's pitches on a ground -/
structure Good (g : Gnd) (l : List Pit) : Prop where
  ok : g.ok = true
  p : ∀ i, (h : i < l.length) → g.pOK l[i] = true
  len : l.length ≤ 8
theorem Good.pt {g : Gnd} {l : List Pit} (h : Good g l) {i : Nat} (hi : i < l.length) : g.pOK (pt l i) = true := by rw [pt_nat hi]; exact h.p i hi
theorem Good.s {g : Gnd} {l : List Pit} (h : Good g l) : g.okS = true := Gnd.ok.s h.ok
theorem Fd.ok.good {F : Fd} (h : F.ok) : Good F.g F.l := ⟨h.g, h.p, h.l⟩
theorem gb_takS {g : Gnd} {l : List Pit} {st : List Sit} {but c : Int} (hG : Good g l) (h0 : 0 ≤ c) (h1 : c < g.C.length) : ∀ k, k ≤ l.length → (gb (g.takS l st but k) c = true ↔ ∃ j : Nat, j < k ∧ (j : Int) ≠ but ∧ c ∈ (g.cover (pt l j) (sit st j)).1)
  | 0, _ => by
    have : gb (g.takS l st but 0) c = false := by
      have hc : c.toNat < g.C.length := by omega
      rw [Gnd.takS, gb_eq (by simpa using hc)]
      simp
    rw [this]
    simp
  | k + 1, hk => by
    have ih := gb_takS (st := st) (but := but) hG h0 h1 k (by omega)
    have hin := Gnd.cover_in (s := sit st k) hG.s (hG.pt (show k < l.length by omega))
    unfold Gnd.takS
    split
    · rename_i hs
      rw [ih]
      constructor
      · rintro ⟨j, hj, h⟩; exact ⟨j, by omega, h⟩
      · rintro ⟨j, hj, hb, hc⟩
        refine ⟨j, ?_, hb, hc⟩
        rcases Nat.lt_or_ge j k with hlt | hge
        · exact hlt
        · have : j = k := by omega
          subst this
          rcases hs with hs | hs
          · exact absurd hs hb
          · rw [cover_neg hs] at hc; cases hc
    · rename_i hs
      rw [gb_setAll (fun a ha => (hin a ha).1) h0 (by rw [takS_len]; exact h1)]
      simp only [Bool.or_eq_true, decide_eq_true_eq, ih]
      constructor
      · rintro (h | ⟨j, hj, h⟩)
        · exact ⟨k, by omega, fun e => hs (.inl e), h⟩
        · exact ⟨j, by omega, h⟩
      · rintro ⟨j, hj, hb, hc⟩
        rcases Nat.lt_or_ge j k with hlt | hge
        · exact .inr ⟨j, hlt, hb, hc⟩
        · have : j = k := by omega
          subst this
          exact .inl hc
/-- the cells of the j-th pitch -/
def Fd.cov (F : Fd) (j : Nat) : List Int := (F.g.cover (pt F.l j) (sit F.st j)).1
/-- what is taken agrees with the sites -/
def Fd.con (F : Fd) : Prop := ∀ c : Int, 0 ≤ c → c < F.g.C.length → (-1 ≤ gt F.tk c ∧ gt F.tk c < F.l.length) ∧ ∀ j : Nat, j < F.l.length → (gt F.tk c = j ↔ c ∈ F.cov j)
theorem sit_rep {n k : Nat} : sit (List.replicate n ((-1, false) : Sit)) k = if k < n then (-1, false) else (0, false) := by
  by_cases h : k < n <;> simp [sit, List.getD, h]
theorem gt_rep {n : Nat} {c v : Int} (h0 : 0 ≤ c) (h1 : c < n) : gt (List.replicate n v) c = v := by
  rw [gt_eq (by simp; omega)]
  simp
theorem fd0_con {g : Gnd} {l : List Pit} : (fd0 g l).con := by
  intro c h0 h1
  have e : gt (fd0 g l).tk c = -1 := gt_rep h0 h1
  rw [e]
  refine ⟨⟨by omega, by omega⟩, fun j hj => ?_⟩
  have hj' : j < l.length := hj
  have : (fd0 g l).cov j = [] := by
    unfold Fd.cov
    rw [show sit (fd0 g l).st j = (-1, false) by simp only [fd0]; rw [sit_rep, if_pos hj'], cover_neg (by decide)]
  rw [this]
  constructor
  · intro h; omega
  · intro h; cases h
theorem sit_set {st : List Sit} {i : Nat} {s : Sit} {j : Nat} (hi : i < st.length) : sit (st.set i s) j = if j = i then s else sit st j := by
  unfold sit
  simp only [List.getD, Int.toNat_natCast, List.getElem?_set]
  by_cases h : i = j
  · subst h; simp [hi]
  · have h' : ¬ j = i := fun e => h e.symm
    simp [h, h']
theorem all_mem {cs : List Int} {q : Int → Bool} (h : cs.all q = true) : ∀ c ∈ cs, q c = true := List.all_eq_true.1 h
theorem fit_is {g : Gnd} {p : Pit} {s : Sit} {q : Int → Bool} (h : g.fit p s q = true) : (g.cover p s).1.all q = true := by
  unfold Gnd.fit at h
  simp only [Bool.and_eq_true] at h
  exact h.1.2
theorem Fd.con.put {F : Fd} (h : F.con) (hF : F.ok) {i : Nat} {s : Sit} (hi : i < F.l.length) (hn : F.cov i = []) (hfit : F.g.fit (pt F.l i) s F.bare = true) : (F.put i s).con := by
  intro c h0 h1
  have h1' : c < F.g.C.length := h1
  obtain ⟨hr, hj⟩ := h c h0 h1'
  have hin := Gnd.cover_in (s := s) hF.s (hF.pt (i := i) (by omega) (by omega))
  have hbare := all_mem (fit_is hfit)
  have e : gt (F.put i s).tk c = if c ∈ (F.g.cover (pt F.l i) s).1 then (i : Int) else gt F.tk c := by
    simp only [Fd.put]
    exact gt_putAll (fun a ha => (hin a ha).1) h0 (by rw [hF.tk]; exact h1')
  have hst := hF.st
  have ecov : ∀ j, (F.put i s).cov j = if j = i then (F.g.cover (pt F.l i) s).1 else F.cov j := by
    intro j
    unfold Fd.cov
    simp only [Fd.put, Int.toNat_natCast]
    rw [sit_set (by omega)]
    by_cases e : j = i
    · subst e; simp
    · rw [if_neg e, if_neg e]
  rw [e]
  refine ⟨?_, fun j hjl => ?_⟩
  · split
    · have : (F.put i s).l.length = F.l.length := rfl
      omega
    · exact hr
  · rw [ecov]
    have hjl' : j < F.l.length := hjl
    by_cases hc : c ∈ (F.g.cover (pt F.l i) s).1
    · rw [if_pos hc]
      have hb := hbare c hc
      simp only [Fd.bare, decide_eq_true_eq] at hb
      by_cases e : j = i
      · subst e; simp [hc]
      · rw [if_neg e]
        have := hj j hjl'
        constructor
        · intro h; omega
        · intro h; have := this.2 h; omega
    · rw [if_neg hc]
      by_cases e : j = i
      · subst e
        rw [if_pos rfl, hj j hjl', hn]
        simp [hc]
      · rw [if_neg e]
        exact hj j hjl'
theorem Fd.con.full {F : Fd} (h : F.con) (hF : F.ok) {c : Int} (h0 : 0 ≤ c) (h1 : c < F.g.C.length) : decide (gt F.tk c < 0) = !gb (F.g.takS F.l F.st (-1) F.l.length) c := by
  obtain ⟨hr, hj⟩ := h c h0 h1
  have := gb_takS (st := F.st) (but := -1) hF.good h0 h1 F.l.length (Nat.le_refl _)
  cases e : gb (F.g.takS F.l F.st (-1) F.l.length) c with
  | true =>
    obtain ⟨j, hjl, _, hc⟩ := this.1 e
    have := (hj j hjl).2 hc
    simp only [Bool.not_true, decide_eq_false_iff_not]
    omega
  | false =>
    simp only [Bool.not_false, decide_eq_true_eq]
    rcases Int.lt_or_le (gt F.tk c) 0 with hlt | hge
    · exact hlt
    · have : gb (F.g.takS F.l F.st (-1) F.l.length) c = true := this.2 ⟨(gt F.tk c).toNat, by omega, by omega, (hj _ (by omega)).1 (by omega)⟩
      rw [e] at this
      cases this
theorem all_and {cs : List Int} {p q : Int → Bool} : cs.all (fun c => p c && q c) = (cs.all p && cs.all q) := by
  induction cs with
  | nil => rfl
  | cons c cs ih => simp only [List.all_cons, ih]; cases p c <;> cases q c <;> simp
theorem fit_bare {F : Fd} (hF : F.ok) {i : Nat} (hi : i < F.l.length) {s : Sit} {full : List Bool} (h : ∀ c : Int, 0 ≤ c → c < F.g.C.length → decide (gt F.tk c < 0) = !gb full c) : F.g.fit (pt F.l i) s F.bare = F.g.bes (pt F.l i) s full := by
  have hin := Gnd.cover_in (s := s) hF.s (hF.pt (i := i) (by omega) (by omega))
  have e : (F.g.cover (pt F.l i) s).1.all F.bare = ((F.g.cover (pt F.l i) s).1.all F.g.grass && (F.g.cover (pt F.l i) s).1.all fun c => !gb full c) := by
    rw [← all_and]
    have : ∀ cs : List Int, (∀ a ∈ cs, 0 ≤ a ∧ a < F.g.C.length) → cs.all F.bare = cs.all fun c => F.g.grass c && !gb full c := by
      intro cs hcs
      induction cs with
      | nil => rfl
      | cons c cs ih =>
        obtain ⟨c0, c1⟩ := hcs c (List.mem_cons_self ..)
        simp only [List.all_cons]
        rw [ih fun a ha => hcs a (List.mem_cons_of_mem _ ha), ← h c c0 c1]
        simp only [Fd.bare, Gnd.grass, Bool.decide_and]
    exact this _ hin
  unfold Gnd.bes Gnd.fit
  rw [e]
  generalize (F.g.cover (pt F.l i) s).1.all F.g.grass = a
  generalize ((F.g.cover (pt F.l i) s).1.all fun c => !gb full c) = b
  cases a <;> cases b <;> simp
theorem bes_is {g : Gnd} {p : Pit} {s : Sit} {full : List Bool} (h : g.bes p s full = true) : 0 ≤ s.1 := by
  rcases Int.lt_or_le s.1 0 with hlt | hge
  · unfold Gnd.bes Gnd.fit at h
    rw [cover_neg hlt] at h
    simp at h
  · exact hge

/-! ### A field with a layout -/
def fdK (g : Gnd) (l : List Pit) (st : List Sit) : Nat → Fd
  | 0 => fd0 g l
  | k + 1 => if sit st k = (-1, false) then fdK g l st k else (fdK g l st k).put k (sit st k)
theorem fdK_g {g : Gnd} {l : List Pit} {st : List Sit} : ∀ k, (fdK g l st k).g = g ∧ (fdK g l st k).l = l
  | 0 => ⟨rfl, rfl⟩
  | k + 1 => by
    unfold fdK
    split
    · exact fdK_g k
    · exact fdK_g k
theorem fdK_ok {g : Gnd} {l : List Pit} {st : List Sit} (h : (chkP g l).2 = 0) : ∀ k, (fdK g l st k).ok
  | 0 => fd0_ok h
  | k + 1 => by
    unfold fdK
    split
    · exact fdK_ok h k
    · exact (fdK_ok h k).put _ _
theorem fdK_sit {g : Gnd} {l : List Pit} {st : List Sit} (h : (chkP g l).2 = 0) : ∀ k, k ≤ l.length → ∀ j, j < l.length → sit (fdK g l st k).st j = if j < k then sit st j else (-1, false)
  | 0, _, j, hj => by simp only [fdK, fd0]; rw [sit_rep, if_pos hj, if_neg (by omega)]
  | k + 1, hk, j, hj => by
    have ih := fdK_sit (st := st) h k (by omega)
    have hl := (fdK_ok (st := st) h k).st
    rw [(fdK_g k).2] at hl
    unfold fdK
    split
    · rename_i e
      rw [ih j hj]
      rcases Nat.lt_trichotomy j k with h1 | h1 | h1
      · rw [if_pos h1, if_pos (by omega)]
      · subst h1; rw [if_neg (by omega), if_pos (by omega), e]
      · rw [if_neg (by omega), if_neg (by omega)]
    · simp only [Fd.put, Int.toNat_natCast]
      rw [sit_set (by omega), ih j hj]
      rcases Nat.lt_trichotomy j k with h1 | h1 | h1
      · rw [if_neg (by omega), if_pos h1, if_pos (by omega)]
      · subst h1; rw [if_pos rfl, if_pos (by omega)]
      · rw [if_neg (by omega), if_neg (by omega), if_neg (by omega)]
theorem fdK_full {g : Gnd} {l : List Pit} {st : List Sit} (h : (chkP g l).2 = 0) {k : Nat} (hk : k ≤ l.length) (hcon : (fdK g l st k).con) {c : Int} (h0 : 0 ≤ c) (h1 : c < g.C.length) : decide (gt (fdK g l st k).tk c < 0) = !gb (g.takS l st (-1) k) c := by
  have hF := fdK_ok (st := st) h k
  have hsit := fdK_sit (st := st) h k hk
  obtain ⟨eg, el⟩ := fdK_g (g := g) (l := l) (st := st) k
  rw [hcon.full hF h0 (by rw [eg]; exact h1), eg, el]
  obtain ⟨q1, q2, q3, _⟩ := chkP_ok h
  have hG : Good g l := ⟨q1, q3, q2⟩
  congr 1
  have a1 := gb_takS (st := (fdK g l st k).st) (but := -1) hG h0 h1 l.length (Nat.le_refl _)
  have a2 := gb_takS (st := st) (but := -1) hG h0 h1 k hk
  have : (∃ j : Nat, j < l.length ∧ (j : Int) ≠ -1 ∧ c ∈ (g.cover (pt l j) (sit (fdK g l st k).st j)).1) ↔ ∃ j : Nat, j < k ∧ (j : Int) ≠ -1 ∧ c ∈ (g.cover (pt l j) (sit st j)).1 := by
    constructor
    · rintro ⟨j, hj, hb, hc⟩
      rw [hsit j hj] at hc
      by_cases e : j < k
      · rw [if_pos e] at hc; exact ⟨j, e, hb, hc⟩
      · rw [if_neg e, cover_neg (by decide)] at hc; cases hc
    · rintro ⟨j, hj, hb, hc⟩
      refine ⟨j, by omega, hb, ?_⟩
      rw [hsit j (by omega), if_pos hj]
      exact hc
  rw [← a2, ← a1] at this
  cases e1 : gb (g.takS l (fdK g l st k).st (-1) l.length) c <;> cases e2 : gb (g.takS l st (-1) k) c <;> simp [e1, e2] at this ⊢
theorem fdK_fit {g : Gnd} {l : List Pit} {st : List Sit} (h : (chkP g l).2 = 0) {k : Nat} (hk : k < l.length) (hcon : (fdK g l st k).con) (hne : sit st k ≠ (-1, false)) : (fdK g l st k).g.fit (pt l k) (sit st k) (fdK g l st k).bare = g.siteOK l st k := by
  have hF := fdK_ok (st := st) h k
  obtain ⟨eg, el⟩ := fdK_g (g := g) (l := l) (st := st) k
  have := fit_bare (s := sit st k) (full := g.takS l st (-1) k) hF (i := k) (by rw [el]; exact hk) fun c h0 h1 => fdK_full h (by omega) hcon h0 (by rw [← eg]; exact h1)
  rw [el] at this
  rw [this, eg, Gnd.siteOK]
  cases e : g.bes (pt l k) (sit st k) (g.takS l st (-1) k) with
  | true => simp [bes_is e]
  | false => simp [hne]
theorem fdK_con {g : Gnd} {l : List Pit} {st : List Sit} (h : (chkP g l).2 = 0) : ∀ k, k ≤ l.length → (∀ j, j < k → g.siteOK l st j = true) → (fdK g l st k).con
  | 0, _, _ => fd0_con
  | k + 1, hk, hok => by
    have ih := fdK_con (st := st) h k (by omega) fun j hj => hok j (by omega)
    unfold fdK
    split
    · exact ih
    · rename_i hne
      obtain ⟨eg, el⟩ := fdK_g (g := g) (l := l) (st := st) k
      refine ih.put (fdK_ok h k) (by rw [el]; omega) ?_ ?_
      · unfold Fd.cov
        rw [fdK_sit h k (by omega) k (by omega), if_neg (by omega), cover_neg (by decide)]
      · rw [el, fdK_fit h (by omega) ih hne]
        exact hok k (by omega)
theorem c_newField {σ : Hp} {x : GV} {g : Gnd} {lA sA : Option Addr} {ln lc sn sc : Nat} {l : List Pit} {st : List Sit} (hg : GRd σ x g) (hl : RdS sP σ lA ln l) (hst : RdS sS σ sA sn st) :
    FCalls Try.prog N_ground_newField #[x.v g, .slice lA ln lc, .slice sA sn sc] σ (NewF σ (chkS g l st) (fdK g l st l.length)) := by
  refine M_ground_newField_ok _ _ _ _ _ _ _ _ _ _ _ _ _ _ _ _ ?_
  unfold M_ground_newField
  have hsn := hst.lenS
  have hln := hl.lenP
  refine cl_of M_ground_empty_enter (c_empty hg hl) ?_
  rintro v σ' (⟨hne, rfl, rfl⟩ | ⟨h00, f, V, σ0, rfl, hs0, hfw⟩)
  · refine ⟨_, _, _, rfl, bc_nd (fun h => rt_of (.inl ?_)) (fun h => absurd h hne)⟩
    rw [chkS, if_pos hne]
    exact ⟨hne, rfl, rfl⟩
  have hs : Hp.Sub σ σ' := hs0.trans hfw.base
  obtain ⟨hok, h8, hp, h00'⟩ := chkP_ok h00
  refine ⟨_, _, _, rfl, bc_nd (fun h => absurd h00 h) (fun h => bc_nd (fun h2 => rt_sub hs (.inl ?_)) (fun h2 => ?_))⟩
  · rw [chkS, if_neg (by simp [h00]), if_pos (by omega)]
    exact ⟨by simp, by rw [hsn], rfl⟩
  have hll : st.length = l.length := by omega
  have ec : chkS g l st = if 0 ≤ fidx (fun k => !g.siteOK l st k) (List.range l.length) then (fidx (fun k => !g.siteOK l st k) (List.range l.length), 41) else (0, 0) := by
    rw [chkS, if_neg (by simp [h00]), if_neg (by omega)]
  rw [ec]
  refine cut_intro fun J8 h8' => ?_
  refine ⟨fun n p i τ => ∃ k : Nat, n = l.length - k ∧ p = f ∧ i = k ∧ k ≤ l.length ∧ FdW σ0 τ f V (fdK g l st k) ∧ ∀ j, j < k → g.siteOK l st j = true, ⟨_, 0, rfl, rfl, rfl, by omega, hfw, fun j h => by omega⟩, ?_⟩
  rintro n p i τ ⟨k, rfl, rfl, rfl, hk, hfk, hj⟩ _
  have hj' : ∀ j, (h : j < (List.range l.length).length) → j < k → (!g.siteOK l st (List.range l.length)[j]) = false := fun j h hjk => by simp [hj j hjk]
  refine bc_d (fun hlt => ?_) (fun hlt => ?_)
  · have hkl : k < l.length := by omega
    have hkr : k < (List.range l.length).length := by simpa using hkl
    have hsτ : Hp.Sub σ τ := hs0.trans hfk.base
    have hcon := fdK_con h00 k (by omega) hj
    have hF := fdK_ok (st := st) h00 k
    obtain ⟨eg, el⟩ := fdK_g (g := g) (l := l) (st := st) k
    refine cut_intro fun J18 h18 => ?_
    have k18 : ∀ τ2, FdW σ0 τ2 p V (fdK g l st (k + 1)) → g.siteOK l st k = true → J18 p τ2 := by
      intro τ2 h2 hok2
      rw [h18]
      intro _
      refine wk_i (by omega) (bk_of _ (by omega) ⟨k + 1, rfl, rfl, rfl, by omega, h2, fun j hjk => tail_or (p := fun a => g.siteOK l st a = true) (f := fun j => j) hj hok2 hjk⟩)
    refine six (hst.sub hsτ) (by omega) (by omega) ?_
    have e1 : decide (sit st k = (-1, false)) = (decide ((sit st k).1 = -1) && ((sit st k).2 == false)) := by
      cases hs : sit st k with
      | mk a b => cases b <;> simp
    refine bc_b (fun hw => ?_) (fun hw => ?_)
    · rw [← e1, decide_eq_true_eq] at hw
      refine k18 _ ?_ (by simp [Gnd.siteOK, hw])
      unfold fdK
      rw [if_pos hw]
      exact hfk
    · rw [← e1, decide_eq_false_iff_not] at hw
      refine clB M_ground_field_fits_enter (c_field_fits (s := sit st k) hfk.r hF (by omega) (by rw [el]; omega)) ?_
      rw [el, fdK_fit h00 hkl hcon hw]
      refine bc_nb (fun hno => rt_sub hsτ (.inl ?_)) (fun hyes => ?_)
      · have := fidx_at (p := fun k => !g.siteOK l st k) hkr (by simp [hno]) hj'
        rw [this]
        exact ⟨by simp, by simp, rfl⟩
      · refine cl_of M_ground_field_put_enter (c_put (s := sit st k) hfk hF (by omega) (by rw [el]; omega)) fun v τ2 h2 => k18 _ ?_ hyes
        unfold fdK
        rw [if_neg hw]
        exact h2
  · have : k = l.length := by omega
    subst this
    rw [h8']
    intro _
    have := fidx_none (p := fun k => !g.siteOK l st k) (xs := List.range l.length) fun j h => hj' j h (by simp at h; omega)
    rw [this]
    exact rt_of (.inr ⟨by simp, _, _, _, by simp, hs0, hfk⟩)
theorem c_ground_Check {σ : Hp} {x : GV} {g : Gnd} {lA sA : Option Addr} {ln lc sn sc : Nat} {l : List Pit} {st : List Sit} (hg : GRd σ x g) (hl : RdS sP σ lA ln l) (hst : RdS sS σ sA sn st) :
    FCalls Try.prog N_ground_Check #[x.v g, .slice lA ln lc, .slice sA sn sc] σ fun v σ' => v = .tuple #[.int .i64 (chkS g l st).1, .int .i64 (chkS g l st).2] ∧ σ' = σ := by
  refine M_ground_Check_ok _ _ _ _ _ _ _ _ _ _ _ _ _ _ _ _ ?_
  unfold M_ground_Check
  refine cl_of M_ground_newField_enter (c_newField hg hl hst) ?_
  rintro v σ' (⟨hne, rfl, rfl⟩ | ⟨h00, f, V, σ0, rfl, hs0, hfw⟩)
  · exact ⟨_, _, _, rfl, rt_of ⟨rfl, rfl⟩⟩
  · exact ⟨_, _, _, rfl, rt_sub (hs0.trans hfw.base) ⟨rfl, rfl⟩⟩
end Go.Proofs.Ytmpkiaghkhhlhaa

/- Contracts of layer 4: Large, sameInts, sameSites, Neighbours, beside, free, drain, step. No conditions but those that each theorem names. -/
namespace Go.Proofs.Ytmpkiaghkhhlhaa
open Go.RowKit

theorem c_Large {σ : Hp} {x : GV} {g : Gnd} {lA : Option Addr} {ln lc : Nat} {l : List Pit} (hc : x.cn = g.C.length) (hl : ln = l.length) :
    FCalls Try.prog N_law04_Large #[x.v g, .slice lA ln lc] σ fun v σ' => v = .bool (decide ((25 < g.C.length ∧ g.C.length ≤ 64) ∨ (4 < l.length ∧ l.length ≤ 8))) ∧ σ' = σ := by
  refine M_law04_Large_ok _ _ _ _ _ _ _ _ _ _ _ _ _ ?_
  unfold M_law04_Large
  repeat' (first | refine bc_t ?_ | refine bc_f ?_ | refine bc_d (fun _ => ?_) (fun _ => ?_) | refine rt_of ⟨?_, rfl⟩)
  all_goals
    refine congrArg Value.bool ?_
    first
      | (refine decide_eq_decide.2 ?_; omega)
      | (symm; refine decide_eq_true ?_; omega)
      | (symm; refine decide_eq_false ?_; omega)
theorem c_sameInts {σ : Hp} {aA bA : Option Addr} {an ac bn bc' : Nat} {a b : List Int} (ha : RdS [.int .i64] σ aA an a) (hb : RdS [.int .i64] σ bA bn b) (hl : a.length ≤ 4294967296) :
    FCalls Try.prog N_law04_sameInts #[.slice aA an ac, .slice bA bn bc'] σ fun v σ' => v = .bool (decide (a = b)) ∧ σ' = σ := by
  refine M_law04_sameInts_ok _ _ _ _ _ _ _ _ ?_
  unfold M_law04_sameInts
  have h1 := ha.lenI
  have h2 := hb.lenI
  refine bc_nd (fun hne => rt_of ⟨?_, rfl⟩) (fun heq => ?_)
  · rw [decide_eq_false (fun e => hne (by rw [h1, h2, e]))]
  · refine cut_intro fun J hJ => ?_
    refine ⟨fun n i τ => ∃ k : Nat, n = a.length - k ∧ i = k ∧ k ≤ a.length ∧ τ = σ ∧ ∀ j : Nat, j < k → gt a j = gt b j, ⟨_, 0, rfl, rfl, by omega, rfl, fun j h => by omega⟩, ?_⟩
    rintro n i τ ⟨k, rfl, rfl, hk, rfl, hj⟩ _
    refine bc_d (fun hlt => ?_) (fun hlt => ?_)
    · refine gixg ha (by omega) (by omega) (gixg hb (by omega) (by omega) (bc_nd (fun hne => rt_of ⟨?_, rfl⟩) (fun he => ?_)))
      · rw [decide_eq_false (fun e => hne (by rw [e]))]
      · exact wk_i (by omega) (bk_of _ (by omega) ⟨k + 1, rfl, rfl, by omega, rfl, fun j hjk => tail_or (p := fun j : Nat => gt a j = gt b j) (f := fun j => j) hj he hjk⟩)
    · subst hJ
      intro _
      refine rt_of ⟨?_, rfl⟩
      rw [decide_eq_true]
      refine List.ext_getElem (by omega) fun j h1 h2 => ?_
      have := hj j (by omega)
      rw [gt_nat h1, gt_nat h2] at this
      exact this
theorem c_sameSites {σ : Hp} {aA bA : Option Addr} {an ac bn bc' : Nat} {a b : List Sit} (ha : RdS sS σ aA an a) (hb : RdS sS σ bA bn b) (hl : a.length ≤ 4294967296) :
    FCalls Try.prog N_law04_sameSites #[.slice aA an ac, .slice bA bn bc'] σ fun v σ' => v = .bool (decide (a = b)) ∧ σ' = σ := by
  refine M_law04_sameSites_ok _ _ _ _ _ _ _ _ ?_
  unfold M_law04_sameSites
  have h1 := ha.lenS
  have h2 := hb.lenS
  refine bc_nd (fun hne => rt_of ⟨?_, rfl⟩) (fun heq => ?_)
  · rw [decide_eq_false (fun e => hne (by rw [h1, h2, e]))]
  · refine cut_intro fun J hJ => ?_
    refine ⟨fun n i τ => ∃ k : Nat, n = a.length - k ∧ i = k ∧ k ≤ a.length ∧ τ = σ ∧ ∀ j : Nat, j < k → sit a j = sit b j, ⟨_, 0, rfl, rfl, by omega, rfl, fun j h => by omega⟩, ?_⟩
    rintro n i τ ⟨k, rfl, rfl, hk, rfl, hj⟩ _
    refine bc_d (fun hlt => ?_) (fun hlt => ?_)
    · refine six ha (by omega) (by omega) (six hb (by omega) (by omega) ?_)
      have e1 : (decide ((sit a k).1 = (sit b k).1) && ((sit a k).2 == (sit b k).2)) = decide (sit a k = sit b k) := by
        cases sit a k with
        | mk p q => cases sit b k with
          | mk p' q' => cases q <;> cases q' <;> simp
      rw [e1]
      refine bc_nd (fun hne => rt_of ⟨?_, rfl⟩) (fun he => ?_)
      · rw [decide_eq_false (fun e => hne (by rw [e]))]
      · exact wk_i (by omega) (bk_of _ (by omega) ⟨k + 1, rfl, rfl, by omega, rfl, fun j hjk => tail_or (p := fun j : Nat => sit a j = sit b j) (f := fun j => j) hj he hjk⟩)
    · subst hJ
      intro _
      refine rt_of ⟨?_, rfl⟩
      rw [decide_eq_true]
      refine List.ext_getElem (by omega) fun j h1 h2 => ?_
      have := hj j (by omega)
      rw [sit_nat h1, sit_nat h2] at this
      exact this
/-! ### Neighbours -/
def ifL {α : Type} (b : Prop) [Decidable b] (l : List α) : List α := if b then l else []
def Gnd.nbr (g : Gnd) (c : Int) : List Int := ((ifL (0 < Int.tdiv c g.W) [c - g.W] ++ ifL (0 < Int.tmod c g.W) [c - 1]) ++ ifL (Int.tmod c g.W + 1 < g.W) [c + 1]) ++ ifL (Int.tdiv c g.W + 1 < g.H) [c + g.W]
theorem nbr_in {g : Gnd} (ho : g.okS = true) {c : Int} (h0 : 0 ≤ c) (h1 : c < g.C.length) : ∀ a ∈ g.nbr c, 0 ≤ a ∧ a < g.C.length := by
  obtain ⟨m0, m1, d0, d1, e⟩ := Gnd.xy ho h0 (by omega)
  obtain ⟨hW, hH, hl, _⟩ := Gnd.okS_iff.1 ho
  intro a ha
  unfold Gnd.nbr ifL at ha
  generalize Int.tmod c g.W = X at *
  generalize Int.tdiv c g.W = Y at *
  simp only [List.mem_append] at ha
  rcases ha with ((ha | ha) | ha) | ha
  · split at ha
    · simp only [List.mem_singleton] at ha
      have : 1 * g.W ≤ Y * g.W := Int.mul_le_mul_of_nonneg_right (by omega) (by omega)
      omega
    · cases ha
  · split at ha
    · simp only [List.mem_singleton] at ha
      have : 0 * g.W ≤ Y * g.W := Int.mul_le_mul_of_nonneg_right (by omega) (by omega)
      omega
    · cases ha
  · split at ha
    · simp only [List.mem_singleton] at ha
      have : Y * g.W ≤ (g.H - 1) * g.W := Int.mul_le_mul_of_nonneg_right (by omega) (by omega)
      rw [Int.sub_mul, Int.one_mul, Int.mul_comm g.H] at this
      omega
    · cases ha
  · split at ha
    · simp only [List.mem_singleton] at ha
      have : (Y + 1) * g.W ≤ (g.H - 1) * g.W := Int.mul_le_mul_of_nonneg_right (by omega) (by omega)
      rw [Int.sub_mul, Int.one_mul, Int.mul_comm g.H, Int.add_mul, Int.one_mul] at this
      omega
    · cases ha
theorem ifL_len {α : Type} {b : Prop} [Decidable b] {a : α} : (ifL b [a]).length ≤ 1 := by unfold ifL; split <;> simp
theorem nbr_len {g : Gnd} {c : Int} : (g.nbr c).length ≤ 4 := by
  unfold Gnd.nbr
  simp only [List.length_append]
  have := ifL_len (b := 0 < Int.tdiv c g.W) (a := c - g.W)
  have := ifL_len (b := 0 < Int.tmod c g.W) (a := c - 1)
  have := ifL_len (b := Int.tmod c g.W + 1 < g.W) (a := c + 1)
  have := ifL_len (b := Int.tdiv c g.W + 1 < g.H) (a := c + g.W)
  omega
theorem if_T {α : Type} {b : Prop} [Decidable b] {l : List α} (h : b) : ifL b l = l := if_pos h
theorem if_F {α : Type} {b : Prop} [Decidable b] {l : List α} (h : ¬ b) : ifL b l = [] := if_neg h
theorem c_Neighbours {σ : Hp} {x : GV} {g : Gnd} {c : Int} (ho : g.okS = true) (h0 : 0 ≤ c) (h1 : c < g.C.length) : FCalls Try.prog N_ref04_Neighbours #[x.v g, .int .i64 c] σ (NewL 3 [.int .i64] σ (g.nbr c)) := by
  refine M_ref04_Neighbours_ok _ _ _ _ _ _ _ _ _ _ _ ?_
  unfold M_ref04_Neighbours
  obtain ⟨m0, m1, d0, d1, e⟩ := Gnd.xy ho h0 (by omega)
  obtain ⟨hW, hH, hl, _⟩ := Gnd.okS_iff.1 ho
  obtain ⟨l1, l2, l3⟩ := Gnd.okS_len ho
  unfold Gnd.nbr
  refine ⟨by omega, by omega, wk_i (by omega) ?_⟩
  generalize Int.tmod c g.W = X at *
  generalize Int.tdiv c g.W = Y at *
  have e1 := ifL_len (b := 0 < Y) (a := c - g.W)
  have e2 := ifL_len (b := 0 < X) (a := c - 1)
  have e3 := ifL_len (b := X + 1 < g.W) (a := c + 1)
  refine cut_intro fun J4 h4 => ?_
  have k4 : J4 (ifL (0 < Y) [c - g.W]) σ := by
    rw [h4]
    intro _
    refine cut_intro fun J8 h8 => ?_
    have k8 : J8 (ifL (0 < Y) [c - g.W] ++ ifL (0 < X) [c - 1]) σ := by
      rw [h8]
      intro _
      refine cut_intro fun J12 h12 => ?_
      have k12 : J12 ((ifL (0 < Y) [c - g.W] ++ ifL (0 < X) [c - 1]) ++ ifL (X + 1 < g.W) [c + 1]) σ := by
        rw [h12]
        intro _
        refine cut_intro fun J16 h16 => ?_
        have k16 : J16 (((ifL (0 < Y) [c - g.W] ++ ifL (0 < X) [c - 1]) ++ ifL (X + 1 < g.W) [c + 1]) ++ ifL (Y + 1 < g.H) [c + g.W]) σ := by
          rw [h16]
          exact fun _ A n c' σ' hown => rt_of ⟨_, _, _, rfl, hown⟩
        refine wk_i (by omega) (bc_d (fun h => wk_i (by omega) (roomy_i ?_ ?_)) (fun h => ?_))
        · simp only [List.length_append, List.length_cons, List.length_nil]
          omega
        · rw [if_T h] at k16; exact k16
        · rw [if_F h, List.append_nil] at k16; exact k16
      refine wk_i (by omega) (bc_d (fun h => wk_i (by omega) (roomy_i ?_ ?_)) (fun h => ?_))
      · simp only [List.length_append, List.length_cons, List.length_nil]
        omega
      · rw [if_T h] at k12; exact k12
      · rw [if_F h, List.append_nil] at k12; exact k12
    refine bc_d (fun h => wk_i (by omega) (roomy_i ?_ ?_)) (fun h => ?_)
    · simp only [List.length_cons, List.length_nil]
      omega
    · rw [if_T h] at k8; exact k8
    · rw [if_F h, List.append_nil] at k8; exact k8
  refine bc_d (fun h => wk_i (by omega) (adp_nil.2 (roomy_i ?_ ?_))) (fun h => adp_nil.2 ?_)
  · show (1 : Nat) ≤ 4294967296
    omega
  · rw [if_T h] at k4; exact k4
  · rw [if_F h] at k4; exact k4
theorem c_field_beside {σ : Hp} {f : Option Addr} {V : FA} {g : Gnd} {l : List Pit} {c : Int} (hf : FdB σ f V g l) (ho : g.okS = true) (h0 : 0 ≤ c) (h1 : c < g.C.length) : FCalls Try.prog N_ground_field_beside #[.pointer f, .int .i64 c] σ (NewL 3 [.int .i64] σ (g.nbr c)) := by
  refine M_ground_field_beside_ok _ _ _ _ ?_
  unfold M_ground_field_beside
  obtain ⟨m0, m1, d0, d1, e⟩ := Gnd.xy ho h0 (by omega)
  obtain ⟨hW, hH, hl, _⟩ := Gnd.okS_iff.1 ho
  obtain ⟨l1, l2, l3⟩ := Gnd.okS_len ho
  unfold Gnd.nbr
  refine hf.dW ⟨by omega, hf.dW ⟨by omega, wk_i (by omega) ?_⟩⟩
  generalize Int.tmod c g.W = X at *
  generalize Int.tdiv c g.W = Y at *
  have e1 := ifL_len (b := 0 < Y) (a := c - g.W)
  have e2 := ifL_len (b := 0 < X) (a := c - 1)
  have e3 := ifL_len (b := X + 1 < g.W) (a := c + 1)
  refine cut_intro fun J4 h4 => ?_
  have k4 : J4 (ifL (0 < Y) [c - g.W]) σ := by
    rw [h4]
    intro _
    refine cut_intro fun J8 h8 => ?_
    have k8 : J8 (ifL (0 < Y) [c - g.W] ++ ifL (0 < X) [c - 1]) σ := by
      rw [h8]
      intro _
      refine cut_intro fun J12 h12 => ?_
      have k12 : J12 ((ifL (0 < Y) [c - g.W] ++ ifL (0 < X) [c - 1]) ++ ifL (X + 1 < g.W) [c + 1]) σ := by
        rw [h12]
        intro _
        refine cut_intro fun J16 h16 => ?_
        have k16 : J16 (((ifL (0 < Y) [c - g.W] ++ ifL (0 < X) [c - 1]) ++ ifL (X + 1 < g.W) [c + 1]) ++ ifL (Y + 1 < g.H) [c + g.W]) σ := by
          rw [h16]
          exact fun _ A n c' σ' hown => rt_of ⟨_, _, _, rfl, hown⟩
        refine hf.dH (wk_i (by omega) (bc_d (fun h => hf.dW (wk_i (by omega) (roomy_i ?_ ?_))) (fun h => ?_)))
        · simp only [List.length_append, List.length_cons, List.length_nil]
          omega
        · rw [if_T (b := Y + 1 < g.H) (by omega)] at k16; exact k16
        · rw [if_F (b := Y + 1 < g.H) (by omega), List.append_nil] at k16; exact k16
      refine hf.dW (wk_i (by omega) (bc_d (fun h => wk_i (by omega) (roomy_i ?_ ?_)) (fun h => ?_)))
      · simp only [List.length_append, List.length_cons, List.length_nil]
        omega
      · rw [if_T (b := X + 1 < g.W) (by omega)] at k12; exact k12
      · rw [if_F (b := X + 1 < g.W) (by omega), List.append_nil] at k12; exact k12
    refine bc_d (fun h => wk_i (by omega) (roomy_i ?_ ?_)) (fun h => ?_)
    · simp only [List.length_cons, List.length_nil]
      omega
    · rw [if_T h] at k8; exact k8
    · rw [if_F h, List.append_nil] at k8; exact k8
  refine bc_d (fun h => hf.dW (wk_i (by omega) (adp_nil.2 (roomy_i ?_ ?_)))) (fun h => adp_nil.2 ?_)
  · show (1 : Nat) ≤ 4294967296
    omega
  · rw [if_T h] at k4; exact k4
  · rw [if_F h] at k4; exact k4
/-! ### Free cells, costs -/
def Fd.free (F : Fd) (c : Int) : Bool := decide (gt F.g.C c ≠ 1 ∧ gt F.tk c < 0)
theorem c_field_free {σ : Hp} {f : Option Addr} {V : FA} {F : Fd} {c : Int} (hf : FdR σ f V F) (hF : F.ok) (h0 : 0 ≤ c) (h1 : c < F.g.C.length) : FCalls Try.prog N_ground_field_free #[.pointer f, .int .i64 c] σ fun v σ' => v = .bool (F.free c) ∧ σ' = σ := by
  refine M_ground_field_free_ok _ _ _ _ ?_
  unfold M_ground_field_free
  have htk := hF.tk
  refine hf.dC (gixg hf.gr.c h0 (by omega) (bc_nd (fun h => hf.dK (gixg hf.tr h0 (by omega) (rt_of ⟨?_, rfl⟩))) (fun h => rt_of ⟨?_, rfl⟩)))
  · simp [Fd.free, h]
  · simp [Fd.free, h]
def Gnd.drn (g : Gnd) (c : Int) : Int := if gt g.C c = 2 then 3 else 0
theorem drn_in {g : Gnd} {c : Int} : 0 ≤ g.drn c ∧ g.drn c ≤ 3 := by unfold Gnd.drn; split <;> omega
theorem c_field_drain {σ : Hp} {f : Option Addr} {V : FA} {g : Gnd} {l : List Pit} {c : Int} (hf : FdB σ f V g l) (h0 : 0 ≤ c) (h1 : c < g.C.length) : FCalls Try.prog N_ground_field_drain #[.pointer f, .int .i64 c] σ fun v σ' => v = .int .i64 (g.drn c) ∧ σ' = σ := by
  refine M_ground_field_drain_ok _ _ _ _ ?_
  unfold M_ground_field_drain
  refine hf.dC (gixg hf.gr.c h0 (by omega) (bc_d (fun h => rt_of ⟨?_, rfl⟩) (fun h => rt_of ⟨?_, rfl⟩))) <;> simp [Gnd.drn, h]
def Gnd.stp (g : Gnd) (a b : Int) : Int := 1 + (if gt g.T b - gt g.T a > gt g.T a - gt g.T b then gt g.T b - gt g.T a else gt g.T a - gt g.T b)
theorem stp_in {g : Gnd} (h : g.ok = true) {a b : Int} : 1 ≤ g.stp a b ∧ g.stp a b ≤ 101 := by
  have h1 := gt_in (Gnd.okT h) (by omega) a
  have h2 := gt_in (Gnd.okT h) (by omega) b
  unfold Gnd.stp
  split <;> omega
theorem stp_comm {g : Gnd} {a b : Int} : g.stp a b = g.stp b a := by
  unfold Gnd.stp
  split <;> split <;> omega
theorem c_field_step {σ : Hp} {f : Option Addr} {V : FA} {g : Gnd} {l : List Pit} {a b : Int} (hf : FdB σ f V g l) (hok : g.ok = true) (h0 : 0 ≤ a) (h1 : a < g.C.length) (h2 : 0 ≤ b) (h3 : b < g.C.length) : FCalls Try.prog N_ground_field_step #[.pointer f, .int .i64 a, .int .i64 b] σ fun v σ' => v = .int .i64 (g.stp a b) ∧ σ' = σ := by
  refine M_ground_field_step_ok _ _ _ _ _ ?_
  unfold M_ground_field_step
  obtain ⟨_, _, l3⟩ := Gnd.okS_len (Gnd.ok.s hok)
  have b1 := gt_in (Gnd.okT hok) (by omega) a
  have b2 := gt_in (Gnd.okT hok) (by omega) b
  refine hf.dT (gixg hf.gr.h h0 (by omega) (hf.dT (gixg hf.gr.h h2 (by omega) (wk_i (by omega) (hf.dT (gixg hf.gr.h h2 (by omega) (hf.dT (gixg hf.gr.h h0 (by omega) (wk_i (by omega) (wk_i ?_ (rt_of ⟨rfl, rfl⟩)))))))))))
  split <;> omega
end Go.Proofs.Ytmpkiaghkhhlhaa

/- Contracts of layer 4: Open, Cost, withCell. No conditions but those that each theorem names. -/
namespace Go.Proofs.Ytmpkiaghkhhlhaa
open Go.RowKit

/-! ### Open cells -/
def Gnd.opnK (g : Gnd) (full : List Bool) (k : Nat) : List Bool := (List.range k).map (fun j : Nat => !gb full j && decide (gt g.C j ≠ 1)) ++ List.replicate (g.C.length - k) false
def Gnd.opn (g : Gnd) (l : List Pit) (st : List Sit) : List Bool := g.opnK (g.takS l st (-1) st.length) g.C.length
theorem opnK_len {g : Gnd} {full : List Bool} {k : Nat} (h : k ≤ g.C.length) : (g.opnK full k).length = g.C.length := by simp [Gnd.opnK]; omega
theorem opnK_succ {g : Gnd} {full : List Bool} {k : Nat} (h : k < g.C.length) : g.opnK full (k + 1) = (g.opnK full k).set k (!gb full k && decide (gt g.C k ≠ 1)) := by
  unfold Gnd.opnK
  rw [List.range_succ, List.map_append, List.append_assoc]
  have e : List.replicate (g.C.length - k) false = false :: List.replicate (g.C.length - (k + 1)) false := by
    rw [← List.replicate_succ]
    congr 1
    omega
  rw [e, List.set_append_right _ _ (by simp)]
  simp
theorem opn_len {g : Gnd} {l : List Pit} {st : List Sit} : (g.opn l st).length = g.C.length := opnK_len (Nat.le_refl _)
theorem gb_opn {g : Gnd} {l : List Pit} {st : List Sit} {c : Int} (h0 : 0 ≤ c) (h1 : c < g.C.length) : gb (g.opn l st) c = (!gb (g.takS l st (-1) st.length) c && decide (gt g.C c ≠ 1)) := by
  have hl := opn_len (g := g) (l := l) (st := st)
  obtain ⟨n, rfl⟩ : ∃ n : Nat, c = n := ⟨c.toNat, by omega⟩
  rw [gb_nat (by omega)]
  unfold Gnd.opn Gnd.opnK
  rw [List.getElem_append_left (by simp; omega)]
  simp
theorem c_Open {σ : Hp} {x : GV} {g : Gnd} {lA sA : Option Addr} {ln lc sn sc : Nat} {l : List Pit} {st : List Sit} (hg : GRd σ x g) (hG : Good g l) (hl : RdS sP σ lA ln l) (hst : RdS sS σ sA sn st) (hle : st.length ≤ l.length) :
    FCalls Try.prog N_ref04_Open #[x.v g, .slice lA ln lc, .slice sA sn sc] σ (NewL 4 [.bool] σ (g.opn l st)) := by
  refine M_ref04_Open_ok _ _ _ _ _ _ _ _ _ _ _ _ _ _ _ _ ?_
  unfold M_ref04_Open
  refine clL M_ref04_taken_enter (c_taken (but := -1) hg hG.s hl hst hG.p hle hG.len) ?_
  have hfl : (g.takS l st (-1) st.length).length = g.C.length := takS_len _
  obtain ⟨l1, l2, _⟩ := Gnd.okS_len hG.s
  show _ ∧ _
  unfold Gnd.opn
  generalize g.takS l st (-1) st.length = full at *
  refine ⟨by omega, by omega, by omega, cut_intro fun J8 h8 => ?_⟩
  refine ⟨fun n i xs τ => ∃ k : Nat, n = g.C.length - k ∧ i = k ∧ k ≤ g.C.length ∧ xs = g.opnK full k ∧ τ = σ, ⟨_, 0, rfl, rfl, by omega, by simp [Gnd.opnK, hfl], rfl⟩, ?_⟩
  rintro n i xs τ ⟨k, rfl, rfl, hk, rfl, rfl⟩ _
  have hkl := opnK_len (full := full) hk
  refine bc_d (fun hlt => ?_) (fun hlt => ?_)
  · have hkl' : k < g.C.length := by omega
    refine cut_intro fun J20 h20 => ?_
    have k20 : J20 (g.opnK full (k + 1)) τ := by
      rw [h20]
      intro _
      exact wk_i (by omega) (bk_of _ (by omega) ⟨k + 1, rfl, rfl, by omega, rfl, rfl⟩)
    rw [opnK_succ hkl'] at k20
    refine ⟨by omega, by omega, lat_b (by omega) (by omega) (bc_nb (fun h => ?_) (fun h => ?_))⟩
    · refine gixg hg.c (by omega) (by omega) ⟨by omega, by omega, lat_b (by omega) (by omega) ?_⟩
      rw [h] at k20
      simpa using k20
    · refine ⟨by omega, by omega, lat_b (by omega) (by omega) ?_⟩
      rw [h] at k20
      simpa using k20
  · rw [h8]
    intro _
    have : k = g.C.length := by omega
    subst this
    exact fun A n c σ' hown => rt_of ⟨_, _, _, rfl, hown⟩

/-! ### What a way costs -/
def Gnd.costK (g : Gnd) (way : List Int) : Nat → Int
  | 0 => 0
  | k + 1 => (g.costK way k + g.drn (gt way k)) + if 0 < k then g.stp (gt way (k - 1 : Nat)) (gt way k) else 0
theorem costK_in {g : Gnd} (h : g.ok = true) {way : List Int} : ∀ k : Nat, 0 ≤ g.costK way k ∧ g.costK way k ≤ 104 * k
  | 0 => by simp [Gnd.costK]
  | k + 1 => by
    have ih := costK_in h (way := way) k
    have h1 := drn_in (g := g) (c := gt way k)
    have h2 := stp_in h (a := gt way (k - 1 : Nat)) (b := gt way k)
    unfold Gnd.costK
    split <;> omega
theorem c_Cost {σ : Hp} {x : GV} {g : Gnd} {wA : Option Addr} {wn wc : Nat} {way : List Int} (hg : GRd σ x g) (hok : g.ok = true) (hw : RdS [.int .i64] σ wA wn way) (hin : ∀ a ∈ way, 0 ≤ a ∧ a < g.C.length) (hlen : way.length ≤ 4294967296) :
    FCalls Try.prog N_ref04_Cost #[x.v g, .slice wA wn wc] σ fun v σ' => v = .int .i64 (g.costK way way.length) ∧ σ' = σ := by
  refine M_ref04_Cost_ok _ _ _ _ _ _ _ _ _ _ _ _ _ ?_
  unfold M_ref04_Cost
  have hn := hw.lenI
  obtain ⟨l1, l2, l3⟩ := Gnd.okS_len (Gnd.ok.s hok)
  refine cut_intro fun J3 h3 => ?_
  refine ⟨fun n c i τ => ∃ k : Nat, n = way.length - k ∧ c = g.costK way k ∧ i = k ∧ k ≤ way.length ∧ τ = σ, ⟨_, 0, rfl, rfl, rfl, by omega, rfl⟩, ?_⟩
  rintro n c i τ ⟨k, rfl, rfl, rfl, hk, rfl⟩ _
  refine bc_d (fun hlt => ?_) (fun hlt => ?_)
  · have hkl : k < way.length := by omega
    have ik := hin _ (gt_mem hkl)
    have hck := costK_in hok (way := way) k
    have hdr := drn_in (g := g) (c := gt way k)
    refine cut_intro fun J13 h13 => cut_intro fun J20 h20 => ?_
    have k13 : J13 (g.costK way (k + 1)) τ := by
      rw [h13]
      intro _
      exact wk_i (by omega) (bk_of _ (by omega) ⟨k + 1, rfl, rfl, rfl, by omega, rfl⟩)
    rw [Gnd.costK] at k13
    have k20 : J20 (g.costK way k + g.drn (gt way k)) τ := by
      rw [h20]
      intro _
      refine bc_d (fun h0 => ?_) (fun h0 => ?_)
      · rw [if_pos (by omega)] at k13
        have e : ((k : Int) - 1) = ((k - 1 : Nat) : Int) := by omega
        have ik1 := hin _ (gt_mem (show k - 1 < way.length by omega))
        have b1 := gt_in (Gnd.okT hok) (by omega) (gt way k)
        have b2 := gt_in (Gnd.okT hok) (by omega) (gt way (k - 1 : Nat))
        refine gixg hw (by omega) (by omega) (gixg hg.h (by omega) (by omega) (wk_i (by omega) (gixg hw (by omega) (by omega) ?_)))
        rw [e]
        refine gixg hg.h (by omega) (by omega) (wk_i (by omega) (wk_i (by omega) (wk_i ?_ ?_)))
        · split <;> omega
        · have es : g.stp (gt way (k - 1 : Nat)) (gt way k) = 1 + (if 0 - (gt g.T (gt way k) - gt g.T (gt way (k - 1 : Nat))) > gt g.T (gt way k) - gt g.T (gt way (k - 1 : Nat)) then 0 - (gt g.T (gt way k) - gt g.T (gt way (k - 1 : Nat))) else gt g.T (gt way k) - gt g.T (gt way (k - 1 : Nat))) := by
            unfold Gnd.stp
            split <;> split <;> omega
          have hst := stp_in hok (a := gt way (k - 1 : Nat)) (b := gt way k)
          rw [es] at k13 hst
          exact wk_i (by omega) k13
      · rw [if_neg (by omega), Int.add_zero] at k13
        exact k13
    refine gixg hw (by omega) (by omega) (gixg hg.c (by omega) (by omega) (bc_d (fun h2 => ?_) (fun h2 => ?_)))
    · have : g.drn (gt way k) = 3 := by simp [Gnd.drn, h2]
      rw [this] at k20
      exact wk_i (by omega) k20
    · have : g.drn (gt way k) = 0 := by simp [Gnd.drn, h2]
      rw [this, Int.add_zero] at k20
      exact k20
  · rw [h3]
    intro _
    have : k = way.length := by omega
    subst this
    exact rt_of ⟨rfl, rfl⟩
theorem cost1 {g : Gnd} {a : Int} : g.costK [a] 1 = g.drn a := by simp [Gnd.costK, gt]
theorem cost2 {g : Gnd} {a b : Int} : g.costK [a, b] 2 = g.drn a + g.drn b + g.stp a b := by simp [Gnd.costK, gt]

/-! ### A field and some cells -/
theorem c_withCell_1 {σ : Hp} {x : GV} {g : Gnd} {c : Int} {b : Nat} (hb : ∀ i, σ.cell? ⟨b, i, none⟩ = (#[.int .i64 g.W, .int .i64 g.H, .slice x.cA x.cn x.cc, .slice x.hA x.hn x.hc] : Array Value)[i]?) (hc : x.cn = g.C.length) (hl : g.C.length ≤ 4294967296) :
    FCalls Try.prog N_ground_withCell_1 #[.int .i64 c, .pointer (some ⟨b, 0, none⟩)] σ fun v σ' => v = .bool (!decide (0 ≤ c ∧ c ≤ (g.C.length : Int) - 1)) ∧ σ' = σ := by
  refine M_ground_withCell_1_ok _ _ _ _ ?_
  unfold M_ground_withCell_1
  refine dr_i (ldS_of ((hb _).trans rfl) (wk_i (by omega) (l_gw (rt_of ⟨by rw [hc], rfl⟩))))
/-- what hands back a field, or an error -/
def NewF1 (σ : Hp) (e : Int) (F : Fd) : Value → Hp → Prop := fun v σ' =>
  (e ≠ 0 ∧ v = .tuple #[.pointer none, .int .i64 e] ∧ σ' = σ) ∨ (e = 0 ∧ ∃ f V σ0, v = .tuple #[.pointer f, .int .i64 e] ∧ Hp.Sub σ σ0 ∧ FdW σ0 σ' f V F)
theorem c_withCell {σ : Hp} {x : GV} {g : Gnd} {lA sA kA : Option Addr} {ln lc sn sc kn kc : Nat} {l : List Pit} {st : List Sit} {ks : List Int} (hg : GRd σ x g) (hl : RdS sP σ lA ln l) (hst : RdS sS σ sA sn st) (hk : RdS [.int .i64] σ kA kn ks) (hkl : ks.length ≤ 4294967296) :
    FCalls Try.prog N_ground_withCell #[x.v g, .slice lA ln lc, .slice sA sn sc, .slice kA kn kc] σ (NewF1 σ (if (chkS g l st).2 ≠ 0 then (chkS g l st).2 else if ks.any fun c => !decide (0 ≤ c ∧ c ≤ (g.C.length : Int) - 1) then 1 else 0) (fdK g l st l.length)) := by
  refine M_ground_withCell_ok _ _ _ _ _ _ _ _ _ _ _ _ _ _ _ _ _ _ _ ?_
  unfold M_ground_withCell
  have hcn := hg.c.lenI
  refine cl_of M_ground_newField_enter (c_newField hg hl hst) ?_
  rintro v σ' (⟨hne, rfl, rfl⟩ | ⟨h00, f, V, σ0, rfl, hs0, hfw⟩)
  · refine ⟨_, _, _, rfl, bc_nd (fun h => rt_of (.inl ?_)) (fun h => absurd h hne)⟩
    rw [if_pos hne]
    exact ⟨hne, rfl, rfl⟩
  · refine ⟨_, _, _, rfl, bc_nd (fun h => absurd h00 h) (fun h => ?_)⟩
    have hs : Hp.Sub σ σ' := hs0.trans hfw.base
    have hlen : g.C.length ≤ 4294967296 := by
      have hch : (chkP g l).2 = 0 := by
        unfold chkS at h00
        by_cases e : (chkP g l).2 ≠ 0
        · rw [if_pos e] at h00; exact absurd h00 e
        · simpa using e
      have := (Gnd.okS_len (Gnd.ok.s (chkP_ok hch).1)).2.1
      omega
    rw [if_neg (by simp [h00])]
    intro b hb
    have hs4 : Hp.Sub σ' (σ'.ins b (.cells #[.int .i64 g.W, .int .i64 g.H, .slice x.cA x.cn x.cc, .slice x.hA x.hn x.hc] 24)) := Hp.Sub.ins _ hb
    have hcell : ∀ i, (σ'.ins b (.cells #[.int .i64 g.W, .int .i64 g.H, .slice x.cA x.cn x.cc, .slice x.hA x.hn x.hc] 24)).cell? ⟨b, i, none⟩ = (#[.int .i64 g.W, .int .i64 g.H, .slice x.cA x.cn x.cc, .slice x.hA x.hn x.hc] : Array Value)[i]? := by
      intro i
      unfold Hp.cell?
      simp only [Hp.ins_same]
      rfl
    generalize (σ'.ins b (.cells #[.int .i64 g.W, .int .i64 g.H, .slice x.cA x.cn x.cc, .slice x.hA x.hn x.hc] 24)) = τ at *
    refine clB M_slices_ContainsFunc_int_enter (c_ContainsFunc_int (p := fun c => !decide (0 ≤ c ∧ c ≤ (g.C.length : Int) - 1)) (hk.sub (hs.trans hs4)) hkl (Dec.of M_ground_withCell_1_enter fun a _ => c_withCell_1 hcell hcn hlen)) ?_
    refine bc_b (fun ht => rt_sub (hs.trans hs4) (.inl ?_)) (fun ht => rt_sub hs4 (.inr ?_))
    · rw [ht]
      exact ⟨by simp, rfl, rfl⟩
    · rw [ht]
      exact ⟨rfl, f, V, σ0, rfl, hs0, hfw⟩
end Go.Proofs.Ytmpkiaghkhhlhaa

/- The plain law of the cable: rounds of relaxing. No program in sight but the lists. -/
namespace Go.Proofs.Ytmpkiaghkhhlhaa
open Go.RowKit

section
variable (g : Gnd) (op : Int → Bool)
/-- one neighbour k of c -/
def rlx (c : Int) (X : List Int) (k : Int) : List Int :=
  if gt X k < 0 ∨ op k = false then X else if gt X c < 0 ∨ gt X k + g.stp c k + g.drn c < gt X c then X.set c.toNat (gt X k + g.stp c k + g.drn c) else X
def rlxC (c : Int) (X : List Int) : List Int := if op c then (g.nbr c).foldl (rlx g op c) X else X
def rndK (k : Nat) (X : List Int) : List Int := (List.range k).foldl (fun X (c : Nat) => rlxC g op c X) X
def rnd (X : List Int) : List Int := rndK g op g.C.length X
def rnds : Nat → List Int → List Int
  | 0, X => X
  | n + 1, X => rnd g op (rnds n X)
end
variable {g : Gnd} {op : Int → Bool}
theorem rndK_succ {k : Nat} {X : List Int} : rndK g op (k + 1) X = rlxC g op k (rndK g op k X) := by simp [rndK, List.range_succ]

/-- what always holds of the costs -/
structure CInv (g : Gnd) (op : Int → Bool) (to : Int) (X : List Int) : Prop where
  len : X.length = g.C.length
  neg : ∀ c : Int, gt X c < 0 → gt X c = -1
  opn : ∀ c : Int, 0 ≤ c → c < g.C.length → 0 ≤ gt X c → op c = true
  tov : gt X to = g.drn to
  sup : ∀ c : Int, 0 ≤ c → c < g.C.length → c ≠ to → 0 ≤ gt X c → ∃ k ∈ g.nbr c, op k = true ∧ 0 ≤ gt X k ∧ gt X k + g.stp c k + g.drn c ≤ gt X c
/-- lower, or as low -/
def Le (X Y : List Int) : Prop := ∀ c : Int, 0 ≤ gt Y c → 0 ≤ gt X c ∧ gt X c ≤ gt Y c
theorem Le.refl (X : List Int) : Le X X := fun _ h => ⟨h, Int.le_refl _⟩
theorem Le.trans {X Y Z : List Int} (h : Le X Y) (h' : Le Y Z) : Le X Z := fun c hc => by
  have h1 := h' c hc
  have h2 := h c h1.1
  omega
theorem gt_out {xs : List Int} {i : Int} (h : xs.length ≤ i.toNat) : gt xs i = 0 := by simp [gt, List.getD, h]
theorem gt_set' {xs : List Int} {i c v : Int} (h0 : 0 ≤ i) (h1 : i < xs.length) : gt (xs.set i.toNat v) c = if c.toNat = i.toNat then v else gt xs c := by
  unfold gt
  simp only [List.getD, List.getElem?_set]
  by_cases h : i.toNat = c.toNat
  · rw [if_pos h, if_pos h.symm, if_pos (by omega)]
    rfl
  · rw [if_neg h, if_neg (fun e => h e.symm)]
theorem gt_to {xs : List Int} {c i : Int} (h : c.toNat = i.toNat) : gt xs c = gt xs i := by unfold gt; rw [h]

/-- what one step of relaxing does -/
inductive Rlx (g : Gnd) (op : Int → Bool) (c : Int) (X : List Int) (k : Int) : List Int → Prop where
  | same : (gt X k < 0 ∨ op k = false ∨ (0 ≤ gt X c ∧ gt X c ≤ gt X k + g.stp c k + g.drn c)) → Rlx g op c X k X
  | set : 0 ≤ gt X k → op k = true → (gt X c < 0 ∨ gt X k + g.stp c k + g.drn c < gt X c) → Rlx g op c X k (X.set c.toNat (gt X k + g.stp c k + g.drn c))
theorem rlx_is {c k : Int} {X : List Int} : Rlx g op c X k (rlx g op c X k) := by
  unfold rlx
  split
  · rename_i h
    exact .same (h.imp id fun h => .inl h)
  · rename_i h
    split
    · rename_i h2
      refine .set (by omega) ?_ h2
      cases e : op k with
      | true => rfl
      | false => exact absurd (.inr e) h
    · rename_i h2
      exact .same (.inr (.inr (by omega)))
theorem Rlx.le {c k : Int} {X Y : List Int} (h : Rlx g op c X k Y) (hok : g.ok = true) (h0 : 0 ≤ c) (h1 : c < X.length) : Le Y X := by
  cases h with
  | same _ => exact Le.refl _
  | set a b d =>
    intro i hi
    have := stp_in hok (a := c) (b := k)
    have := drn_in (g := g) (c := c)
    rw [gt_set' h0 h1]
    split
    · rename_i e
      rw [gt_to e] at hi ⊢
      omega
    · omega
theorem Rlx.inv {c k to : Int} {X Y : List Int} (h : Rlx g op c X k Y) (hok : g.ok = true) (hX : CInv g op to X) (h0 : 0 ≤ c) (h1 : c < g.C.length) (t0 : 0 ≤ to) (hop : op c = true) (hk : k ∈ g.nbr c) : CInv g op to Y := by
  have hle := h.le hok h0 (by rw [hX.len]; exact h1)
  cases h with
  | same _ => exact hX
  | set a b d =>
    have s1 := stp_in hok (a := c) (b := k)
    have s2 := drn_in (g := g) (c := c)
    have h1' : c < X.length := by rw [hX.len]; exact h1
    have hto := hX.tov
    have htne : to ≠ c := by
      rintro rfl
      omega
    refine ⟨by simpa using hX.len, fun i hi => ?_, fun i i0 i1 hi => ?_, ?_, fun i i0 i1 hne hi => ?_⟩
    · rw [gt_set' h0 h1'] at hi ⊢
      split at hi
      · omega
      · rename_i e; rw [if_neg e]; exact hX.neg i hi
    · rw [gt_set' h0 h1'] at hi
      split at hi
      · have : i = c := by omega
        rw [this]; exact hop
      · exact hX.opn i i0 i1 hi
    · rw [gt_set' h0 h1', if_neg (by omega)]
      exact hto
    · by_cases e : i = c
      · subst e
        refine ⟨k, hk, b, (hle k a).1, ?_⟩
        have := (hle k a).2
        rw [gt_set' (c := i) h0 h1', if_pos rfl]
        omega
      · rw [gt_set' h0 h1', if_neg (by omega)] at hi ⊢
        obtain ⟨k', m1, m2, m3, m4⟩ := hX.sup i i0 i1 hne hi
        have := hle k' m3
        exact ⟨k', m1, m2, this.1, by omega⟩
/-- what holds behind each step, holds behind a round -/
theorem rlxC_ind {P : List Int → Prop} {c : Int} {X : List Int} (hX : P X) (h : ∀ Y k, P Y → op c = true → k ∈ g.nbr c → P (rlx g op c Y k)) : P (rlxC g op c X) := by
  unfold rlxC
  split
  · rename_i hop
    have : ∀ (ks : List Int) (Y : List Int), (∀ k ∈ ks, k ∈ g.nbr c) → P Y → P (ks.foldl (rlx g op c) Y) := by
      intro ks
      induction ks with
      | nil => intro Y _ hY; exact hY
      | cons k ks ih => intro Y hk hY; exact ih _ (fun k' hk' => hk k' (List.mem_cons_of_mem _ hk')) (h Y k hY hop (hk k (List.mem_cons_self ..)))
    exact this _ X (fun _ hk => hk) hX
  · exact hX
theorem rndK_ind {P : List Int → Prop} {X : List Int} (hX : P X) : ∀ n : Nat, (∀ (c : Nat) (Y : List Int) k, c < n → P Y → op c = true → k ∈ g.nbr c → P (rlx g op c Y k)) → P (rndK g op n X)
  | 0, _ => hX
  | n + 1, h => by
    rw [rndK_succ]
    exact rlxC_ind (rndK_ind hX n fun c Y k hc => h c Y k (by omega)) fun Y k => h n Y k (by omega)
theorem rnd_inv {to : Int} {X : List Int} (hok : g.ok = true) (t0 : 0 ≤ to) (hX : CInv g op to X) {n : Nat} (hn : n ≤ g.C.length) : CInv g op to (rndK g op n X) :=
  rndK_ind hX n fun c _ _ hc hY hop hk => rlx_is.inv hok hY (by omega) (by omega) t0 hop hk
theorem rnds_inv {to : Int} {X : List Int} (hok : g.ok = true) (t0 : 0 ≤ to) (hX : CInv g op to X) : ∀ n, CInv g op to (rnds g op n X)
  | 0 => hX
  | n + 1 => rnd_inv hok t0 (rnds_inv hok t0 hX n) (Nat.le_refl _)
/-- a fixed point: nothing can be lowered -/
def Fix (g : Gnd) (op : Int → Bool) (X : List Int) : Prop := ∀ c : Int, 0 ≤ c → c < g.C.length → op c = true → ∀ k ∈ g.nbr c, op k = true → 0 ≤ gt X k → 0 ≤ gt X c ∧ gt X c ≤ gt X k + g.stp c k + g.drn c
theorem Rlx.ge {c k : Int} {X Y Z : List Int} (h : Rlx g op c X k Z) (hY : Fix g op Y) (hXY : Le Y X) (h0 : 0 ≤ c) (h1 : c < g.C.length) (hl : X.length = g.C.length) (hop : op c = true) (hk : k ∈ g.nbr c) : Le Y Z := by
  cases h with
  | same _ => exact hXY
  | set a b d =>
    intro i hi
    rw [gt_set' h0 (by omega)] at hi ⊢
    split
    · rename_i e
      have h2 := hXY k a
      have h3 := hY c h0 h1 hop k hk b h2.1
      rw [gt_to e]
      omega
    · rename_i e
      rw [if_neg e] at hi
      exact hXY i hi
/-- a round between: it lowers X, and stays above a fixed point -/
theorem rndK_btw {to : Int} {X Y : List Int} (hok : g.ok = true) (t0 : 0 ≤ to) (hX : CInv g op to X) (hY : Fix g op Y) (hXY : Le Y X) {n : Nat} (hn : n ≤ g.C.length) : CInv g op to (rndK g op n X) ∧ Le Y (rndK g op n X) ∧ Le (rndK g op n X) X := by
  refine rndK_ind (P := fun Z => CInv g op to Z ∧ Le Y Z ∧ Le Z X) ⟨hX, hXY, Le.refl X⟩ n ?_
  rintro c Z k hc ⟨z1, z2, z3⟩ hop hk
  refine ⟨rlx_is.inv hok z1 (by omega) (by omega) t0 hop hk, rlx_is.ge hY z2 (by omega) (by omega) z1.len hop hk, (rlx_is.le hok (by omega) (by rw [z1.len]; omega)).trans z3⟩
end Go.Proofs.Ytmpkiaghkhhlhaa

/- Contracts of layer 4: rounds of relaxing come to one fixed point. No conditions but those that each theorem names. -/
namespace Go.Proofs.Ytmpkiaghkhhlhaa
open Go.RowKit
variable {g : Gnd} {op : Int → Bool}

theorem foldl_le {to c : Int} (hok : g.ok = true) (t0 : 0 ≤ to) (h0 : 0 ≤ c) (h1 : c < g.C.length) (hop : op c = true) : ∀ (ks : List Int) {X : List Int}, (∀ k ∈ ks, k ∈ g.nbr c) → CInv g op to X → CInv g op to (ks.foldl (rlx g op c) X) ∧ Le (ks.foldl (rlx g op c) X) X ∧ ∀ Y, Fix g op Y → Le Y X → Le Y (ks.foldl (rlx g op c) X)
  | [], X, _, hX => ⟨hX, Le.refl X, fun _ _ h => h⟩
  | k :: ks, X, hk, hX => by
    have hkm := hk k (List.mem_cons_self ..)
    obtain ⟨r1, r2, r3⟩ := foldl_le hok t0 h0 h1 hop ks (X := rlx g op c X k) (fun k' h' => hk k' (List.mem_cons_of_mem _ h')) (rlx_is.inv hok hX h0 h1 t0 hop hkm)
    exact ⟨r1, r2.trans (rlx_is.le hok h0 (by rw [hX.len]; exact h1)), fun Y hY hYX => r3 Y hY (rlx_is.ge hY hYX h0 h1 hX.len hop hkm)⟩
  termination_by ks => ks.length
theorem rlxC_le {to c : Int} {X : List Int} (hok : g.ok = true) (t0 : 0 ≤ to) (h0 : 0 ≤ c) (h1 : c < g.C.length) (hX : CInv g op to X) : CInv g op to (rlxC g op c X) ∧ Le (rlxC g op c X) X ∧ ∀ Y, Fix g op Y → Le Y X → Le Y (rlxC g op c X) := by
  unfold rlxC
  split
  · rename_i hop
    exact foldl_le hok t0 h0 h1 hop _ (fun _ h => h) hX
  · exact ⟨hX, Le.refl X, fun _ _ h => h⟩
theorem rndK_le {to : Int} {X : List Int} (hok : g.ok = true) (t0 : 0 ≤ to) (hX : CInv g op to X) : ∀ n : Nat, n ≤ g.C.length → CInv g op to (rndK g op n X) ∧ Le (rndK g op n X) X ∧ ∀ Y, Fix g op Y → Le Y X → Le Y (rndK g op n X)
  | 0, _ => ⟨hX, Le.refl X, fun _ _ h => h⟩
  | n + 1, hn => by
    obtain ⟨a1, a2, a3⟩ := rndK_le hok t0 hX n (by omega)
    obtain ⟨b1, b2, b3⟩ := rlxC_le (c := n) hok t0 (by omega) (by omega) a1
    rw [rndK_succ]
    exact ⟨b1, b2.trans a2, fun Y hY h => b3 Y hY (a3 Y hY h)⟩
theorem rndK_mono {to : Int} {X : List Int} (hok : g.ok = true) (t0 : 0 ≤ to) (hX : CInv g op to X) {m : Nat} : ∀ n : Nat, n ≤ g.C.length → m ≤ n → Le (rndK g op n X) (rndK g op m X)
  | 0, _, h => by
    have : m = 0 := by omega
    subst this
    exact Le.refl _
  | n + 1, hn, h => by
    rcases Nat.lt_or_ge m (n + 1) with hlt | hge
    · rw [rndK_succ]
      exact (rlxC_le (c := n) hok t0 (by omega) (by omega) (rndK_le hok t0 hX n (by omega)).1).2.1.trans (rndK_mono hok t0 hX n (by omega) (by omega))
    · have : m = n + 1 := by omega
      subst this
      exact Le.refl _
/-- in a round, c is looked at beside k -/
theorem rnd_at {to : Int} {X : List Int} (hok : g.ok = true) (t0 : 0 ≤ to) (hX : CInv g op to X) {c k : Int} (h0 : 0 ≤ c) (h1 : c < g.C.length) (hop : op c = true) (hk : k ∈ g.nbr c) :
    ∃ Z, CInv g op to Z ∧ Le Z X ∧ (∀ Y, Fix g op Y → Le Y X → Le Y Z) ∧ Le (rnd g op X) (rlx g op c Z k) := by
  obtain ⟨n, rfl⟩ : ∃ n : Nat, c = n := ⟨c.toNat, by omega⟩
  obtain ⟨us, vs, e⟩ := List.append_of_mem hk
  obtain ⟨a1, a2, a3⟩ := rndK_le hok t0 hX n (by omega)
  obtain ⟨b1, b2, b3⟩ := foldl_le hok t0 h0 h1 hop us (X := rndK g op n X) (fun k h => by rw [e]; exact List.mem_append_left _ h) a1
  refine ⟨us.foldl (rlx g op n) (rndK g op n X), b1, b2.trans a2, fun Y hY h => b3 Y hY (a3 Y hY h), ?_⟩
  have hr : rndK g op (n + 1) X = vs.foldl (rlx g op n) (rlx g op n (us.foldl (rlx g op n) (rndK g op n X)) k) := by
    rw [rndK_succ]
    unfold rlxC
    rw [if_pos hop, e, List.foldl_append, List.foldl_cons]
  obtain ⟨d1, d2, d3⟩ := foldl_le hok t0 h0 h1 hop vs (X := rlx g op n (us.foldl (rlx g op n) (rndK g op n X)) k) (fun k h => by rw [e]; exact List.mem_append_right _ (List.mem_cons_of_mem _ h)) (rlx_is.inv hok b1 h0 h1 t0 hop hk)
  have := rndK_mono hok t0 hX (m := n + 1) g.C.length (Nat.le_refl _) (by omega)
  rw [hr] at this
  exact this.trans d2
/-- as low as each other: equal -/
theorem Le.eq {to : Int} {X Y : List Int} (hX : CInv g op to X) (hY : CInv g op to Y) (h : Le X Y) (h' : Le Y X) (c : Int) : gt X c = gt Y c := by
  have n1 := hX.neg c
  have n2 := hY.neg c
  have a1 := h c
  have a2 := h' c
  rcases Int.lt_or_le (gt X c) 0 with h1 | h1 <;> rcases Int.lt_or_le (gt Y c) 0 with h2 | h2
  · rw [n1 h1, n2 h2]
  · have := a1 h2; omega
  · have := a2 h1; omega
  · have := a1 h2; have := a2 h1; omega
theorem fix_of_rnd {to : Int} {X : List Int} (hok : g.ok = true) (t0 : 0 ≤ to) (hX : CInv g op to X) (h : rnd g op X = X) : Fix g op X := by
  intro c h0 h1 hop k hk hopk hXk
  obtain ⟨Z, z1, z2, _, z4⟩ := rnd_at hok t0 hX h0 h1 hop hk
  rw [h] at z4
  have hr := rlx_is (g := g) (op := op) (c := c) (X := Z) (k := k)
  have hlen : c < Z.length := by rw [z1.len]; exact h1
  have e1 := Le.eq z1 hX z2 (z4.trans (hr.le hok h0 hlen))
  have e2 := Le.eq (rlx_is.inv hok z1 h0 h1 t0 hop hk) hX ((hr.le hok h0 hlen).trans z2) z4
  generalize rlx g op c Z k = W at *
  cases hr with
  | same h =>
    rw [e1 k, e1 c] at h
    rcases h with h | h | h
    · omega
    · rw [hopk] at h; cases h
    · exact h
  | set a b d =>
    have := e2 c
    rw [gt_set' h0 hlen, if_pos rfl, e1 k] at this
    rw [e1 k, e1 c] at d
    rw [e1 k] at a
    have := stp_in hok (a := c) (b := k)
    have := drn_in (g := g) (c := c)
    omega
/-- an unsettled cell beside a settled one -/
theorem unset {to : Int} {X Y : List Int} (hok : g.ok = true) (hX : CInv g op to X) (hY : CInv g op to Y) (hYX : Le Y X) : ∀ (m : Nat) (c : Int), 0 ≤ c → c < g.C.length → (gt Y c).toNat ≤ m → gt X c ≠ gt Y c →
    ∃ c : Int, 0 ≤ c ∧ c < g.C.length ∧ gt X c ≠ gt Y c ∧ 0 ≤ gt Y c ∧ ∃ k ∈ g.nbr c, op k = true ∧ 0 ≤ gt Y k ∧ gt Y k + g.stp c k + g.drn c ≤ gt Y c ∧ gt X k = gt Y k := by
  intro m
  induction m with
  | zero =>
    intro c h0 h1 hm hne
    have hpos : 0 ≤ gt Y c := by
      rcases Int.lt_or_le (gt Y c) 0 with h | h
      · exfalso
        rcases Int.lt_or_le (gt X c) 0 with h2 | h2
        · exact hne (by rw [hX.neg c h2, hY.neg c h])
        · have := hYX c h2; omega
      · exact h
    have hto : c ≠ to := fun e => hne (by rw [e, hX.tov, hY.tov])
    obtain ⟨k, k1, k2, k3, k4⟩ := hY.sup c h0 h1 hto hpos
    have := stp_in hok (a := c) (b := k)
    have := drn_in (g := g) (c := c)
    omega
  | succ m ih =>
    intro c h0 h1 hm hne
    have hpos : 0 ≤ gt Y c := by
      rcases Int.lt_or_le (gt Y c) 0 with h | h
      · exfalso
        rcases Int.lt_or_le (gt X c) 0 with h2 | h2
        · exact hne (by rw [hX.neg c h2, hY.neg c h])
        · have := hYX c h2; omega
      · exact h
    have hto : c ≠ to := fun e => hne (by rw [e, hX.tov, hY.tov])
    obtain ⟨k, k1, k2, k3, k4⟩ := hY.sup c h0 h1 hto hpos
    have := stp_in hok (a := c) (b := k)
    have := drn_in (g := g) (c := c)
    by_cases e : gt X k = gt Y k
    · exact ⟨c, h0, h1, hne, hpos, k, k1, k2, k3, k4, e⟩
    · have hin := nbr_in (Gnd.ok.s hok) h0 h1 k k1
      exact ih k hin.1 hin.2 (by omega) e
theorem countP_le' {p q : Nat → Bool} : ∀ (l : List Nat), (∀ x ∈ l, p x = true → q x = true) → l.countP p ≤ l.countP q
  | [], _ => Nat.le_refl _
  | a :: l, h => by
    have ih := countP_le' l fun x hx => h x (List.mem_cons_of_mem _ hx)
    have ha := h a (List.mem_cons_self ..)
    rw [List.countP_cons, List.countP_cons]
    cases e1 : p a <;> cases e2 : q a <;> simp_all <;> omega
theorem countP_lt' {p q : Nat → Bool} : ∀ (l : List Nat), (∀ x ∈ l, p x = true → q x = true) → (∃ x ∈ l, q x = true ∧ p x = false) → l.countP p < l.countP q
  | [], _, h => by obtain ⟨x, hx, _⟩ := h; cases hx
  | a :: l, h, ⟨x, hx, hq, hp⟩ => by
    have hle := countP_le' l fun x hx => h x (List.mem_cons_of_mem _ hx)
    have ha := h a (List.mem_cons_self ..)
    rw [List.countP_cons, List.countP_cons]
    rcases List.mem_cons.1 hx with rfl | hx
    · rw [hq, hp]; simp; omega
    · have ih := countP_lt' l (fun x hx => h x (List.mem_cons_of_mem _ hx)) ⟨x, hx, hq, hp⟩
      cases e1 : p a <;> cases e2 : q a <;> simp_all <;> omega
def cnt (g : Gnd) (X Y : List Int) : Nat := (List.range g.C.length).countP fun c : Nat => decide (gt X c ≠ gt Y c)
theorem cnt_round {to : Int} {X Y : List Int} (hok : g.ok = true) (t0 : 0 ≤ to) (hX : CInv g op to X) (hY : CInv g op to Y) (hF : Fix g op Y) (hYX : Le Y X) : cnt g (rnd g op X) Y ≤ cnt g X Y - 1 := by
  obtain ⟨r1, r2, r3⟩ : CInv g op to (rnd g op X) ∧ Le (rnd g op X) X ∧ ∀ Y, Fix g op Y → Le Y X → Le Y (rnd g op X) := rndK_le hok t0 hX g.C.length (Nat.le_refl _)
  have hYr := r3 Y hF hYX
  have keep : ∀ c : Int, gt X c = gt Y c → gt (rnd g op X) c = gt Y c := by
    intro c e
    rcases Int.lt_or_le (gt Y c) 0 with h | h
    · rcases Int.lt_or_le (gt (rnd g op X) c) 0 with h2 | h2
      · rw [r1.neg c h2, hY.neg c h]
      · have := hYr c h2; omega
    · have a1 := r2 c (by omega)
      have a2 := hYr c a1.1
      omega
  unfold cnt
  by_cases hall : ∃ c : Nat, c < g.C.length ∧ gt X c ≠ gt Y c
  · obtain ⟨c, hc, hne⟩ := hall
    obtain ⟨c', c0, c1, cne, cpos, k, k1, k2, k3, k4, k5⟩ := unset hok hX hY hYX _ (c : Int) (by omega) (by omega) (Nat.le_refl _) hne
    have hopc := hY.opn c' c0 c1 cpos
    obtain ⟨Z, z1, z2, z3, z4⟩ := rnd_at hok t0 hX c0 c1 hopc k1
    have zk : gt Z k = gt Y k := by
      have a1 := z2 k (by omega)
      have a2 := z3 Y hF hYX k a1.1
      omega
    have hset : gt (rnd g op X) c' = gt Y c' := by
      have hlen : c' < Z.length := by rw [z1.len]; exact c1
      have hr := rlx_is (g := g) (op := op) (c := c') (X := Z) (k := k)
      have hb : 0 ≤ gt (rlx g op c' Z k) c' ∧ gt (rlx g op c' Z k) c' ≤ gt Y c' := by
        generalize rlx g op c' Z k = W at *
        have := stp_in hok (a := c') (b := k)
        have := drn_in (g := g) (c := c')
        cases hr with
        | same h =>
          rcases h with h | h | h
          · omega
          · rw [k2] at h; cases h
          · omega
        | set a b d =>
          rw [gt_set' c0 hlen, if_pos rfl]
          omega
      have a1 := z4 c' hb.1
      have a2 := hYr c' a1.1
      omega
    have := countP_lt' (p := fun c : Nat => decide (gt (rnd g op X) c ≠ gt Y c)) (q := fun c : Nat => decide (gt X c ≠ gt Y c)) (List.range g.C.length) (fun x _ hx => by
      simp only [decide_eq_true_eq] at hx ⊢
      exact fun e => hx (keep x e)) ⟨c'.toNat, by rw [List.mem_range]; omega, by
      have : ((c'.toNat : Nat) : Int) = c' := by omega
      simp only [this, decide_eq_true_eq, decide_eq_false_iff_not, Classical.not_not]
      exact ⟨cne, hset⟩⟩
    omega
  · have : (List.range g.C.length).countP (fun c : Nat => decide (gt (rnd g op X) c ≠ gt Y c)) = 0 := by
      rw [List.countP_eq_zero]
      intro c hc
      simp only [decide_eq_true_eq, Classical.not_not]
      refine keep c (Classical.byContradiction fun hne => hall ⟨c, List.mem_range.1 hc, hne⟩)
    omega
theorem rnds_le {to : Int} {X : List Int} (hok : g.ok = true) (t0 : 0 ≤ to) (hX : CInv g op to X) : ∀ n, CInv g op to (rnds g op n X) ∧ Le (rnds g op n X) X ∧ ∀ Y, Fix g op Y → Le Y X → Le Y (rnds g op n X)
  | 0 => ⟨hX, Le.refl X, fun _ _ h => h⟩
  | n + 1 => by
    obtain ⟨a1, a2, a3⟩ := rnds_le hok t0 hX n
    obtain ⟨b1, b2, b3⟩ := rndK_le hok t0 a1 g.C.length (Nat.le_refl _)
    exact ⟨b1, b2.trans a2, fun Y hY h => b3 Y hY (a3 Y hY h)⟩
/-- all fixed points that are come to are the one that is there behind as many rounds as there are cells -/
theorem rnds_conv {to : Int} {X : List Int} (hok : g.ok = true) (t0 : 0 ≤ to) (hX : CInv g op to X) {r : Nat} (h : rnd g op (rnds g op r X) = rnds g op r X) : rnds g op g.C.length X = rnds g op r X := by
  obtain ⟨y1, y2, _⟩ := rnds_le hok t0 hX r
  have hF := fix_of_rnd hok t0 y1 h
  have hc : ∀ n, cnt g (rnds g op n X) (rnds g op r X) ≤ g.C.length - n := by
    intro n
    induction n with
    | zero =>
      have := List.countP_le_length (p := fun c : Nat => decide (gt (rnds g op 0 X) c ≠ gt (rnds g op r X) c)) (l := List.range g.C.length)
      simpa [cnt] using this
    | succ n ih =>
      obtain ⟨x1, x2, x3⟩ := rnds_le hok t0 hX n
      have := cnt_round hok t0 x1 y1 hF (x3 _ hF y2)
      simp only [rnds]
      omega
  have h0 := hc g.C.length
  have hz : cnt g (rnds g op g.C.length X) (rnds g op r X) = 0 := by omega
  have l1 := (rnds_le hok t0 hX g.C.length).1.len
  unfold cnt at hz
  rw [List.countP_eq_zero] at hz
  refine List.ext_getElem (by rw [l1, y1.len]) fun i h1 h2 => ?_
  have := hz i (List.mem_range.2 (by omega))
  simp only [decide_eq_true_eq, Classical.not_not] at this
  rw [gt_nat h1, gt_nat h2] at this
  exact this
end Go.Proofs.Ytmpkiaghkhhlhaa

/- Contracts of layer 4: the way that the costs give. No conditions but those that each theorem names. -/
namespace Go.Proofs.Ytmpkiaghkhhlhaa
open Go.RowKit
variable {g : Gnd} {op : Int → Bool}

/-! ### How large costs get -/
def fin (g : Gnd) (X : List Int) : Nat := (List.range g.C.length).countP fun c : Nat => decide (0 ≤ gt X c)
def Bd (g : Gnd) (X : List Int) : Prop := ∀ c : Int, gt X c ≤ 104 * (fin g X : Int)
theorem fin_le {X : List Int} : fin g X ≤ g.C.length := by
  have := List.countP_le_length (p := fun c : Nat => decide (0 ≤ gt X c)) (l := List.range g.C.length)
  simpa [fin] using this
theorem Rlx.bd {c k to : Int} {X Y : List Int} (h : Rlx g op c X k Y) (hok : g.ok = true) (hX : CInv g op to X) (h0 : 0 ≤ c) (h1 : c < g.C.length) (hb : Bd g X) : Bd g Y := by
  have hle := h.le hok h0 (by rw [hX.len]; exact h1)
  have hmono : fin g X ≤ fin g Y := countP_le' _ fun x _ hx => by
    simp only [decide_eq_true_eq] at hx ⊢
    exact (hle x hx).1
  cases h with
  | same _ => exact hb
  | set a b d =>
    have s1 := stp_in hok (a := c) (b := k)
    have s2 := drn_in (g := g) (c := c)
    have h1' : c < X.length := by rw [hX.len]; exact h1
    intro i
    have bi := hb i
    have bc := hb c
    have bk := hb k
    rw [gt_set' h0 h1']
    split
    · by_cases hc : gt X c < 0
      · have : fin g X < fin g (X.set c.toNat (gt X k + g.stp c k + g.drn c)) := countP_lt' _ (fun x _ hx => by
            simp only [decide_eq_true_eq] at hx ⊢
            exact (hle x hx).1) ⟨c.toNat, List.mem_range.2 (by omega), by
              have e : ((c.toNat : Nat) : Int) = c := by omega
              simp only [e, decide_eq_true_eq, decide_eq_false_iff_not]
              rw [gt_set' h0 h1', if_pos rfl]
              exact ⟨by omega, by omega⟩⟩
        omega
      · omega
    · omega
/-! ### Rounds end -/
def pot (x : Int) : Nat := if x < 0 then 7000 else x.toNat
def Phi (g : Gnd) (X : List Int) : Nat := ((List.range g.C.length).map fun c : Nat => pot (gt X c)).sum
theorem sum_le' {p q : Nat → Nat} : ∀ (l : List Nat), (∀ x ∈ l, p x ≤ q x) → (l.map p).sum ≤ (l.map q).sum
  | [], _ => Nat.le_refl _
  | a :: l, h => by
    have ih := sum_le' l fun x hx => h x (List.mem_cons_of_mem _ hx)
    have ha := h a (List.mem_cons_self ..)
    simp only [List.map_cons, List.sum_cons]
    omega
theorem sum_lt' {p q : Nat → Nat} : ∀ (l : List Nat), (∀ x ∈ l, p x ≤ q x) → (∃ x ∈ l, p x < q x) → (l.map p).sum < (l.map q).sum
  | [], _, h => by obtain ⟨x, hx, _⟩ := h; cases hx
  | a :: l, h, ⟨x, hx, hlt⟩ => by
    have hle := sum_le' l fun x hx => h x (List.mem_cons_of_mem _ hx)
    have ha := h a (List.mem_cons_self ..)
    simp only [List.map_cons, List.sum_cons]
    rcases List.mem_cons.1 hx with rfl | hx
    · omega
    · have ih := sum_lt' l (fun x hx => h x (List.mem_cons_of_mem _ hx)) ⟨x, hx, hlt⟩
      omega
/-- a step that sets lowers the sum -/
theorem Phi_set {c k to : Int} {X : List Int} (hok : g.ok = true) (hX : CInv g op to X) (h0 : 0 ≤ c) (h1 : c < g.C.length) (hb : Bd g X) (a : 0 ≤ gt X k) (b : op k = true) (d : gt X c < 0 ∨ gt X k + g.stp c k + g.drn c < gt X c) :
    Phi g (X.set c.toNat (gt X k + g.stp c k + g.drn c)) < Phi g X := by
  have h1' : c < X.length := by rw [hX.len]; exact h1
  have hY := (Rlx.set (g := g) (c := c) a b d).bd hok hX h0 h1 hb
  have s1 := stp_in hok (a := c) (b := k)
  have s2 := drn_in (g := g) (c := c)
  have hf := fin_le (g := g) (X := X.set c.toNat (gt X k + g.stp c k + g.drn c))
  have hN := (Gnd.okS_len (Gnd.ok.s hok)).2.1
  have hYc := hY c
  rw [gt_set' h0 h1', if_pos rfl] at hYc
  have key : pot (gt X k + g.stp c k + g.drn c) < pot (gt X c) := by
    unfold pot
    split <;> split <;> omega
  refine sum_lt' _ (fun x _ => ?_) ⟨c.toNat, List.mem_range.2 (by omega), ?_⟩
  · rw [gt_set' h0 h1']
    split
    · rename_i e
      rw [gt_to e]
      omega
    · exact Nat.le_refl _
  · have e : ((c.toNat : Nat) : Int) = c := by omega
    rw [e, gt_set' h0 h1', if_pos rfl]
    exact key
/-! ### The costs at first -/
def ini (g : Gnd) (to : Int) : List Int := (List.replicate g.C.length (-1)).set to.toNat (g.drn to)
theorem ini_inv {to : Int} (t0 : 0 ≤ to) (t1 : to < g.C.length) (hop : op to = true) : CInv g op to (ini g to) ∧ Bd g (ini g to) := by
  have hl : to < (List.replicate g.C.length (-1 : Int)).length := by simpa using t1
  have hd := drn_in (g := g) (c := to)
  have e : ∀ c : Int, gt (ini g to) c = if c.toNat = to.toNat then g.drn to else gt (List.replicate g.C.length (-1)) c := fun c => gt_set' t0 hl
  have e2 : ∀ c : Int, gt (List.replicate g.C.length (-1)) c = if c.toNat < g.C.length then -1 else 0 := by
    intro c
    by_cases h : c.toNat < g.C.length <;> simp [gt, List.getD, h]
  refine ⟨⟨by simp [ini], fun c h => ?_, fun c h0 h1 h => ?_, ?_, fun c h0 h1 hne h => ?_⟩, fun c => ?_⟩
  · rw [e, e2] at h ⊢
    split at h
    · omega
    · rename_i h1
      rw [if_neg h1]
      split at h
      · rename_i h2; rw [if_pos h2]
      · omega
  · rw [e, e2] at h
    split at h
    · rename_i h2
      have : c = to := by omega
      rw [this]; exact hop
    · rw [if_pos (by omega)] at h; omega
  · rw [e, if_pos rfl]
  · rw [e, if_neg (by omega), e2, if_pos (by omega)] at h
    omega
  · have hf : 0 < fin g (ini g to) := by
      unfold fin
      rw [List.countP_pos_iff]
      refine ⟨to.toNat, List.mem_range.2 (by omega), ?_⟩
      have e3 : ((to.toNat : Nat) : Int) = to := by omega
      simp only [e3, decide_eq_true_eq]
      rw [e, if_pos rfl]
      omega
    rw [e, e2]
    split
    · omega
    · split <;> omega

/-! ### The way -/
def wayP (g : Gnd) (op : Int → Bool) (X : List Int) (c k : Int) : Bool := op k && decide (0 ≤ gt X k) && decide (gt X k + g.stp c k + g.drn c = gt X c)
def nxt (g : Gnd) (op : Int → Bool) (X : List Int) (c : Int) : Int := gt (g.nbr c) (fidx (wayP g op X c) (g.nbr c))
def wayF (g : Gnd) (op : Int → Bool) (X : List Int) (to : Int) : Nat → Int → List Int
  | 0, c => [c]
  | n + 1, c => if c = to then [c] else c :: wayF g op X to n (nxt g op X c)
theorem fidx_nat {α : Type} {p : α → Bool} {xs : List α} (h : 0 ≤ fidx p xs) : ∃ i : Nat, fidx p xs = i ∧ ∃ hi : i < xs.length, p xs[i] = true := by
  unfold fidx at h ⊢
  split at h
  · rename_i hlt
    rw [if_pos hlt]
    exact ⟨_, rfl, hlt, List.findIdx_getElem⟩
  · omega
theorem nxt_ok {to : Int} {X : List Int} (hok : g.ok = true) (hX : CInv g op to X) (hF : Fix g op X) {c : Int} (h0 : 0 ≤ c) (h1 : c < g.C.length) (hne : c ≠ to) (hc : 0 ≤ gt X c) :
    0 ≤ fidx (wayP g op X c) (g.nbr c) ∧ fidx (wayP g op X c) (g.nbr c) < (g.nbr c).length ∧ (0 ≤ nxt g op X c ∧ nxt g op X c < g.C.length) ∧ 0 ≤ gt X (nxt g op X c) ∧ gt X (nxt g op X c) < gt X c := by
  obtain ⟨k, k1, k2, k3, k4⟩ := hX.sup c h0 h1 hne hc
  have h5 := hF c h0 h1 (hX.opn c h0 h1 hc) k k1 k2 k3
  have hp : wayP g op X c k = true := by
    unfold wayP
    rw [k2]
    simp only [Bool.true_and, Bool.and_eq_true, decide_eq_true_eq]
    omega
  have hany : (g.nbr c).any (wayP g op X c) = true := List.any_eq_true.2 ⟨k, k1, hp⟩
  rw [← fidx_any, decide_eq_true_eq] at hany
  obtain ⟨i, e, hi, hpi⟩ := fidx_nat hany
  have hin := nbr_in (Gnd.ok.s hok) h0 h1 _ (List.getElem_mem hi)
  have en : nxt g op X c = (g.nbr c)[i] := by unfold nxt; rw [e, gt_nat hi]
  have s1 := stp_in hok (a := c) (b := (g.nbr c)[i])
  have s2 := drn_in (g := g) (c := c)
  unfold wayP at hpi
  simp only [Bool.and_eq_true, decide_eq_true_eq] at hpi
  rw [en, e]
  omega
end Go.Proofs.Ytmpkiaghkhhlhaa

