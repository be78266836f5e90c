/- Evenings with another price or another cycle of a ride; the best of several. -/
import Derived.Test.YtgcefaikdplbkaaGreatRc1
import Derived.Test.YtgcefaikdplbkaaGreatSb1
import Derived.Test.YtgcefaikdplbkaaGreatQ8
namespace Go.Proofs.YtgcefaikdplbkaaGreat
open Go.RowKit

/-- a ride is another one -/
def chB (B : List BthG) (i : Int) (b : BthG) : List BthG := B.set i.toNat b
def atP (B : List BthG) (i p : Int) : List BthG := chB B i { bd B i with price := p }
def atC (B : List BthG) (i c : Int) : List BthG := chB B i { bd B i with cycle := c }
theorem chB_len {B : List BthG} {i : Int} {b : BthG} : (chB B i b).length = B.length := List.length_set ..
section
variable {w : Int} {B : List BthG} {G : List Grp}
theorem Val.ch (hv : Val w B G) {i : Int} {b : BthG} (hb : (1 ≤ b.seats ∧ b.seats ≤ 40) ∧ (0 ≤ b.price ∧ b.price ≤ 100) ∧ (1 ≤ b.cycle ∧ b.cycle ≤ 100) ∧ (0 ≤ b.pause ∧ b.pause ≤ 100)) : Val w (chB B i b) G := by
  refine ⟨hv.w, by rw [chB_len]; exact hv.m, fun x hx => ?_, hv.n, fun g hg => ?_⟩
  · rcases List.mem_or_eq_of_mem_set hx with hx | rfl
    · exact hv.b x hx
    · exact hb
  · rw [chB_len]
    exact hv.g g hg
theorem Val.atP (hv : Val w B G) {i : Int} (i0 : 0 ≤ i) (i1 : i < B.length) {p : Int} (hp : 0 ≤ p ∧ p ≤ 100) : Val w (atP B i p) G := by
  have := hv.bt i0 i1
  exact hv.ch ⟨this.1, hp, this.2.2.1, this.2.2.2⟩
theorem Val.atC (hv : Val w B G) {i : Int} (i0 : 0 ≤ i) (i1 : i < B.length) {c : Int} (hc : 1 ≤ c ∧ c ≤ 100) : Val w (atC B i c) G := by
  have := hv.bt i0 i1
  exact hv.ch ⟨this.1, this.2.1, hc, this.2.2.2⟩
theorem val_chkQ (hv : Val w B G) : chkQ w B G = 0 := by
  have hall : ∀ {n : Nat} {p : Nat → Bool}, (∀ k, k < n → p k = true) → (List.range n).all p = true := fun h => List.all_eq_true.2 fun k hk => h k (List.mem_range.1 hk)
  have h1 : evOK w B = true := by
    unfold evOK
    rw [decide_eq_true hv.m, decide_eq_true hv.w, hall fun k hk => ?_]
    · rfl
    · have := hv.bt (r := k) (by omega) (by omega)
      unfold okB
      rw [decide_eq_true this.1, decide_eq_true this.2.1, decide_eq_true this.2.2.1, decide_eq_true this.2.2.2]
      rfl
  have h2 : ((List.range G.length).all fun k => okG B.length (gd G k)) = true := hall fun k hk => by
    have := hv.gr (g := k) (by omega) (by omega)
    unfold okG
    rw [decide_eq_true this.1, decide_eq_true this.2.1, decide_eq_true this.2.2.1, decide_eq_true this.2.2.2.1, decide_eq_true this.2.2.2.2, hall fun j hj => ?_]
    · rfl
    · have := hv.want (g := k) (k := j) (by omega) (by show (j : Int) < ((gd G k).wants.length : Int); omega)
      unfold okW
      have this : 0 ≤ gt (gd G k).wants j ∧ gt (gd G k).wants j < B.length := this
      exact decide_eq_true (by omega)
  unfold chkQ
  rw [if_neg (by rw [h1]; simp), if_neg (by have := hv.n; omega), if_neg (by rw [h2]; simp)]
end

/-! ### The best -/
/-- with a most is taken, and with nothing less as much -/
structure Best (T : Int → Int) (xs : List Int) (a m : Int) : Prop where
  i : a ∈ xs
  e : T a = m
  b : ∀ p ∈ xs, T p ≤ m ∧ (T p = m → a ≤ p)
theorem Best.uniq {T : Int → Int} {xs : List Int} {a m a' m' : Int} (h : Best T xs a m) (h' : Best T xs a' m') : a = a' ∧ m = m' := by
  obtain ⟨h1, h2⟩ := h.b a' h'.i
  obtain ⟨h3, h4⟩ := h'.b a h.i
  have e1 := h.e
  have e2 := h'.e
  have e : m = m' := by omega
  have := h2 (by omega)
  have := h4 (by omega)
  exact ⟨by omega, e⟩
theorem Best.mem {T : Int → Int} {xs ys : List Int} {a m : Int} (h : Best T xs a m) (hp : ∀ x, x ∈ xs ↔ x ∈ ys) : Best T ys a m := ⟨(hp a).1 h.i, h.e, fun p hp' => h.b p ((hp p).2 hp')⟩
theorem Best.one {T : Int → Int} {p : Int} : Best T [p] p (T p) := ⟨by simp, rfl, fun q hq => by rw [List.mem_singleton] at hq; subst hq; exact ⟨Int.le_refl _, fun _ => Int.le_refl _⟩⟩
theorem Best.take {T : Int → Int} {xs : List Int} {a m p : Int} (h : Best T xs a m) (hp : m < T p ∨ T p = m ∧ p < a) : Best T (xs ++ [p]) p (T p) := by
  refine ⟨by simp, rfl, fun q hq => ?_⟩
  rcases List.mem_append.1 hq with hq | hq
  · have := h.b q hq
    omega
  · rw [List.mem_singleton] at hq
    subst hq
    omega
theorem Best.keep {T : Int → Int} {xs : List Int} {a m p : Int} (h : Best T xs a m) (hp : T p < m ∨ T p = m ∧ a ≤ p) : Best T (xs ++ [p]) a m := by
  refine ⟨List.mem_append_left _ h.i, h.e, fun q hq => ?_⟩
  rcases List.mem_append.1 hq with hq | hq
  · exact h.b q hq
  · rw [List.mem_singleton] at hq
    subst hq
    omega
/-- the cycle with which guests wait least, so far: the cycle, the sum, the guests -/
def cycS (S H : Int → Int) (x : Int × Int × Int) (c : Int) : Int × Int × Int := if 0 < H c ∧ (x.2.2 = 0 ∨ S c * x.2.2 < x.2.1 * H c) then (c, S c, H c) else x
def cycF (S H : Int → Int) (low : Int) : Nat → Int × Int × Int
  | 0 => (0, 0, 0)
  | k + 1 => cycS S H (cycF S H low k) (low + k)
structure CycOK (x : Int × Int × Int) : Prop where
  a : 0 ≤ x.1 ∧ x.1 ≤ 100
  s : 0 ≤ x.2.1 ∧ x.2.1 ≤ 240000000
  g : 0 ≤ x.2.2 ∧ x.2.2 ≤ 24000
  z : x.1 = 0 ↔ x.2.2 = 0
theorem cycF_ok {S H : Int → Int} {low : Int} (h : 1 ≤ low) {n : Nat} (hn : low + n ≤ 101) (hS : ∀ k : Nat, k < n → (0 ≤ S (low + k) ∧ S (low + k) ≤ 240000000) ∧ (0 ≤ H (low + k) ∧ H (low + k) ≤ 24000)) : ∀ k : Nat, k ≤ n → CycOK (cycF S H low k)
  | 0, _ => ⟨by show (0 : Int) ≤ 0 ∧ (0 : Int) ≤ 100; omega, by show (0 : Int) ≤ 0 ∧ (0 : Int) ≤ 240000000; omega, by show (0 : Int) ≤ 0 ∧ (0 : Int) ≤ 24000; omega, Iff.rfl⟩
  | k + 1, hk => by
    have ih := cycF_ok h hn hS k (by omega)
    obtain ⟨h1, h2⟩ := hS k (by omega)
    show CycOK (cycS S H (cycF S H low k) (low + k))
    unfold cycS
    split
    · rename_i e
      refine ⟨?_, h1, h2, ?_⟩
      · show 0 ≤ low + (k : Int) ∧ low + (k : Int) ≤ 100
        omega
      · show low + (k : Int) = 0 ↔ H (low + k) = 0
        omega
    · exact ih

/-! ### Evenings that are played -/
/-- an evening, as it is played, and what is taken together -/
structure PlT (w : Int) (B : List BthG) (G : List Grp) (T : Int) : Prop where
  t : ∃ tk : List Int, T = sumI tk ∧ tk.length = B.length ∧ tk.length ≤ 8 ∧ (∀ r : Int, 0 ≤ r → r < tk.length → 0 ≤ gt tk r ∧ gt tk r ≤ 10000000000) ∧
    (∃ N : Ngt, N.stat B.length G ∧ N.rides.map Bth.takes = tk ∧ ∀ (σ : Hp) (r l : SL) (ws : Nat → SL), EvR σ r B l ws G → FCalls Tryz.prog N_queue_play #[.agg #[r.v, .int .i64 w], l.v] σ (NewN σ B.length G N)) ∧
    (∃ S : Pl, S.takes = tk ∧ ∀ (σ : Hp) (r l : SL) (ws : Nat → SL), EvR σ r B l ws G → FCalls Tryz.prog N_ref07_played #[.agg #[r.v, .int .i64 w], l.v] σ (NewP σ ws S)) ∧
    ∀ (σ : Hp) (r l : SL) (ws : Nat → SL), EvR σ r B l ws G → FCalls Tryz.prog N_queue_Takes #[.agg #[r.v, .int .i64 w], l.v] σ (OfI σ 0 tk)
/-- an evening, as it is played, and how long guests waited -/
structure PlW (w : Int) (B : List BthG) (G : List Grp) (s g : Int) : Prop where
  hs : 0 ≤ s ∧ s ≤ 240000000
  hg : 0 ≤ g ∧ g ≤ 24000
  p : ∃ N : Ngt, N.stat B.length G ∧ WOk G N.visits ∧ wS G N.visits = s ∧ wG G N.visits = g ∧ ∀ (σ : Hp) (r l : SL) (ws : Nat → SL), EvR σ r B l ws G → FCalls Tryz.prog N_queue_play #[.agg #[r.v, .int .i64 w], l.v] σ (NewN σ B.length G N)
  r : ∀ (σ : Hp) (r l : SL) (ws : Nat → SL), EvR σ r B l ws G → FCalls Tryz.prog N_ref07_waits #[.agg #[r.v, .int .i64 w], l.v] σ fun v σ' => v = .tuple #[.int .i64 s, .int .i64 g] ∧ Hp.Sub σ σ'
section
variable {w : Int} {B : List BthG} {G : List Grp}
theorem c_played_run (hv : Val w B G) : ∃ S : Pl, S.takes = (Ngt.played w B G).rides.map Bth.takes ∧ ∀ (σ : Hp) (r l : SL) (ws : Nat → SL), EvR σ r B l ws G → FCalls Tryz.prog N_ref07_played #[.agg #[r.v, .int .i64 w], l.v] σ (NewP σ ws S) :=
  ⟨_, (run_same hv).2.2.1, fun _ _ _ _ he => c_played he hv⟩
theorem c_Takes0 {σ : Hp} {r l : SL} {tk : List Int} (hv : Val w B G) (h : FCalls Tryz.prog N_queue_Takes #[.agg #[r.v, .int .i64 w], l.v] σ (OfI σ (chkQ w B G) tk)) : FCalls Tryz.prog N_queue_Takes #[.agg #[r.v, .int .i64 w], l.v] σ (OfI σ 0 tk) := by
  rw [val_chkQ hv] at h
  exact h
theorem plT_of {N : Ngt} (hv : Val w B G) {V : List Vis} {hd : List Int} (hM : MnD B G V (N.rides.map Bth.takes) hd) (hst : N.stat B.length G) (h1 : ∀ (σ : Hp) (r l : SL) (ws : Nat → SL), EvR σ r B l ws G → FCalls Tryz.prog N_queue_play #[.agg #[r.v, .int .i64 w], l.v] σ (NewN σ B.length G N))
    (h2 : ∃ S : Pl, S.takes = N.rides.map Bth.takes ∧ ∀ (σ : Hp) (r l : SL) (ws : Nat → SL), EvR σ r B l ws G → FCalls Tryz.prog N_ref07_played #[.agg #[r.v, .int .i64 w], l.v] σ (NewP σ ws S))
    (h3 : ∀ (σ : Hp) (r l : SL) (ws : Nat → SL), EvR σ r B l ws G → FCalls Tryz.prog N_queue_Takes #[.agg #[r.v, .int .i64 w], l.v] σ (OfI σ 0 (N.rides.map Bth.takes))) : PlT w B G (sumI (N.rides.map Bth.takes)) :=
  ⟨_, rfl, hM.lt, by rw [hM.lt]; exact hv.m, fun r r0 r1 => hM.t r r0 (by rw [hM.lt] at r1; exact r1), ⟨N, hst, rfl, h1⟩, h2, h3⟩
theorem plT (hv : Val w B G) : PlT w B G (sumI ((Ngt.played w B G).rides.map Bth.takes)) :=
  plT_of hv (played_money hv) (played_stat w B G) (fun _ _ _ _ he => c_play_val he hv) (c_played_run hv) fun _ _ _ _ he => c_Takes0 hv (c_Takes he)
theorem plW_of {N : Ngt} (hwo : WOk G N.visits) (hst : N.stat B.length G) (h1 : ∀ (σ : Hp) (r l : SL) (ws : Nat → SL), EvR σ r B l ws G → FCalls Tryz.prog N_queue_play #[.agg #[r.v, .int .i64 w], l.v] σ (NewN σ B.length G N))
    (h2 : ∀ (σ : Hp) (r l : SL) (ws : Nat → SL), EvR σ r B l ws G → FCalls Tryz.prog N_ref07_waits #[.agg #[r.v, .int .i64 w], l.v] σ fun v σ' => v = .tuple #[.int .i64 (wS G N.visits), .int .i64 (wG G N.visits)] ∧ Hp.Sub σ σ') : PlW w B G (wS G N.visits) (wG G N.visits) := by
  have b1 := hwo.inS N.visits.length
  have b2 := hwo.inG N.visits.length
  rw [List.take_length] at b1 b2
  exact ⟨b1, b2, ⟨N, hst, hwo, rfl, rfl, h1⟩, h2⟩
theorem plW (hv : Val w B G) : PlW w B G (wS G (Ngt.played w B G).visits) (wG G (Ngt.played w B G).visits) :=
  plW_of (WOk.of hv (played_done hv)) (played_stat w B G) (fun _ _ _ _ he => c_play_val he hv) fun _ _ _ _ he => c_refwaits he hv
/-- what all rides take with a price; how long guests wait with a cycle -/
theorem exT (w : Int) (B : List BthG) (G : List Grp) (i : Int) : ∃ T : Int → Int, ∀ p, Val w (atP B i p) G → PlT w (atP B i p) G (T p) := ⟨fun p => sumI ((Ngt.played w (atP B i p) G).rides.map Bth.takes), fun _ hv => plT hv⟩
theorem exW (w : Int) (B : List BthG) (G : List Grp) (i : Int) : ∃ S H : Int → Int, ∀ c, Val w (atC B i c) G → PlW w (atC B i c) G (S c) (H c) := ⟨fun c => wS G (Ngt.played w (atC B i c) G).visits, fun c => wG G (Ngt.played w (atC B i c) G).visits, fun _ hv => plW hv⟩
end

/-! ### Memory -/
section
variable {σ : Hp} {w : Int} {r l : SL} {B : List BthG} {ws : Nat → SL} {G : List Grp}
/-- one number of a ride in a copied list is stored -/
theorem OwnSl.stB {σ' τ : Hp} {s : SL} (h : OwnSl 41 sB σ s.A s.n s.c (B.map bthT) σ') (hs : Hp.Sub σ' τ) {i : Int} (i0 : 0 ≤ i) (i1 : i < B.length) {j : Nat} {v : Value} {b' : BthG} (hr : setR sB (bthT (bd B i)) j v = some (bthT b')) {K : Hp → Prop}
    (hk : ∀ σ2 τ2, OwnSl 41 sB σ s.A s.n s.c ((chB B i b').map bthT) σ2 → Hp.Sub σ2 τ2 → K τ2) : ix s.A s.n i 5 fun b a => st τ b (a + j) v K := by
  have hi : i.toNat < (B.map bthT).length := by rw [List.length_map]; omega
  have hn : s.n = B.length := by rw [h.len]; exact List.length_map ..
  obtain ⟨b, off, hA, hp⟩ := h.put hs hi
  have e : (B.map bthT)[i.toNat]'hi = bthT (bd B i) := by
    have : i.toNat < B.length := by omega
    simp [bd, List.getD, this]
  obtain ⟨w1, σ2, w2, w3⟩ := hp j v (bthT b') (by rw [e]; exact hr)
  refine ix_at hA i0 (by omega) ?_
  have e1 : off + (i.toNat * sB.length + j) = off + i.toNat * 5 + j := by show off + (i.toNat * 5 + j) = _; omega
  rw [e1] at w1 w3
  have e2 : (B.map bthT).set i.toNat (bthT b') = (chB B i b').map bthT := (List.map_set ..).symm
  rw [e2] at w2
  exact ⟨w1, hk _ _ w2 w3⟩
theorem c_CloneB {A : Option Addr} {n c : Nat} {xs : List (TyR sB)} (h : RdS sB σ A n xs) (hl : xs.length ≤ 4294967296) : FCalls Tryz.prog N_slices_Clone_api_Booth #[.slice A n c] σ fun v σ' => ∃ s : SL, v = s.v ∧ OwnSl 41 sB σ s.A s.n s.c xs σ' := by
  refine M_slices_Clone_api_Booth_ok _ _ _ _ _ ?_
  unfold M_slices_Clone_api_Booth
  cases A with
  | none =>
    have e : xs = [] := by
      rcases h.2 with h' | ⟨b, off, c', el, f, rw, h', _⟩
      · exact List.length_eq_zero_iff.1 (h.1.symm.trans h')
      · cases h'
    subst e
    exact bc_t (rt_of ⟨⟨none, 0, 0⟩, rfl, OwnSl.nil ..⟩)
  | some a =>
    refine bc_f ⟨xs, h, roomy_i (by rw [List.length_nil, Nat.zero_add]; exact hl) ?_⟩
    intro A2 l2 c2 σ3 ho
    exact rt_of ⟨⟨A2, l2, c2⟩, rfl, ho⟩
theorem c_CloneI {A : Option Addr} {n c : Nat} {xs : List Int} (h : RdS [.int .i64] σ A n xs) (hl : xs.length ≤ 4294967296) : FCalls Tryz.prog N_slices_Clone_int #[.slice A n c] σ fun v σ' => ∃ s : SL, v = s.v ∧ OwnSl 3 [.int .i64] σ s.A s.n s.c xs σ' := by
  refine M_slices_Clone_int_ok _ _ _ _ _ ?_
  unfold M_slices_Clone_int
  cases A with
  | none =>
    have e : xs = [] := by
      rcases h.2 with h' | ⟨b, off, c', el, f, rw, h', _⟩
      · exact List.length_eq_zero_iff.1 (h.1.symm.trans h')
      · cases h'
    subst e
    exact bc_t (rt_of ⟨⟨none, 0, 0⟩, rfl, OwnSl.nil ..⟩)
  | some a =>
    refine bc_f ⟨xs, h, roomy_i (by rw [List.length_nil, Nat.zero_add]; exact hl) ?_⟩
    intro A2 l2 c2 σ3 ho
    exact rt_of ⟨⟨A2, l2, c2⟩, rfl, ho⟩
theorem c_changedP {b0 : Nat} {i p : Int} {rw : Bool} (he : RdS sB σ r.A r.n (B.map bthT)) (hB : B.length ≤ 4294967296) (i0 : 0 ≤ i) (i1 : i < B.length) (hc : σ b0 = some (.cells #[.int .i64 p] 3 (0, 0), rw)) :
    FCalls Tryz.prog N_queue_changed #[.agg #[r.v, .int .i64 w], .int .i64 i, .func (.func N_queue_Price_2) #[] #[.pointer (some ⟨b0, 0, none⟩)]] σ fun v σ' => ∃ r' : SL, v = .agg #[r'.v, .int .i64 w] ∧ OwnSl 41 sB σ r'.A r'.n r'.c ((atP B i p).map bthT) σ' := by
  refine M_queue_changed_ok _ _ _ _ _ _ _ _ ?_
  unfold M_queue_changed
  refine cl_of M_slices_Clone_api_Booth_enter (c_CloneB he (by rw [List.length_map]; exact hB)) ?_
  rintro v σ2 ⟨s, rfl, ho⟩
  refine ⟨_, _, _, rfl, ?_⟩
  refine @ix_stIw σ2 σ2 _ _ _ _ _ _ (OwnSl.stB (j := 1) (v := .int .i64 p) (b' := { bd B i with price := p }) ho (Hp.Sub.refl _) i0 i1 rfl (K := fun τ => ∃ σ3, OwnSl 41 sB σ s.A s.n s.c ((atP B i p).map bthT) σ3 ∧ Hp.Sub σ3 τ) fun σ3 τ3 h3 s3 => ⟨σ3, h3, s3⟩) fun b a hst => ?_
  obtain ⟨w1, σ3, h3, s3⟩ := hst
  refine FFun.func M_queue_Price_2_enter ?_
  refine M_queue_Price_2_ok _ _ _ _ ?_
  unfold M_queue_Price_2
  exact dr_i (bldI (ho.sub _ _ hc) rfl (dr_i ⟨w1, rt_of (rt_sub s3 ⟨s, rfl, h3⟩)⟩))
theorem c_changedC {b0 : Nat} {i p : Int} {rw : Bool} (he : RdS sB σ r.A r.n (B.map bthT)) (hB : B.length ≤ 4294967296) (i0 : 0 ≤ i) (i1 : i < B.length) (hc : σ b0 = some (.cells #[.int .i64 p] 3 (0, 0), rw)) :
    FCalls Tryz.prog N_queue_changed #[.agg #[r.v, .int .i64 w], .int .i64 i, .func (.func N_queue_Cycle_1) #[] #[.pointer (some ⟨b0, 0, none⟩)]] σ fun v σ' => ∃ r' : SL, v = .agg #[r'.v, .int .i64 w] ∧ OwnSl 41 sB σ r'.A r'.n r'.c ((atC B i p).map bthT) σ' := by
  refine M_queue_changed_ok _ _ _ _ _ _ _ _ ?_
  unfold M_queue_changed
  refine cl_of M_slices_Clone_api_Booth_enter (c_CloneB he (by rw [List.length_map]; exact hB)) ?_
  rintro v σ2 ⟨s, rfl, ho⟩
  refine ⟨_, _, _, rfl, ?_⟩
  refine @ix_stIw σ2 σ2 _ _ _ _ _ _ (OwnSl.stB (j := 2) (v := .int .i64 p) (b' := { bd B i with cycle := p }) ho (Hp.Sub.refl _) i0 i1 rfl (K := fun τ => ∃ σ3, OwnSl 41 sB σ s.A s.n s.c ((atC B i p).map bthT) σ3 ∧ Hp.Sub σ3 τ) fun σ3 τ3 h3 s3 => ⟨σ3, h3, s3⟩) fun b a hst => ?_
  obtain ⟨w1, σ3, h3, s3⟩ := hst
  refine FFun.func M_queue_Cycle_1_enter ?_
  refine M_queue_Cycle_1_ok _ _ _ _ ?_
  unfold M_queue_Cycle_1
  exact dr_i (bldI (ho.sub _ _ hc) rfl (dr_i ⟨w1, rt_of (rt_sub s3 ⟨s, rfl, h3⟩)⟩))
/-- the error of a ride's number -/
def rideC (c : Int) (n : Nat) (i : Int) : Int := if c = 0 then (if 0 ≤ i ∧ i ≤ (n : Int) - 1 then 0 else 1) else c
theorem rideC_ok {c : Int} {n : Nat} {i : Int} (h : rideC c n i = 0) : c = 0 ∧ 0 ≤ i ∧ i < n := by
  unfold rideC at h
  split at h
  · rename_i h1
    split at h
    · omega
    · omega
  · omega
theorem c_checkRide {i : Int} (he : EvR σ r B l ws G) : FCalls Tryz.prog N_queue_checkRide #[.agg #[r.v, .int .i64 w], l.v, .int .i64 i] σ fun v σ' => v = .int .i64 (rideC (chkQ w B G) B.length i) ∧ σ' = σ := by
  refine M_queue_checkRide_ok _ _ _ _ _ _ _ _ _ _ ?_
  unfold M_queue_checkRide
  have hn := he.lenR
  refine clI M_queue_Check_enter (c_Check he) (bc_nd (fun hc => rt_of ⟨?_, rfl⟩) (fun hc => ?_))
  · rw [rideC, if_neg hc]
  · have hm := (chkQ_val hc).m
    refine wk_i (by omega) (l_in (bc_nd (fun h => rt_of ⟨?_, rfl⟩) (fun h => rt_of ⟨?_, rfl⟩)))
    · rw [rideC, if_pos hc, if_neg (by omega)]
    · rw [rideC, if_pos hc, if_pos (by omega)]
end
end Go.Proofs.YtgcefaikdplbkaaGreat
