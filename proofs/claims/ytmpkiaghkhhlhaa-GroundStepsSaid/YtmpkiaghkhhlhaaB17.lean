/- Texts Ga27 Ga28 Gd1 Ga29: what the claims of this seat rest on; each text says what it proves. -/
import Derived.Test.YtmpkiaghkhhlhaaB16

/- Contracts of layer 4: lay and Lay of the program. No conditions but those that each theorem names. -/
namespace Go.Proofs.Ytmpkiaghkhhlhaa
open Go.RowKit

/-- the first layout that begins with some sites; n pitches are left -/
def layS (g : Gnd) (l : List Pit) : Nat → List Sit → Option (List Sit)
  | 0, b => some b
  | n + 1, b => (plc g (pt l b.length) (g.takS l b (-1) b.length) (2 * g.C.length)).findSome? fun s => layS g l n (b ++ [s])
theorem findSome_len {α β : Type} {f : α → Option β} {P : β → Prop} : ∀ {xs : List α} {y : β}, (∀ x ∈ xs, ∀ y, f x = some y → P y) → xs.findSome? f = some y → P y
  | x :: xs, y, h, e => by
    rw [List.findSome?_cons] at e
    split at e
    · rename_i b hb
      cases e
      exact h x (List.mem_cons_self ..) _ hb
    · exact findSome_len (fun x hx => h x (List.mem_cons_of_mem _ hx)) e
theorem layS_len {g : Gnd} {l : List Pit} : ∀ (n : Nat) (b out : List Sit), layS g l n b = some out → out.length = b.length + n
  | 0, b, out, h => by cases h; rfl
  | n + 1, b, out, h => by
    refine findSome_len (P := fun out => out.length = b.length + (n + 1)) (fun s _ y hy => ?_) h
    have := layS_len n _ _ hy
    simp at this
    omega
theorem sit_app {b c : List Sit} {k : Nat} (h : k < b.length) : sit (b ++ c) k = sit b k := by
  rw [sit_nat h, sit_nat (by simp; omega), List.getElem_append_left h]
theorem sit_last {b : List Sit} {s : Sit} : sit (b ++ [s]) b.length = s := by
  rw [sit_nat (by simp)]
  simp
theorem takS_congr {g : Gnd} {l : List Pit} {st st' : List Sit} {but : Int} : ∀ k, (∀ j : Nat, j < k → sit st j = sit st' j) → g.takS l st but k = g.takS l st' but k
  | 0, _ => rfl
  | k + 1, h => by
    unfold Gnd.takS
    rw [takS_congr k fun j hj => h j (by omega), h k (by omega)]
theorem fdK_congr {g : Gnd} {l : List Pit} {st st' : List Sit} : ∀ k, (∀ j : Nat, j < k → sit st j = sit st' j) → fdK g l st k = fdK g l st' k
  | 0, _ => rfl
  | k + 1, h => by
    unfold fdK
    rw [fdK_congr k fun j hj => h j (by omega), h k (by omega)]
theorem siteOK_congr {g : Gnd} {l : List Pit} {st st' : List Sit} {k : Nat} (h : ∀ j : Nat, j ≤ k → sit st j = sit st' j) : g.siteOK l st k = g.siteOK l st' k := by
  unfold Gnd.siteOK
  rw [h k (Nat.le_refl _), takS_congr k fun j hj => h j (by omega)]
/-- the field of the sites that have been given so far -/
def fdB (g : Gnd) (l : List Pit) (b : List Sit) : Fd := fdK g l b b.length
theorem fdB_put {g : Gnd} {l : List Pit} {b : List Sit} {s : Sit} (hs : s ≠ (-1, false)) : (fdB g l b).put b.length s = fdB g l (b ++ [s]) := by
  unfold fdB
  have e : (b ++ [s]).length = b.length + 1 := by simp
  rw [e, fdK, sit_last, if_neg hs, fdK_congr (st := b ++ [s]) (st' := b) b.length fun j hj => sit_app hj]
theorem put_take {F : Fd} (hc : F.con) (hF : F.ok) {p : Nat} {s : Sit} (hp : p < F.l.length) (hcov : F.cov p = []) (hsit : sit F.st p = (-1, false)) (hfit : F.g.fit (pt F.l p) s F.bare = true) : (F.put p s).take p = F := by
  have hst := hF.st
  have htk := hF.tk
  have hin := Gnd.cover_in (s := s) hF.s (hF.pt (i := p) (by omega) (by omega))
  have hbare := all_mem (fit_is hfit)
  have e1 : (F.st.set (p : Int).toNat s).set (p : Int).toNat (-1, false) = F.st := by
    rw [List.set_set, Int.toNat_natCast]
    rw [sit_nat (by omega)] at hsit
    rw [← hsit]
    exact List.set_getElem_self _
  have e2 : (putAll F.tk (F.g.cover (pt F.l p) s).1 p).map (fun q => if q = (p : Int) then -1 else q) = F.tk := by
    refine ext_gt (N := F.g.C.length) (by simp [putAll_len, htk]) htk fun c h0 h1 => ?_
    rw [gt_map h0 (by rw [putAll_len, htk]; exact h1), gt_putAll (fun a ha => (hin a ha).1) h0 (by rw [htk]; exact h1)]
    obtain ⟨hr, hj⟩ := hc c h0 h1
    split
    · rename_i hm
      have hb := hbare c hm
      simp only [Fd.bare, decide_eq_true_eq] at hb
      rw [if_pos rfl]
      omega
    · rw [if_neg]
      intro e
      have := (hj p hp).1 e
      rw [hcov] at this
      cases this
  cases F with
  | mk g l st tk =>
    unfold Fd.take Fd.put
    simp only at e1 e2 ⊢
    rw [e1, e2]
/-- where, with what it lays into memory -/
theorem c_where' {σ : Hp} {f : Option Addr} {p : Int} : FCalls Try.prog N_ground_field_where #[.pointer f, .int .i64 p] σ fun v σ' => ∃ b1 b3, v = .func (.func N_ground_field_where_1) #[] #[.pointer (some ⟨b1, 0, none⟩), .pointer (some ⟨b3, 0, none⟩)] ∧ σ b1 = none ∧ (σ.ins b1 (.cells #[.pointer f] 67)) b3 = none ∧ σ' = (σ.ins b1 (.cells #[.pointer f] 67)).ins b3 (.cells #[.int .i64 p] 3) := by
  refine M_ground_field_where_ok _ _ _ _ ?_
  unfold M_ground_field_where
  intro b1 h1 b3 h3
  exact rt_of ⟨_, _, rfl, h1, h3, rfl⟩
/-- the heap while the sites of a pitch are gone through -/
def LyH (σ0 : Hp) (c1 c3 b17 b19 b21 lb : Nat) (f : Option Addr) (V : FA) (p : Int) (r : Bool) (rec : Obj) (F : Fd) (τ : Hp) : Prop :=
  ∃ σB, Hp.Sub σ0 σB ∧ σB c1 = some (.cells #[.pointer f] 67 (0, 0), true) ∧ σB c3 = some (.cells #[.int .i64 p] 3 (0, 0), true) ∧ σB b17 = some (.cells #[.pointer f] 67 (0, 0), true) ∧ σB b19 = some (.cells #[.int .i64 p] 3 (0, 0), true) ∧
    σB b21 = some (.cells #[.bool r] 4 (0, 0), true) ∧ σB lb = some (rec, true) ∧ FdW σB τ f V F
structure LyN (σ0 : Hp) (c1 c3 b17 b19 b21 lb : Nat) : Prop where
  n21 : σ0 b21 = none
  nl : σ0 lb = none
  d : b21 ≠ lb ∧ (c1 ≠ b21 ∧ c3 ≠ b21 ∧ b17 ≠ b21 ∧ b19 ≠ b21) ∧ c1 ≠ lb ∧ c3 ≠ lb ∧ b17 ≠ lb ∧ b19 ≠ lb
section
variable {σ0 τ : Hp} {c1 c3 b17 b19 b21 lb : Nat} {f : Option Addr} {V : FA} {p : Int} {r : Bool} {rec : Obj} {F F' : Fd}
theorem LyH.base (h : LyH σ0 c1 c3 b17 b19 b21 lb f V p r rec F τ) : Hp.Sub σ0 τ := let ⟨_, h1, _, _, _, _, _, _, h8⟩ := h; h1.trans h8.base
theorem LyH.at (h : LyH σ0 c1 c3 b17 b19 b21 lb f V p r rec F τ) : τ c1 = some (.cells #[.pointer f] 67 (0, 0), true) ∧ τ c3 = some (.cells #[.int .i64 p] 3 (0, 0), true) ∧ τ b17 = some (.cells #[.pointer f] 67 (0, 0), true) ∧ τ b19 = some (.cells #[.int .i64 p] 3 (0, 0), true) ∧ τ b21 = some (.cells #[.bool r] 4 (0, 0), true) ∧ τ lb = some (rec, true) :=
  let ⟨_, _, h2, h3, h4, h5, h6, h7, h8⟩ := h; ⟨h8.base _ _ h2, h8.base _ _ h3, h8.base _ _ h4, h8.base _ _ h5, h8.base _ _ h6, h8.base _ _ h7⟩
theorem LyH.fr (h : LyH σ0 c1 c3 b17 b19 b21 lb f V p r rec F τ) : FdR τ f V F := let ⟨_, _, _, _, _, _, _, _, h8⟩ := h; h8.r
theorem LyH.recs (h : LyH σ0 c1 c3 b17 b19 b21 lb f V p r rec F τ) (hb : FdB σ0 f V F.g F.l) (n : LyN σ0 c1 c3 b17 b19 b21 lb) (rec' : Obj) : LyH σ0 c1 c3 b17 b19 b21 lb f V p r rec' F (τ.ins lb rec') := by
  obtain ⟨σB, h1, h2, h3, h4, h5, h6, h7, _, s1, s2, o1, o2, hs⟩ := h
  obtain ⟨d1, ⟨d2, d3, d4, d5⟩, d6, d7, d8, d9⟩ := n.d
  have hs0 : Hp.Sub σ0 (σB.ins lb rec') := fun k x hk => by
    have : k ≠ lb := fun e => by rw [e, n.nl] at hk; cases hk
    rw [Hp.ins_ne _ this]
    exact h1 _ _ hk
  refine ⟨σB.ins lb rec', hs0, ?_, ?_, ?_, ?_, ?_, Hp.ins_same .., hb.sub hs0, _, _, o1.ins_old h7 _, o2.ins_old (o1.sub _ _ h7) _, hs.ins_both _ _⟩
  · rw [Hp.ins_ne _ d6]; exact h2
  · rw [Hp.ins_ne _ d7]; exact h3
  · rw [Hp.ins_ne _ d8]; exact h4
  · rw [Hp.ins_ne _ d9]; exact h5
  · rw [Hp.ins_ne _ d1]; exact h6
theorem sub_put_both {σ σ' : Hp} (h : Hp.Sub σ σ') {b i : Nat} {x : Obj × Bool} (hb : σ b = some x) (v : Value) : Hp.Sub (σ.put ⟨b, i, none⟩ v) (σ'.put ⟨b, i, none⟩ v) := fun k y hk => by
  by_cases e : k = b
  · subst e
    have hb' := h _ _ hb
    unfold Hp.put at hk ⊢
    simp only [if_true] at hk ⊢
    rw [hb] at hk
    rw [hb']
    exact hk
  · rw [Hp.put_ne (show k ≠ (⟨b, i, none⟩ : Addr).block from e)] at hk ⊢
    exact h _ _ hk
theorem LyH.res (h : LyH σ0 c1 c3 b17 b19 b21 lb f V p r rec F τ) (hb : FdB σ0 f V F.g F.l) (n : LyN σ0 c1 c3 b17 b19 b21 lb) (t : Bool) {K : Hp → Prop} (hk : ∀ τ', LyH σ0 c1 c3 b17 b19 b21 lb f V p t rec F τ' → K τ') : st τ b21 0 (.bool t) K := by
  have hat := h.at.2.2.2.2.1
  obtain ⟨σB, h1, h2, h3, h4, h5, h6, h7, _, s1, s2, o1, o2, hs⟩ := h
  obtain ⟨d1, ⟨d2, d3, d4, d5⟩, d6, d7, d8, d9⟩ := n.d
  have hne : ∀ k, k ≠ b21 → (σB.put ⟨b21, 0, none⟩ (.bool t)) k = σB k := fun k hk => Hp.put_ne (show k ≠ (⟨b21, 0, none⟩ : Addr).block from hk)
  have hs0 : Hp.Sub σ0 (σB.put ⟨b21, 0, none⟩ (.bool t)) := fun k x hk => by
    have : k ≠ b21 := fun e => by rw [e, n.n21] at hk; cases hk
    rw [hne _ this]
    exact h1 _ _ hk
  refine ⟨⟨_, _, hat, by simp, rfl⟩, hk _ ⟨σB.put ⟨b21, 0, none⟩ (.bool t), hs0, ?_, ?_, ?_, ?_, Hp.put_same h6, ?_, hb.sub hs0, _, _, o1.put_old h6 _, o2.put_old (o1.sub _ _ h6) _, sub_put_both hs (o2.sub _ _ (o1.sub _ _ h6)) _⟩⟩
  · rw [hne _ d2]; exact h2
  · rw [hne _ d3]; exact h3
  · rw [hne _ d4]; exact h4
  · rw [hne _ d5]; exact h5
  · rw [hne _ d1.symm]; exact h7
/-- a call that turns the field alone -/
theorem LyH.call {g : FuncId} {args : Array Value} {K : Value → Hp → Prop} (h : LyH σ0 c1 c3 b17 b19 b21 lb f V p r rec F τ) {R : Value → Fd → Prop} (he : enterB Try.prog g = true)
    (hc : ∀ σB, FdW σB τ f V F → FCalls Try.prog g args τ fun v σ' => ∃ F', R v F' ∧ FdW σB σ' f V F') (hk : ∀ v F' τ', R v F' → LyH σ0 c1 c3 b17 b19 b21 lb f V p r rec F' τ' → K v τ') : cl Try.prog (.func (.func g) #[] #[]) args τ K := by
  obtain ⟨σB, h1, h2, h3, h4, h5, h6, h7, h8⟩ := h
  exact cl_of he (hc σB h8) fun v σ' ⟨F', hr, hw⟩ => hk v F' σ' hr ⟨σB, h1, h2, h3, h4, h5, h6, h7, hw⟩
end
theorem plc_stay {g : Gnd} {p : Pit} {full : List Bool} {f : Sit → Option (List Sit)} {o : List Sit} {i : Nat} (h : (plc g p full i).findSome? f = some o) : ∀ m, i ≤ m → (plc g p full m).findSome? f = some o := by
  intro m
  induction m with
  | zero => intro hm; rw [show i = 0 by omega] at h; exact h
  | succ m ih =>
    intro hm
    rcases Nat.lt_or_ge i (m + 1) with hl | hg
    · rw [plc_succ, List.findSome?_append, ih (by omega)]
      rfl
    · rw [show i = m + 1 by omega] at h; exact h
/-- what lay hands back and how it leaves the field -/
def LayR (g : Gnd) (l : List Pit) (n : Nat) (b : List Sit) (v : Value) (F' : Fd) : Prop :=
  (∃ out, layS g l n b = some out ∧ v = .bool true ∧ F' = fdB g l out) ∨ (layS g l n b = none ∧ v = .bool false ∧ F' = fdB g l b)
theorem c_lay {g : Gnd} {l : List Pit} (hch : (chkP g l).2 = 0) : ∀ (n : Nat) (b : List Sit) (σ0 σ : Hp) (f : Option Addr) (V : FA), b.length + n = l.length → (∀ k, k < b.length → g.siteOK l b k = true) → FdW σ0 σ f V (fdB g l b) →
    FCalls Try.prog N_ground_field_lay #[.pointer f, .int .i64 b.length] σ fun v σ' => ∃ F', LayR g l n b v F' ∧ FdW σ0 σ' f V F' := by
  obtain ⟨hok, h8, hpok, _⟩ := chkP_ok hch
  have hG : Good g l := ⟨hok, hpok, h8⟩
  intro n
  induction n with
  | zero =>
    intro b σ0 σ f V hn _ hfw
    refine M_ground_field_lay_ok _ _ _ _ ?_
    unfold M_ground_field_lay
    obtain ⟨eg, el⟩ := fdK_g (g := g) (l := l) (st := b) b.length
    have hln : V.ln = l.length := by have := hfw.r.pn; unfold fdB at this; rw [el] at this; exact this
    exact hfw.r.toFdB.dP (bc_d (fun _ => rt_of ⟨_, .inl ⟨b, rfl, rfl, rfl⟩, hfw⟩) (fun h => absurd (by omega) h))
  | succ n ih =>
    intro b σ0 σ f V hn hsites hfw
    refine M_ground_field_lay_ok _ _ _ _ ?_
    unfold M_ground_field_lay
    obtain ⟨eg, el⟩ := fdK_g (g := g) (l := l) (st := b) b.length
    have hF := fdK_ok (st := b) hch b.length
    have hcon := fdK_con hch b.length (by omega) hsites
    have hsitp : sit (fdK g l b b.length).st b.length = (-1, false) := by
      rw [fdK_sit hch b.length (by omega) b.length (by omega), if_neg (by omega)]
    have hcovp : (fdK g l b b.length).cov b.length = [] := by
      unfold Fd.cov
      rw [hsitp, cover_neg (by decide)]
    have hfit : ∀ s, (fdK g l b b.length).g.fit (pt (fdK g l b b.length).l b.length) s (fdK g l b b.length).bare = g.bes (pt l b.length) s (g.takS l b (-1) b.length) := by
      intro s
      have := fit_bare (s := s) (full := g.takS l b (-1) b.length) hF (i := b.length) (by rw [el]; omega) fun c h0 h1 => fdK_full hch (by omega) hcon h0 (by rw [← eg]; exact h1)
      rw [el, eg] at this
      rw [el, eg]
      exact this
    have hback : ∀ s, g.bes (pt l b.length) s (g.takS l b (-1) b.length) = true → (fdB g l (b ++ [s])).take b.length = fdK g l b b.length := by
      intro s hs
      have h0 := bes_is hs
      rw [← fdB_put (g := g) (l := l) (b := b) (s := s) (fun e => by rw [e] at h0; exact absurd h0 (by decide))]
      exact put_take hcon hF (by rw [el]; omega) hcovp hsitp (by rw [hfit]; exact hs)
    have hfdb : fdB g l b = fdK g l b b.length := rfl
    rw [hfdb] at hfw
    have hln : V.ln = l.length := by have := hfw.r.pn; rw [el] at this; exact this
    obtain ⟨l1, l2, l3⟩ := Gnd.okS_len hG.s
    refine hfw.r.toFdB.dP (bc_d (fun h => by omega) (fun _ => ?_))
    refine cut_intro fun J6 h6 => ?_
    have hplay : layS g l (n + 1) b = (plc g (pt l b.length) (g.takS l b (-1) b.length) (2 * g.C.length)).findSome? fun s => layS g l n (b ++ [s]) := rfl
    have hNC : (fdK g l b b.length).g.C.length = g.C.length := by rw [eg]
    have hLayR : ∀ v F', (∃ out, layS g l (n + 1) b = some out ∧ v = .bool true ∧ F' = fdB g l out) ∨ (layS g l (n + 1) b = none ∧ v = .bool false ∧ F' = fdK g l b b.length) → LayR g l (n + 1) b v F' := fun v F' h => h
    have hnext : ∀ s, g.bes (pt l b.length) s (g.takS l b (-1) b.length) = true → ∀ k, k < (b ++ [s]).length → g.siteOK l (b ++ [s]) k = true := by
      intro s hs k hk
      simp only [List.length_append, List.length_cons, List.length_nil] at hk
      by_cases e : k = b.length
      · subst e
        unfold Gnd.siteOK
        rw [sit_last, takS_congr (st' := b) b.length fun j hj => sit_app hj, hs]
        simp [bes_is hs]
      · rw [siteOK_congr (st' := b) fun j hj => sit_app (by omega)]
        exact hsites k (by omega)
    have hputs : ∀ s, g.bes (pt l b.length) s (g.takS l b (-1) b.length) = true → (fdK g l b b.length).put b.length s = fdB g l (b ++ [s]) := by
      intro s hs
      have h0 := bes_is hs
      exact fdB_put (g := g) (l := l) (b := b) (s := s) (fun e => by rw [e] at h0; exact absurd h0 (by decide))
    have hokB : ∀ s, (fdB g l (b ++ [s])).ok ∧ (fdB g l (b ++ [s])).l = l ∧ (fdB g l (b ++ [s])).g = g := fun s => ⟨fdK_ok hch _, (fdK_g _).2, (fdK_g _).1⟩
    generalize fdK g l b b.length = F at *
    have hbase := hfw.1
    refine cl_of M_ground_field_where_enter c_where' ?_
    rintro v σ15 ⟨c1, c3, rfl, nc1, nc3, rfl⟩
    refine ⟨_, rfl, ?_⟩
    intro b17 n17 b19 n19 b21 n21 lb Rec hlb hcall
    have w1 := hfw.box nc1 (.cells #[.pointer f] 67)
    have w2 := w1.box nc3 (.cells #[.int .i64 b.length] 3)
    have w3 := w2.box n17 (.cells #[.pointer f] 67)
    have w4 := w3.box n19 (.cells #[.int .i64 b.length] 3)
    have w5 := w4.box n21 (.cells #[.bool false] 4)
    have w6 := w5.box hlb (Rec .ready none)
    obtain ⟨p1, p2⟩ := ins_eq_none nc3
    obtain ⟨p3, q3⟩ := ins_eq_none n17
    obtain ⟨p4, q4⟩ := ins_eq_none q3
    obtain ⟨p5, q5⟩ := ins_eq_none n19
    obtain ⟨p6, q6⟩ := ins_eq_none q5
    obtain ⟨p7, q7⟩ := ins_eq_none q6
    obtain ⟨p8, q8⟩ := ins_eq_none n21
    obtain ⟨p9, q9⟩ := ins_eq_none q8
    obtain ⟨p10, q10⟩ := ins_eq_none q9
    obtain ⟨p11, q11⟩ := ins_eq_none q10
    obtain ⟨p12, q12⟩ := ins_eq_none hlb
    obtain ⟨p13, q13⟩ := ins_eq_none q12
    obtain ⟨p14, q14⟩ := ins_eq_none q13
    obtain ⟨p15, q15⟩ := ins_eq_none q14
    obtain ⟨p16, q16⟩ := ins_eq_none q15
    have hN : LyN σ0 c1 c3 b17 b19 b21 lb := ⟨hfw.base.none q11, hfw.base.none q16, p12.symm, ⟨p11.symm, p10.symm, p9.symm, p8.symm⟩, p16.symm, p15.symm, p14.symm, p13.symm⟩
    have hH : LyH σ0 c1 c3 b17 b19 b21 lb f V b.length false (Rec .ready none) F ((((((σ.ins c1 (.cells #[.pointer f] 67)).ins c3 (.cells #[.int .i64 b.length] 3)).ins b17 (.cells #[.pointer f] 67)).ins b19 (.cells #[.int .i64 b.length] 3)).ins b21 (.cells #[.bool false] 4)).ins lb (Rec .ready none)) := by
      refine ⟨_, ?_, ?_, ?_, ?_, ?_, ?_, ?_, w6⟩
      · refine (Hp.Sub.ins _ (hfw.base.none nc1)).trans ((Hp.Sub.ins _ ?_).trans ((Hp.Sub.ins _ ?_).trans ((Hp.Sub.ins _ ?_).trans ((Hp.Sub.ins _ ?_).trans (Hp.Sub.ins _ ?_)))))
        · exact w1.base.none nc3
        · exact w2.base.none n17
        · exact w3.base.none n19
        · exact w4.base.none n21
        · exact w5.base.none hlb
      · rw [Hp.ins_ne _ p16.symm, Hp.ins_ne _ p11.symm, Hp.ins_ne _ p7.symm, Hp.ins_ne _ p4.symm, Hp.ins_ne _ p1.symm, Hp.ins_same]
      · rw [Hp.ins_ne _ p15.symm, Hp.ins_ne _ p10.symm, Hp.ins_ne _ p6.symm, Hp.ins_ne _ p3.symm, Hp.ins_same]
      · rw [Hp.ins_ne _ p14.symm, Hp.ins_ne _ p9.symm, Hp.ins_ne _ p5.symm, Hp.ins_same]
      · rw [Hp.ins_ne _ p13.symm, Hp.ins_ne _ p8.symm, Hp.ins_same]
      · rw [Hp.ins_ne _ p12.symm, Hp.ins_same]
      · exact Hp.ins_same ..
    have hsub1 := Hp.Sub.ins (.cells #[.pointer f] 67) nc1
    have bx1 : ∀ {r rec F' τ}, LyH σ0 c1 c3 b17 b19 b21 lb f V b.length r rec F' τ → Bx1 τ (some ⟨c1, 0, none⟩) (.pointer f) ∧ Bx1 τ (some ⟨c3, 0, none⟩) (.int .i64 b.length) := fun h => ⟨⟨_, rfl, cells_get h.at.1 rfl⟩, ⟨_, rfl, cells_get h.at.2.1 rfl⟩⟩
    refine FEnt.of M_ground_field_where_1_enter (FCalls.mono (c_where_1 (y := .func (.yield lb) #[] #[]) (f := f) (V := V) (F := F) (p := b.length)
      (I := fun i τ => (plc g (pt l b.length) (g.takS l b (-1) b.length) i).findSome? (fun s => layS g l n (b ++ [s])) = none ∧ LyH σ0 c1 c3 b17 b19 b21 lb f V b.length false (Rec .ready none) F τ)
      (Q := fun τ => ∃ out, layS g l (n + 1) b = some out ∧ LyH σ0 c1 c3 b17 b19 b21 lb f V b.length true (Rec .done (some .ret)) (fdB g l out) τ)
      hF (by omega) (by rw [el]; omega) (fun i τ h => ⟨h.2.fr, bx1 h.2⟩) (fun i τ hi h hno => ?_) (fun i τ hi h hyes => ?_) ⟨rfl, hH⟩) ?_)
    · rw [hfit] at hno
      rw [plc_succ, hno]
      simpa using h
    · rw [hfit] at hyes
      obtain ⟨hnone, hH⟩ := h
      refine hcall _ _ _ hH.at.2.2.2.2.2 ⟨(cand i).1, (cand i).2, rfl, fun _ => ⟨hH.at.2.2.2.2.2, ?_⟩⟩
      have hB := hH.recs hbase hN (Rec .busy none)
      generalize τ.ins lb (Rec .busy none) = τ1 at *
      refine ⟨_, cells_get hB.at.2.2.1 rfl, ldI_of (cells_get hB.at.2.2.2.1 rfl) ?_⟩
      refine hB.call (R := fun _ F' => F' = fdB g l (b ++ [cand i])) M_ground_field_put_enter (fun σB hw => (c_put (s := cand i) hw hF (by omega) (by rw [el]; omega)).mono fun v σ' h => ⟨_, hputs _ hyes, h⟩) ?_
      rintro v F' τ2 rfl hB2
      obtain ⟨hok1, hl1, hg1⟩ := hokB (cand i)
      have hbase1 : FdB σ0 f V (fdB g l (b ++ [cand i])).g (fdB g l (b ++ [cand i])).l := by rw [hl1, hg1, ← eg, ← el]; exact hbase
      refine ⟨_, cells_get hB2.at.2.2.1 rfl, ldI_of (cells_get hB2.at.2.2.2.1 rfl) (wk_i (by omega) ?_)⟩
      have hlen1 : ((b.length : Nat) : Int) + 1 = ((b ++ [cand i]).length : Int) := by simp
      rw [hlen1]
      refine hB2.call (R := LayR g l n (b ++ [cand i])) M_ground_field_lay_enter (fun σB hw => ih (b ++ [cand i]) σB τ2 f V (by simp; omega) (hnext _ hyes) hw) ?_
      rintro v F' τ3 (⟨out, hout, rfl, rfl⟩ | ⟨hout, rfl, rfl⟩) hB3
      · refine ⟨true, rfl, bc_t ?_⟩
        have hbo : FdB σ0 f V (fdB g l out).g (fdB g l out).l := by unfold fdB; rw [(fdK_g _).1, (fdK_g _).2, ← eg, ← el]; exact hbase
        refine hB3.res hbo hN true fun τ4 hB4 => ⟨hB4.at.2.2.2.2.2, false, rfl, fun h => (by cases h), fun _ => ⟨out, ?_, hB4.recs hbo hN _⟩⟩
        rw [hplay]
        refine plc_stay (i := i + 1) ?_ _ (by omega)
        rw [plc_succ, List.findSome?_append, hnone, if_pos hyes]
        simp [hout]
      · refine ⟨false, rfl, bc_f ?_⟩
        refine ⟨_, cells_get hB3.at.2.2.1 rfl, ldI_of (cells_get hB3.at.2.2.2.1 rfl) ?_⟩
        refine hB3.call (R := fun _ F' => F' = F) M_ground_field_take_enter (fun σB hw => (c_take hw hok1 (by omega) (by rw [hl1]; omega)).mono fun v σ' h => ⟨_, hback _ hyes, h⟩) ?_
        rintro v F' τ4 rfl hB4
        refine ⟨hB4.at.2.2.2.2.2, true, rfl, fun _ => ⟨?_, hB4.recs hbase hN _⟩, fun h => by cases h⟩
        rw [plc_succ, List.findSome?_append, hnone, if_pos hyes]
        simp [hout]
    · rintro v σ' (⟨hd, hA⟩ | ⟨out, ho, hA⟩)
      · refine ⟨.ready, none, hA.at.2.2.2.2.2, rfl, ?_⟩
        show J6 _ _
        rw [h6]
        intro _
        have hA := hA.recs hbase hN (Rec .exhausted none)
        rw [hNC] at hd
        refine dr_i (hA.res hbase hN false fun τ' hA' => dr_i (ldB_of (cells_get hA'.at.2.2.2.2.1 rfl) (rt_of ⟨F, hLayR _ _ (.inr ⟨by rw [hplay]; exact hd, rfl, rfl⟩), ?_⟩)))
        obtain ⟨σB, hs, _, _, _, _, _, _, hw⟩ := hA'
        exact FdW.rebase hbase hs hw
      · refine ⟨.done, some .ret, hA.at.2.2.2.2.2, rfl, ?_⟩
        have hbo : FdB σ0 f V (fdB g l out).g (fdB g l out).l := by unfold fdB; rw [(fdK_g _).1, (fdK_g _).2, ← eg, ← el]; exact hbase
        have hA := hA.recs hbo hN (Rec .exhausted (some .ret))
        refine ldB_of (cells_get hA.at.2.2.2.2.1 rfl) (rt_of ⟨_, hLayR _ _ (.inl ⟨out, ho, rfl, rfl⟩), ?_⟩)
        obtain ⟨σB, hs, _, _, _, _, _, _, hw⟩ := hA
        exact FdW.rebase hbo hs hw
def layE (g : Gnd) (l : List Pit) : List Sit × Int :=
  if (chkP g l).2 ≠ 0 then ([], (chkP g l).2) else match layS g l l.length [] with
    | some out => (out, 0)
    | none => ([], 3)
theorem c_ground_Lay {σ : Hp} {x : GV} {g : Gnd} {lA : Option Addr} {ln lc : Nat} {l : List Pit} (hg : GRd σ x g) (hl : RdS sP σ lA ln l) :
    FCalls Try.prog N_ground_Lay #[x.v g, .slice lA ln lc] σ (NewS σ (layE g l).1 (layE g l).2) := by
  refine M_ground_Lay_ok _ _ _ _ _ _ _ _ _ _ _ _ _ ?_
  unfold M_ground_Lay
  refine cl_of M_ground_empty_enter (c_empty hg hl) ?_
  rintro v σ2 (⟨hne, rfl, rfl⟩ | ⟨h, f, V, σ0, rfl, hs0, hfw⟩)
  · refine ⟨_, _, _, rfl, bc_nd (fun _ => rt_of ?_) (fun h => absurd h hne)⟩
    rw [layE, if_pos hne]
    exact NewS.nil
  refine ⟨_, _, _, rfl, bc_nd (fun h' => absurd h h') (fun _ => ?_)⟩
  have hs2 : Hp.Sub σ σ2 := hs0.trans hfw.base
  refine cl_of M_ground_field_lay_enter (c_lay h l.length [] σ0 σ2 f V (by simp) (fun k hk => by cases hk) hfw) ?_
  rintro v σ7 ⟨F', (⟨out, hout, rfl, rfl⟩ | ⟨hout, rfl, rfl⟩), hw⟩
  · refine ⟨_, rfl, bc_nt ?_⟩
    have hol := layS_len _ _ _ hout
    refine hw.r.toFdB.dS ?_
    have est : (fdB g l out).st = out := by
      unfold fdB
      have e : out.length = l.length := by simpa using hol
      rw [e]
      exact fdK_st h e
    have ee : layE g l = (out, 0) := by rw [layE, if_neg (by simp [h]), hout]
    rw [ee]
    obtain ⟨_, s1, s2, o1, o2, o3⟩ := hw
    rw [est] at o1
    obtain ⟨s1', q1, q2⟩ := o1.base hs0
    exact rt_sub (q2.trans (o2.sub.trans o3)) ⟨_, _, _, rfl, q1⟩
  · refine ⟨_, rfl, bc_nf (rt_sub (hs0.trans hw.base) ?_)⟩
    have ee : layE g l = ([], 3) := by rw [layE, if_neg (by simp [h]), hout]
    rw [ee]
    exact NewS.nil
end Go.Proofs.Ytmpkiaghkhhlhaa

/- Contracts of layer 4: lay and Lay of the reference. No conditions but those that each theorem names. -/
namespace Go.Proofs.Ytmpkiaghkhhlhaa
open Go.RowKit

/-- sites that are read, and a truth value -/
def RdSB (σ : Hp) (o : Option (List Sit)) : Value → Hp → Prop := fun v σ' => Hp.Sub σ σ' ∧
  ((∃ out A n c, o = some out ∧ v = .tuple #[.slice A n c, .bool true] ∧ RdS sS σ' A n out ∧ n ≤ c) ∨ (o = none ∧ ∃ A n c, v = .tuple #[.slice A n c, .bool false]))
theorem findSome_take {α β : Type} {f : α → Option β} {xs : List α} {k : Nat} (h : k < xs.length) : (xs.take (k + 1)).findSome? f = ((xs.take k).findSome? f).or (f xs[k]) := by
  rw [List.take_succ_eq_append_getElem h, List.findSome?_append]
  simp
theorem findSome_stay {α β : Type} {f : α → Option β} {xs : List α} {k : Nat} {o : β} (h : (xs.take k).findSome? f = some o) : xs.findSome? f = some o := by
  rw [← List.take_append_drop k xs, List.findSome?_append, h]
  rfl
set_option maxRecDepth 4000 in
theorem c_ref04_lay {g : Gnd} {l : List Pit} (hG : Good g l) : ∀ (n : Nat) (b : List Sit) (σ : Hp) (x : GV) (lA bA : Option Addr) (ln lc bn bc' : Nat), b.length + n = l.length → GRd σ x g → RdS sP σ lA ln l → RdS sS σ bA bn b → bn ≤ bc' →
    FCalls Try.prog N_ref04_lay #[x.v g, .slice lA ln lc, .slice bA bn bc'] σ (RdSB σ (layS g l n b)) := by
  have h8 := hG.len
  intro n
  induction n with
  | zero =>
    intro b σ x lA bA ln lc bn bc' hn hg hl hb hle
    refine M_ref04_lay_ok _ _ _ _ _ _ _ _ _ _ _ _ _ _ _ _ ?_
    unfold M_ref04_lay
    have hln := hl.lenP
    have hbn := hb.lenS
    exact bc_d (fun _ => rt_of ⟨Hp.Sub.refl _, .inl ⟨b, _, _, _, rfl, rfl, hb, hle⟩⟩) (fun h => absurd (by omega) h)
  | succ n ih =>
    intro b σ x lA bA ln lc bn bc' hn hg hl hb hle
    refine M_ref04_lay_ok _ _ _ _ _ _ _ _ _ _ _ _ _ _ _ _ ?_
    unfold M_ref04_lay
    have hln := hl.lenP
    have hbn := hb.lenS
    obtain ⟨l1, l2, l3⟩ := Gnd.okS_len hG.s
    refine bc_d (fun h => by omega) (fun _ => ?_)
    have hbl : b.length < l.length := by omega
    have hbi : ((bn : Nat) : Int) = b.length := by omega
    refine pix hl (by omega) (by omega) ?_
    rw [hbi]
    have hp := hG.pt hbl
    refine clLs M_ref04_taken_enter (c_taken (but := -1) hg hG.s hl hb hG.p (by omega) h8) ?_
    intro A13 l13 c13 σ14 o13
    refine cl_of M_ref04_places_enter (c_places (hg.sub o13.sub) hG.ok hp o13.rd (takS_len _)) ?_
    rintro v σ16 ⟨A17, l17, c17, rfl, o17⟩
    refine ⟨_, _, _, rfl, ?_⟩
    have hs16 := o13.sub.trans o17.sub
    have hlay : layS g l (n + 1) b = (plc g (pt l b.length) (g.takS l b (-1) b.length) (2 * g.C.length)).findSome? fun s => layS g l n (b ++ [s]) := rfl
    have hPl := plc_len (g := g) (p := pt l b.length) (full := g.takS l b (-1) b.length) (k := 2 * g.C.length)
    have hrd : RdS sS σ16 A17 l17 (plc g (pt l b.length) (g.takS l b (-1) b.length) (2 * g.C.length)) := o17.rd
    generalize plc g (pt l b.length) (g.takS l b (-1) b.length) (2 * g.C.length) = P at *
    have hl17 := hrd.lenS
    refine cut_intro fun J20 h20 => ?_
    refine ⟨fun w i τ => ∃ k : Nat, w = P.length - k ∧ i = k ∧ k ≤ P.length ∧ Hp.Sub σ16 τ ∧ (P.take k).findSome? (fun s => layS g l n (b ++ [s])) = none, ⟨_, 0, rfl, rfl, by omega, Hp.Sub.refl _, rfl⟩, ?_⟩
    rintro w i τ ⟨k, rfl, rfl, hk, hs, hno⟩ _
    refine bc_d (fun hlt => ?_) (fun hlt => ?_)
    · have hkP : k < P.length := by omega
      have hsτ := hs16.trans hs
      refine cut_intro fun J28 h28 => ?_
      have k28 : ∀ A l' c t σ', Hp.Sub τ σ' → ((t = true ∧ ∃ out, layS g l n (b ++ [P[k]]) = some out ∧ RdS sS σ' A l' out ∧ l' ≤ c) ∨ (t = false ∧ layS g l n (b ++ [P[k]]) = none)) → J28 A l' c t σ' := by
        rintro A l' c t σ' hs' (⟨rfl, out, ho, hr, hc⟩ | ⟨rfl, ho⟩)
        · rw [h28]
          intro _
          refine bc_t (rt_of ⟨hsτ.trans hs', .inl ⟨out, _, _, _, ?_, rfl, hr, hc⟩⟩)
          rw [hlay]
          refine findSome_stay (k := k + 1) ?_
          rw [findSome_take hkP, hno]
          simpa using ho
        · rw [h28]
          intro _
          refine bc_f (wk_i (by omega) (bk_of _ (by omega) ⟨k + 1, rfl, rfl, by omega, hs.trans hs', ?_⟩))
          rw [findSome_take hkP, hno]
          simpa using ho
      have hbτ := hb.sub hsτ
      have fin : ∀ (A : Option Addr) (n' c : Nat) (σ' : Hp) (s1 : Int) (s2 : Bool), (s1, s2) = P[k] → OwnSl 50 sS τ A n' c ((([] : List Sit) ++ b) ++ [(s1, s2)]) σ' → cl Try.prog (.func (.func N_ref04_lay) #[] #[]) #[x.v g, .slice lA ln lc, .slice A n' c] σ' fun v σ'' => ∃ A : Option Addr, ∃ l' c : Nat, ∃ t : Bool, (v = .tuple #[.slice A l' c, .bool t] ∧ J28 A l' c t σ'') := by
        intro A n' c σ' s1 s2 e ho
        rw [e] at ho
        have hle' : n' ≤ c := by
          rcases ho with ⟨_, _, _, h4, _⟩ | ⟨_, _, _, _, _, h, _⟩
          · have h5 : (([] : List Sit) ++ b) ++ [P[k]] = [] := h4
            simp at h5
          · exact h
        refine cl_of M_ref04_lay_enter (ih (b ++ [P[k]]) σ' x lA A ln lc n' c (by simp; omega) (hg.sub (hsτ.trans ho.sub)) (hl.sub (hsτ.trans ho.sub)) ho.rd hle') ?_
        rintro v σ'' ⟨hs'', (⟨out, A2, n2, c2, h1, rfl, h3, h4⟩ | ⟨h1, A2, n2, c2, rfl⟩)⟩
        · exact ⟨_, _, _, _, rfl, k28 _ _ _ _ _ (ho.sub.trans hs'') (.inl ⟨rfl, out, h1, h3, h4⟩)⟩
        · exact ⟨_, _, _, _, rfl, k28 _ _ _ _ _ (ho.sub.trans hs'') (.inr ⟨rfl, h1⟩)⟩
      refine ix_of (ss := sS) (hrd.sub hs) rfl (by omega) (by show (k : Int).toNat < P.length; omega) fun b34 a35 hc => ?_
      have c0 := hc 0 (by decide)
      have c1 := hc 1 (by decide)
      simp only [Int.toNat_natCast] at c0 c1
      repeat' (first
        | refine roomy_i (by show 0 + b.length ≤ 4294967296; omega) ?_
        | refine roomy_i (by show b.length + 1 ≤ 4294967296; omega) ?_
        | refine adp_nil.2 ⟨b, hbτ, ?_⟩
        | refine ldI_of c0 ?_
        | refine ldB_of c1 ?_
        | exact fun A n' c σ' ho => fin A n' c σ' _ _ rfl ho
        | apply And.intro)
    · rw [h20]
      intro _
      have : k = P.length := by omega
      subst this
      rw [List.take_length] at hno
      exact rt_of ⟨hs16.trans hs, .inr ⟨hlay.trans hno, _, _, _, rfl⟩⟩
/-- sites that are read, and an error -/
def RdSE (σ : Hp) (xs : List Sit) (e : Int) : Value → Hp → Prop := fun v σ' => Hp.Sub σ σ' ∧ ∃ A n c, v = .tuple #[.slice A n c, .int .i64 e] ∧ RdS sS σ' A n xs
theorem c_ref04_Lay {σ : Hp} {x : GV} {g : Gnd} {lA : Option Addr} {ln lc : Nat} {l : List Pit} (hg : GRd σ x g) (hl : RdS sP σ lA ln l) :
    FCalls Try.prog N_ref04_Lay #[x.v g, .slice lA ln lc] σ (RdSE σ (layE g l).1 (layE g l).2) := by
  refine M_ref04_Lay_ok _ _ _ _ _ _ _ _ _ _ _ _ _ ?_
  unfold M_ref04_Lay
  refine clII M_ref04_checkPitches_enter (c_checkPitches hg hl) ?_
  refine bc_nd (fun h => rt_of ?_) (fun h => ?_)
  · rw [layE, if_pos h]
    exact ⟨Hp.Sub.refl _, _, _, _, rfl, rfl, .inl rfl⟩
  obtain ⟨hok, h8, hp, h00⟩ := chkP_ok h
  rw [layE, if_neg (by simp [h])]
  refine cl_of M_ref04_lay_enter (c_ref04_lay ⟨hok, hp, h8⟩ l.length [] σ x lA none ln lc 0 0 (by simp) hg hl ⟨rfl, .inl rfl⟩ (Nat.le_refl _)) ?_
  rintro v σ6 ⟨hs, (⟨out, A, n, c, ho, rfl, hr, _⟩ | ⟨ho, A, n, c, rfl⟩)⟩
  · rw [ho]
    exact ⟨_, _, _, _, rfl, bc_nt (rt_of ⟨hs, _, _, _, rfl, hr⟩)⟩
  · rw [ho]
    exact ⟨_, _, _, _, rfl, bc_nf (rt_of ⟨hs, none, 0, 0, rfl, rfl, .inl rfl⟩)⟩
end Go.Proofs.Ytmpkiaghkhhlhaa

/- Plain law of layer 4: the order in which pitches choose, and what each of them takes. No program in sight. -/
namespace Go.Proofs.Ytmpkiaghkhhlhaa
open Go.RowKit

/-- before, by a key, and of the same key by number -/
def slt (kf : Int → Int) (a b : Int) : Prop := kf a < kf b ∨ (kf a = kf b ∧ a < b)
theorem gt_app_l {A B : List Int} {k : Nat} (h : k < A.length) : gt (A ++ B) k = gt A k := by
  rw [gt_nat h, gt_nat (by simp; omega), List.getElem_append_left h]
theorem gt_app_0 {A B : List Int} {x : Int} : gt (A ++ x :: B) A.length = x := by
  rw [gt_nat (by simp)]
  simp
theorem insJ_spec {cf : Int → Int → Int} {kf : Int → Int} {P : Int → Prop} (hcf : ∀ a b, P a → P b → (cf a b < 0 ↔ kf a < kf b)) : ∀ (n : Nat) (A : List Int) (x : Int) (R : List Int), A.length = n → A.Pairwise (slt kf) → (∀ a ∈ A, a < x ∧ P a) → P x →
    ∃ B C, A = B ++ C ∧ insJ cf A.length (A ++ x :: R) = B ++ x :: (C ++ R) ∧ (∀ b ∈ B, kf b ≤ kf x) ∧ ∀ c ∈ C, kf x < kf c := by
  intro n
  induction n with
  | zero =>
    intro A x R hA _ _ _
    have : A = [] := List.eq_nil_of_length_eq_zero hA
    subst this
    exact ⟨[], [], rfl, rfl, fun b hb => (by cases hb), fun c hc => (by cases hc)⟩
  | succ n ih =>
    intro A x R hA hs hP hx
    obtain ⟨A', y, rfl⟩ : ∃ A' y, A = A' ++ [y] := by
      rcases List.eq_nil_or_concat A with rfl | ⟨A', y, h⟩
      · simp at hA
      · exact ⟨A', y, by simpa using h⟩
    have hA' : A'.length = n := by simp at hA; omega
    have hs' := List.pairwise_append.1 hs
    have hy := hP y (by simp)
    have e1 : (A' ++ [y]) ++ x :: R = A' ++ y :: x :: R := by simp
    have e2 : (A' ++ [y]).length = A'.length + 1 := by simp
    have g1 : gt (A' ++ y :: x :: R) A'.length = y := gt_app_0
    have g2 : gt (A' ++ y :: x :: R) ((A'.length + 1 : Nat) : Int) = x := by
      have := gt_app_0 (A := A' ++ [y]) (B := R) (x := x)
      rw [e1, e2] at this
      exact this
    rw [e1, e2, insJ, g1, g2]
    have hc := hcf x y hx hy.2
    split
    · rename_i hlt
      have es : swp2 (A' ++ y :: x :: R) A'.length = A' ++ x :: y :: R := by
        unfold swp2
        rw [g1, g2, List.set_append_right _ _ (by omega), List.set_append_right _ _ (by simp)]
        simp
      rw [es]
      obtain ⟨B, C, rfl, h1, h2, h3⟩ := ih A' x (y :: R) hA' hs'.1 (fun a ha => hP a (List.mem_append_left _ ha)) hx
      refine ⟨B, C ++ [y], by simp, by rw [h1]; simp, h2, fun c hc' => ?_⟩
      rcases List.mem_append.1 hc' with h | h
      · exact h3 c h
      · rw [List.mem_singleton.1 h]; exact hc.1 hlt
    · rename_i hlt
      refine ⟨A' ++ [y], [], by simp, by simp, fun b hb => ?_, fun c hc => (by cases hc)⟩
      have hxy : kf y ≤ kf x := by
        rcases Int.lt_or_le (kf x) (kf y) with h | h
        · exact absurd (hc.2 h) hlt
        · exact h
      rcases List.mem_append.1 hb with h | h
      · have := hs'.2.2 b h y (by simp)
        unfold slt at this
        omega
      · rw [List.mem_singleton.1 h]; exact hxy
def idl (n : Nat) : List Int := (List.range n).map fun i : Nat => (i : Int)
theorem idl_drop {n k : Nat} (h : k < n) : (idl n).drop k = (k : Int) :: (idl n).drop (k + 1) := by
  have hl : k < (idl n).length := by simpa [idl] using h
  rw [List.drop_eq_getElem_cons hl]
  congr 1
  simp [idl]
theorem insA_spec {cf : Int → Int → Int} {kf : Int → Int} {n : Nat} (hcf : ∀ a b : Int, (0 ≤ a ∧ a < n) → (0 ≤ b ∧ b < n) → (cf a b < 0 ↔ kf a < kf b)) : ∀ k, k ≤ n → ∃ S, insA cf k (idl n) = S ++ (idl n).drop k ∧ S.length = k ∧ S.Pairwise (slt kf) ∧ ∀ a, a ∈ S ↔ 0 ≤ a ∧ a < k
  | 0, _ => ⟨[], by simp [insA], rfl, List.Pairwise.nil, fun a => ⟨fun h => (by cases h), fun h => by omega⟩⟩
  | k + 1, hk => by
    obtain ⟨S, h1, h2, h3, h4⟩ := insA_spec hcf k (by omega)
    obtain ⟨B, C, hS, hJ, hB, hC⟩ := insJ_spec (P := fun a => 0 ≤ a ∧ a < n) (fun a b => hcf a b) k S k ((idl n).drop (k + 1)) h2 h3 (fun a ha => by have := (h4 a).1 ha; omega) (by omega)
    refine ⟨B ++ (k : Int) :: C, ?_, ?_, ?_, fun a => ?_⟩
    · rw [insA, h1, idl_drop (by omega)]
      rw [h2] at hJ
      rw [hJ]
      simp
    · have := congrArg List.length hS
      simp at this ⊢
      omega
    · rw [hS] at h3
      obtain ⟨p1, p2, p3⟩ := List.pairwise_append.1 h3
      refine List.pairwise_append.2 ⟨p1, List.pairwise_cons.2 ⟨fun c hc => .inl (hC c hc), p2⟩, fun b hb c hc => ?_⟩
      rcases List.mem_cons.1 hc with rfl | hc
      · have := hB b hb
        have hlt := ((h4 b).1 (by rw [hS]; exact List.mem_append_left _ hb)).2
        unfold slt
        omega
      · exact p3 b hb c hc
    · have e : a ∈ B ++ (k : Int) :: C ↔ a ∈ S ∨ a = k := by
        rw [hS]
        simp only [List.mem_append, List.mem_cons]
        constructor
        · rintro (h | h | h)
          · exact .inl (.inl h)
          · exact .inr h
          · exact .inl (.inr h)
        · rintro ((h | h) | h)
          · exact .inl h
          · exact .inr (.inr h)
          · exact .inr (.inl h)
      rw [e, h4 a]
      omega
/-- the key by years -/
def yk (l : List Pit) (a : Int) : Int := -(pt l a).2.2.2.1
theorem order_spec (l : List Pit) : (order l).Pairwise (slt (yk l)) ∧ (order l).length = l.length ∧ ∀ a, a ∈ order l ↔ 0 ≤ a ∧ a < l.length := by
  have hcf : ∀ a b : Int, (0 ≤ a ∧ a < l.length) → (0 ≤ b ∧ b < l.length) → (yearsC l a b < 0 ↔ yk l a < yk l b) := by
    intro a b _ _
    unfold yearsC yk
    omega
  rcases Nat.eq_zero_or_pos l.length with h0 | h0
  · have : order l = [] := by
      unfold order
      rw [h0]
      rfl
    rw [this]
    refine ⟨List.Pairwise.nil, by simpa using h0.symm, fun a => ?_⟩
    rw [h0]
    exact ⟨fun h => (by cases h), fun h => by omega⟩
  · obtain ⟨S, h1, h2, h3, h4⟩ := insA_spec hcf l.length (Nat.le_refl _)
    have hd : (idl l.length).drop l.length = [] := by simp [idl]
    rw [hd, List.append_nil] at h1
    have : order l = S := by
      unfold order
      rw [show max l.length 1 = l.length by omega]
      exact h1
    rw [this]
    exact ⟨h3, h2, h4⟩
/-- the k-th of the order is before all that are not among the first k -/
theorem order_min {l : List Pit} {k : Nat} (hk : k < (order l).length) : gt (order l) k ∉ (order l).take k ∧ ∀ j : Int, 0 ≤ j → j < l.length → j ∉ (order l).take k → j = gt (order l) k ∨ slt (yk l) (gt (order l) k) j := by
  obtain ⟨hs, hl, hm⟩ := order_spec l
  have he : order l = (order l).take k ++ gt (order l) k :: (order l).drop (k + 1) := by
    rw [gt_nat hk, ← List.drop_eq_getElem_cons hk, List.take_append_drop]
  generalize hA : (order l).take k = A at *
  generalize hB : (order l).drop (k + 1) = B at *
  generalize gt (order l) k = x at *
  rw [he] at hs
  obtain ⟨_, p2, p3⟩ := List.pairwise_append.1 hs
  refine ⟨fun hx => ?_, fun j h0 h1 hj => ?_⟩
  · have := p3 x hx x (List.mem_cons_self ..)
    unfold slt at this
    omega
  · have hjm := (hm j).2 ⟨h0, h1⟩
    rw [he] at hjm
    rcases List.mem_append.1 hjm with h | h
    · exact absurd h hj
    · rcases List.mem_cons.1 h with h | h
      · exact .inl h
      · exact .inr ((List.pairwise_cons.1 p2).1 j h)
/-- what a pitch takes of the sites at which it fits: the first at its wish, else the first -/
def bestS (P : List Sit) (w : Int) : Option Sit := (P.find? fun s => decide (s.1 = w)).or P.head?
def setO (st : List Sit) (p : Nat) : Option Sit → List Sit
  | none => st
  | some s => st.set p s
theorem setO_len {st : List Sit} {p : Nat} {o : Option Sit} : (setO st p o).length = st.length := by cases o <;> simp [setO]
theorem setO_two {st : List Sit} {p : Nat} {o o' : Option Sit} : setO (setO st p o) p o' = setO st p (o'.or o) := by
  cases o <;> cases o' <;> simp [setO]
theorem stA_spec {F : Fd} {p w : Int} {P : Nat → List Sit} (h0 : P 0 = []) (hs : ∀ i, P (i + 1) = P i ++ if F.g.fit (pt F.l p) (cand i) F.bare = true then [cand i] else []) : ∀ i,
    ((stA F p w i).2.2 = true ∧ (P i).find? (fun s => decide (s.1 = w)) = some (stA F p w i).1 ∧ (stA F p w i).2.1 = true) ∨
    ((stA F p w i).2.2 = false ∧ (P i).find? (fun s => decide (s.1 = w)) = none ∧ (((P i).head? = some (stA F p w i).1 ∧ (stA F p w i).2.1 = true) ∨ (P i = [] ∧ (stA F p w i).2.1 = false)))
  | 0 => .inr ⟨rfl, by rw [h0]; rfl, .inr ⟨h0, rfl⟩⟩
  | i + 1 => by
    have ih := stA_spec (w := w) h0 hs i
    rw [hs i, stA]
    rcases ih with ⟨a1, a2, a3⟩ | ⟨a1, a2, a3⟩
    · rw [if_pos a1]
      refine .inl ⟨a1, ?_, a3⟩
      rw [List.find?_append, a2]
      rfl
    · rw [if_neg (by rw [a1]; simp)]
      by_cases hfit : F.g.fit (pt F.l p) (cand i) F.bare = true
      · rw [if_pos hfit, List.find?_append, a2]
        by_cases hw : (cand i).1 = w
        · rw [if_pos ⟨hfit, .inl hw⟩]
          refine .inl ⟨by simp [hw], ?_, rfl⟩
          simp [hw]
        · rcases a3 with ⟨b1, b2⟩ | ⟨b1, b2⟩
          · rw [if_neg (by rw [b2]; simp [hw])]
            refine .inr ⟨a1, by simp [hw], .inl ⟨?_, b2⟩⟩
            rw [List.head?_append, b1]
            rfl
          · rw [if_pos ⟨hfit, .inr b2⟩]
            refine .inr ⟨by simp [hw], by simp [hw], .inl ⟨?_, rfl⟩⟩
            rw [b1]
            rfl
      · rw [if_neg hfit, List.append_nil, if_neg (fun h => hfit h.1)]
        exact .inr ⟨a1, a2, a3⟩
theorem stA_best {F : Fd} {p w : Int} {P : Nat → List Sit} (h0 : P 0 = []) (hs : ∀ i, P (i + 1) = P i ++ if F.g.fit (pt F.l p) (cand i) F.bare = true then [cand i] else []) (i : Nat) : bestS (P i) w = if (stA F p w i).2.1 = true then some (stA F p w i).1 else none := by
  unfold bestS
  rcases stA_spec (w := w) h0 hs i with ⟨_, a2, a3⟩ | ⟨_, a2, ⟨b1, b2⟩ | ⟨b1, b2⟩⟩
  · rw [a2, a3]; rfl
  · rw [a2, b1, b2]; rfl
  · rw [b1, b2]; rfl
/-- the field after some have chosen: what is taken agrees with the sites; who has not chosen is nowhere -/
structure AwI (g : Gnd) (l : List Pit) (S : List Int) (F : Fd) : Prop where
  eg : F.g = g
  el : F.l = l
  ok : F.ok
  con : F.con
  no : ∀ j : Nat, j < l.length → (j : Int) ∉ S → sit F.st j = (-1, false)
theorem aw_fit {g : Gnd} {l : List Pit} {S : List Int} {F : Fd} (h : AwI g l S F) {p : Int} (hp : 0 ≤ p ∧ p < l.length) (s : Sit) : F.g.fit (pt F.l p) s F.bare = g.bes (pt l p) s (g.takS l F.st (-1) l.length) := by
  have := fit_bare (s := s) (full := F.g.takS F.l F.st (-1) F.l.length) h.ok (i := p.toNat) (by rw [h.el]; omega) fun c h0 h1 => h.con.full h.ok h0 h1
  rw [show ((p.toNat : Nat) : Int) = p by omega, h.el, h.eg] at this
  rw [h.el, h.eg]
  exact this
theorem awStep_spec {g : Gnd} {l : List Pit} {S : List Int} {F : Fd} (h : AwI g l S F) {p : Int} (hp : 0 ≤ p ∧ p < l.length) (hpS : p ∉ S) :
    (awStep F p).st = setO F.st p.toNat (bestS (plc g (pt l p) (g.takS l F.st (-1) l.length) (2 * g.C.length)) (pt l p).2.2.2.2) ∧ AwI g l (p :: S) (awStep F p) := by
  have hb := stA_best (F := F) (p := p) (w := (pt F.l p).2.2.2.2) (P := plc g (pt l p) (g.takS l F.st (-1) l.length)) rfl (fun i => by rw [plc_succ, aw_fit h hp]) (2 * F.g.C.length)
  have hbes : ∀ i, (stA F p (pt F.l p).2.2.2.2 i).2.1 = true → F.g.fit (pt F.l p) (stA F p (pt F.l p).2.2.2.2 i).1 F.bare = true := by
    intro i
    induction i with
    | zero => intro h; cases h
    | succ i ih =>
      rw [stA]
      split
      · exact ih
      · split
        · rename_i q; exact fun _ => q.1
        · exact ih
  rw [h.el] at hb hbes
  have hNC : F.g.C.length = g.C.length := by rw [h.eg]
  rw [hNC] at hb
  have hst := h.ok.st
  rw [h.el] at hst
  have hcov : F.cov p.toNat = [] := by
    unfold Fd.cov
    rw [h.no p.toNat (by omega) (by rw [show ((p.toNat : Nat) : Int) = p by omega]; exact hpS), cover_neg (by decide)]
  rw [hb]
  unfold awStep
  rw [hNC, h.el]
  split
  · rename_i q
    refine ⟨rfl, h.eg, h.el, h.ok.put _ _, ?_, fun j hj hjS => ?_⟩
    · have := h.con.put h.ok (i := p.toNat) (s := (stA F p (pt l p).2.2.2.2 (2 * g.C.length)).1) (by rw [h.el]; omega) hcov (by rw [show ((p.toNat : Nat) : Int) = p by omega, h.el]; exact hbes _ q)
      rw [show ((p.toNat : Nat) : Int) = p by omega] at this
      exact this
    · rw [List.mem_cons] at hjS
      have hne : j ≠ p.toNat := fun e => hjS (.inl (by omega))
      show sit (F.st.set p.toNat _) j = _
      rw [sit_set (by omega), if_neg hne]
      exact h.no j hj fun q => hjS (.inr q)
  · exact ⟨rfl, h.eg, h.el, h.ok, h.con, fun j hj hjS => h.no j hj fun q => hjS (List.mem_cons_of_mem _ q)⟩
theorem AwI.congr {g : Gnd} {l : List Pit} {S S' : List Int} {F : Fd} (h : AwI g l S F) (he : ∀ a, a ∈ S ↔ a ∈ S') : AwI g l S' F :=
  ⟨h.eg, h.el, h.ok, h.con, fun j hj hn => h.no j hj fun q => hn ((he _).1 q)⟩
theorem aw_start {g : Gnd} {l : List Pit} (h : (chkP g l).2 = 0) : AwI g l [] (fd0 g l) := ⟨rfl, rfl, fd0_ok h, fd0_con, fun j hj _ => by
  simp only [fd0]
  rw [sit_rep, if_pos hj]⟩
/-- the field after the first k have chosen -/
def awK (g : Gnd) (l : List Pit) (k : Nat) : Fd := ((order l).take k).foldl awStep (fd0 g l)
theorem awK_spec {g : Gnd} {l : List Pit} (h : (chkP g l).2 = 0) : ∀ k, k ≤ l.length → AwI g l ((order l).take k) (awK g l k)
  | 0, _ => aw_start h
  | k + 1, hk => by
    have ih := awK_spec h k (by omega)
    have hl := (order_spec l).2.1
    have hko : k < (order l).length := by omega
    have hm := ((order_spec l).2.2 (gt (order l) k)).1 (gt_mem hko)
    have := (awStep_spec ih hm (order_min hko).1).2
    have e : awK g l (k + 1) = awStep (awK g l k) (gt (order l) k) := by
      unfold awK
      rw [take_fold hko, gt_nat hko]
    rw [e]
    refine this.congr fun a => ?_
    rw [List.take_succ_eq_append_getElem hko, List.mem_append, List.mem_singleton, List.mem_cons, ← gt_nat hko]
    exact Or.comm
theorem awK_succ {g : Gnd} {l : List Pit} (h : (chkP g l).2 = 0) {k : Nat} (hk : k < l.length) : (awK g l (k + 1)).st = setO (awK g l k).st (gt (order l) k).toNat (bestS (plc g (pt l (gt (order l) k)) (g.takS l (awK g l k).st (-1) l.length) (2 * g.C.length)) (pt l (gt (order l) k)).2.2.2.2) := by
  have ih := awK_spec h k (by omega)
  have hko : k < (order l).length := by rw [(order_spec l).2.1]; exact hk
  have hm := ((order_spec l).2.2 (gt (order l) k)).1 (gt_mem hko)
  have := (awStep_spec ih hm (order_min hko).1).1
  rw [← this]
  unfold awK
  rw [take_fold hko, gt_nat hko]
def awE (g : Gnd) (l : List Pit) : List Sit × Int := if (chkP g l).2 ≠ 0 then ([], (chkP g l).2) else ((awK g l l.length).st, 0)
theorem awF_eq {g : Gnd} {l : List Pit} : awF g l = awK g l l.length := by
  unfold awF awK
  rw [List.take_of_length_le (by rw [(order_spec l).2.1]; exact Nat.le_refl _)]
end Go.Proofs.Ytmpkiaghkhhlhaa

/- Contracts of layer 4: Award, both sides. No conditions but those that each theorem names. -/
namespace Go.Proofs.Ytmpkiaghkhhlhaa
open Go.RowKit

theorem lat_S {xs : List Sit} {i : Int} {K : Sit → Prop} (h0 : 0 ≤ i) (h1 : i < xs.length) (hk : K (sit xs i)) : lat xs i.toNat K := ⟨by omega, by rw [← sit_eq (by omega)]; exact hk⟩
theorem ext_sit {X Y : List Sit} {N : Nat} (hX : X.length = N) (hY : Y.length = N) (h : ∀ j : Nat, j < N → sit X j = sit Y j) : X = Y := by
  refine List.ext_getElem (by omega) fun i hi hi' => ?_
  have := h i (by omega)
  rwa [sit_nat hi, sit_nat hi'] at this
theorem c_ground_Award {σ : Hp} {x : GV} {g : Gnd} {lA : Option Addr} {ln lc : Nat} {l : List Pit} (hg : GRd σ x g) (hl : RdS sP σ lA ln l) :
    FCalls Try.prog N_ground_Award #[x.v g, .slice lA ln lc] σ (NewS σ (awE g l).1 (awE g l).2) := by
  by_cases h : (chkP g l).2 = 0
  · have := c_Award (x := x) (lc := lc) hg hl h
    rw [awF_eq] at this
    rw [awE, if_neg (by simp [h])]
    exact this
  · refine M_ground_Award_ok _ _ _ _ _ _ _ _ _ _ _ _ _ ?_
    unfold M_ground_Award
    refine cl_of M_ground_empty_enter (c_empty hg hl) ?_
    rintro v σ2 (⟨hne, rfl, rfl⟩ | ⟨he, _⟩)
    · refine ⟨_, _, _, rfl, bc_nd (fun _ => rt_of ?_) (fun h => absurd h hne)⟩
      rw [awE, if_pos h]
      exact NewS.nil
    · exact absurd he h
theorem years_in {g : Gnd} {l : List Pit} (hG : Good g l) {i : Int} (h0 : 0 ≤ i) (h1 : i < l.length) : 0 ≤ (pt l i).2.2.2.1 ∧ (pt l i).2.2.2.1 ≤ 1000 := by
  have := hG.p i.toNat (by omega)
  rw [← pt_eq] at this
  exact (of_decide_eq_true this).2.2.2.1
theorem drop_head {P : List Sit} {j : Nat} (h : j < P.length) : (P.drop j).head? = some P[j] := by rw [List.drop_eq_getElem_cons h]; rfl
theorem drop_find {P : List Sit} {q : Sit → Bool} {j : Nat} (h : j < P.length) : (P.drop j).find? q = if q P[j] = true then some P[j] else (P.drop (j + 1)).find? q := by
  rw [List.drop_eq_getElem_cons h, List.find?_cons]
  cases q P[j] <;> rfl
set_option maxRecDepth 4000 in
theorem c_ref04_Award {σ : Hp} {x : GV} {g : Gnd} {lA : Option Addr} {ln lc : Nat} {l : List Pit} (hg : GRd σ x g) (hl : RdS sP σ lA ln l) :
    FCalls Try.prog N_ref04_Award #[x.v g, .slice lA ln lc] σ (NewS σ (awE g l).1 (awE g l).2) := by
  refine M_ref04_Award_ok _ _ _ _ _ _ _ _ _ _ _ _ _ ?_
  unfold M_ref04_Award
  have hln := hl.lenP
  refine clII M_ref04_checkPitches_enter (c_checkPitches hg hl) ?_
  refine bc_nd (fun h => rt_of ?_) (fun h => ?_)
  · rw [awE, if_pos h]
    exact NewS.nil
  obtain ⟨hok, h8, hp, h00⟩ := chkP_ok h
  have hG : Good g l := ⟨hok, hp, h8⟩
  obtain ⟨l1, l2, l3⟩ := Gnd.okS_len hG.s
  obtain ⟨os, ol, om⟩ := order_spec l
  rw [awE, if_neg (by simp [h])]
  refine ⟨by omega, by omega, by omega, by omega, by omega, by omega, cut_intro fun J7 h7 => ?_⟩
  have k7 : ∀ X, X = (fd0 g l).st → J7 X σ := by
    rintro X rfl
    rw [h7]
    intro _
    refine cut_intro fun J11 h11 => ?_
    have hrep : (List.replicate (((ln : Nat) : Int) : Int).toNat false : List Bool).length = l.length := by rw [List.length_replicate]; omega
    refine ⟨fun m xs i gs τ => ∃ k : Nat, m = l.length - k ∧ i = k ∧ k ≤ l.length ∧ xs = (awK g l k).st ∧ gs.length = l.length ∧ (∀ j : Int, 0 ≤ j → j < l.length → gb gs j = decide (j ∈ (order l).take k)) ∧ Hp.Sub σ τ, ⟨_, 0, rfl, rfl, by omega, rfl, hrep, fun j h0 h1 => ?_, Hp.Sub.refl _⟩, ?_⟩
    · rw [gb_eq (by rw [hrep]; omega)]
      simp
    rintro m xs i gs τ ⟨k, rfl, rfl, hk, rfl, hgl, hgs, hs⟩ _
    have hA := awK_spec h k hk
    have hAst := hA.ok.st
    rw [hA.el] at hAst
    refine bc_d (fun hlt => ?_) (fun hlt => ?_)
    · have hkl : k < l.length := by omega
      have hko : k < (order l).length := by omega
      obtain ⟨hx1, hx2⟩ := order_min hko
      have hxr := (om (gt (order l) k)).1 (gt_mem hko)
      have hsucc := awK_succ h hkl
      refine cut_intro fun J24 h24 => ?_
      have k24 : ∀ xs gs' τ', xs = (awK g l (k + 1)).st → gs' = gs.set (gt (order l) k).toNat true → Hp.Sub σ τ' → J24 xs gs' τ' := by
        rintro xs gs' τ' rfl rfl hs'
        rw [h24]
        intro _
        refine wk_i (by omega) (bk_of _ (by omega) ⟨k + 1, rfl, rfl, by omega, rfl, by simpa using hgl, fun j h0 h1 => ?_, hs'⟩)
        rw [gb_set hxr.1 h0 (by omega), hgs j h0 h1]
        have e : j ∈ (order l).take (k + 1) ↔ j ∈ (order l).take k ∨ j = gt (order l) k := by
          rw [List.take_succ_eq_append_getElem hko, List.mem_append, List.mem_singleton, ← gt_nat hko]
        by_cases e1 : j = gt (order l) k
        · rw [if_pos e1, decide_eq_true (e.2 (.inr e1))]
        · rw [if_neg e1]
          refine decide_eq_decide.2 ?_
          rw [e]
          simp [e1]
      generalize gt (order l) k = p at *
      refine cut_intro fun J32 h32 => ?_
      have k32 : J32 p τ := by
        rw [h32]
        intro _
        refine ⟨hxr.1, by omega, lat_b hxr.1 (by omega) ?_⟩
        have hpp : g.pOK (pt l p) = true := by rw [pt_eq (by omega)]; exact hp _ _
        refine pix (hl.sub hs) hxr.1 hxr.2 ?_
        intro A42 l42 c42 σ43 o42
        refine clLs M_ref04_taken_enter (c_taken (but := -1) (hg.sub (hs.trans o42.sub)) hG.s (hl.sub (hs.trans o42.sub)) o42.rd hp (by show (awK g l k).st.length ≤ _; omega) h8) ?_
        refine adp_own o42 ?_
        rw [show (List.length (awK g l k).st : Nat) = l.length from hAst]
        intro A51 l51 c51 σ52 o51
        have hs52 := hs.trans o51.sub
        refine cl_of M_ref04_places_enter (c_places (hg.sub hs52) hok hpp o51.rd (takS_len _)) ?_
        rintro v σ54 ⟨A55, l55, c55, rfl, o55⟩
        refine ⟨_, _, _, rfl, ?_⟩
        have hs54 := hs52.trans o55.sub
        have hPl := plc_len (g := g) (p := pt l p) (full := g.takS l (awK g l k).st (-1) l.length) (k := 2 * g.C.length)
        have hrd : RdS sS σ54 A55 l55 (plc g (pt l p) (g.takS l (awK g l k).st (-1) l.length) (2 * g.C.length)) := o55.rd
        generalize plc g (pt l p) (g.takS l (awK g l k).st (-1) l.length) (2 * g.C.length) = P at *
        have hl55 := hrd.lenS
        generalize hX0 : (awK g l k).st = X0 at *
        refine cut_intro fun J58 h58 => ?_
        have hPs : ∀ {j : Nat} (hj : j < P.length), sit P j = P[j] := fun hj => sit_nat hj
        have k58 : J58 (setO X0 p.toNat P.head?) σ54 := by
          rw [h58]
          intro _
          refine wk_i (by omega) ?_
          refine ⟨fun m i xs τ' => ∃ j : Nat, j = m ∧ i = (j : Int) - 1 ∧ j ≤ P.length ∧ xs = setO (setO X0 p.toNat P.head?) p.toNat ((P.drop j).find? fun s => decide (s.1 = (pt l p).2.2.2.2)) ∧ τ' = σ54, ⟨_, P.length, rfl, by omega, Nat.le_refl _, by simp [setO], rfl⟩, ?_⟩
          rintro m i xs τ' ⟨j, rfl, rfl, hj, rfl, rfl⟩ _
          refine bc_d (fun hlt => ?_) (fun hlt => ?_)
          · obtain ⟨j, rfl⟩ : ∃ j', j = j' + 1 := ⟨j - 1, by omega⟩
            have hjP : j < P.length := by omega
            have ej : ((j + 1 : Nat) : Int) - 1 = j := by omega
            rw [ej]
            have hd := drop_find (q := fun s => decide (s.1 = (pt l p).2.2.2.2)) hjP
            refine cut_intro fun J69 h69 => ?_
            have k69 : ∀ ys, ys = setO (setO X0 p.toNat P.head?) p.toNat ((P.drop j).find? fun s => decide (s.1 = (pt l p).2.2.2.2)) → J69 ys τ' := by
              rintro ys rfl
              rw [h69]
              intro _
              exact wk_i (by omega) (bk_of _ (Nat.lt_succ_self j) ⟨j, rfl, rfl, by omega, rfl, rfl⟩)
            rw [hd] at k69
            refine six0 hrd (by omega) (by omega) (pix4 (hl.sub hs54) hxr.1 hxr.2 ?_)
            rw [hPs hjP]
            refine bc_d (fun he => six hrd (by omega) (by omega) ⟨hxr.1, ?_, lat_S hxr.1 ?_ (k69 _ ?_)⟩) (fun he => k69 _ ?_)
            · simp only [setO_len]; omega
            · simp only [setO_len]; omega
            · rw [hPs hjP, if_pos (decide_eq_true he)]
              have : ∀ (Y : List Sit) (o : Option Sit) (s : Sit), (setO Y p.toNat o).set p.toNat s = setO Y p.toNat (some s) := by
                intro Y o s
                cases o <;> simp [setO]
              exact this _ _ _
            · rw [if_neg (by simpa using he)]
          · have hj0 : j = 0 := by omega
            subst hj0
            refine k24 _ _ _ ?_ rfl hs54
            rw [hsucc, setO_two]
            rfl
        refine wk_i (by omega) ?_
        refine ⟨fun m i xs τ' => ∃ j : Nat, j = m ∧ i = (j : Int) - 1 ∧ j ≤ P.length ∧ xs = setO X0 p.toNat (P.drop j).head? ∧ τ' = σ54, ⟨_, P.length, rfl, by omega, Nat.le_refl _, by simp [setO], rfl⟩, ?_⟩
        rintro m i xs τ' ⟨j, rfl, rfl, hj, rfl, rfl⟩ _
        refine bc_d (fun hlt => ?_) (fun hlt => ?_)
        · obtain ⟨j, rfl⟩ : ∃ j', j = j' + 1 := ⟨j - 1, by omega⟩
          have hjP : j < P.length := by omega
          have ej : ((j + 1 : Nat) : Int) - 1 = j := by omega
          rw [ej]
          refine six hrd (by omega) (by omega) ⟨hxr.1, ?_, lat_S hxr.1 ?_ (wk_i (by omega) (bk_of _ (Nat.lt_succ_self j) ⟨j, rfl, rfl, by omega, ?_, rfl⟩))⟩
          · simp only [setO_len]; omega
          · simp only [setO_len]; omega
          · rw [drop_head hjP, hPs hjP]
            have : ∀ (Y : List Sit) (o : Option Sit) (s : Sit), (setO Y p.toNat o).set p.toNat s = setO Y p.toNat (some s) := by
              intro Y o s
              cases o <;> simp [setO]
            exact this _ _ _
        · have hj0 : j = 0 := by omega
          subst hj0
          exact k58
      refine ⟨fun m nx i τ' => ∃ q : Nat, m = l.length - q ∧ i = q ∧ q ≤ l.length ∧ τ' = τ ∧ ((nx = -1 ∧ ∀ j : Int, 0 ≤ j → j < q → j ∈ (order l).take k) ∨ ((0 ≤ nx ∧ nx < q) ∧ nx ∉ (order l).take k ∧ ∀ j : Int, 0 ≤ j → j < q → j ∉ (order l).take k → j = nx ∨ slt (yk l) nx j)), ⟨_, 0, rfl, rfl, by omega, rfl, .inl ⟨rfl, fun j h0 h1 => by omega⟩⟩, ?_⟩
      rintro m nx i τ' ⟨q, rfl, rfl, hq, rfl, hnx⟩ _
      refine bc_d (fun hlt => ?_) (fun hlt => ?_)
      · have hql : q < l.length := by omega
        refine cut_intro fun J108 h108 => ?_
        have k108 : ∀ nx : Int, ((nx = -1 ∧ ∀ j : Int, 0 ≤ j → j < (q + 1 : Nat) → j ∈ (order l).take k) ∨ ((0 ≤ nx ∧ nx < (q + 1 : Nat)) ∧ nx ∉ (order l).take k ∧ ∀ j : Int, 0 ≤ j → j < (q + 1 : Nat) → j ∉ (order l).take k → j = nx ∨ slt (yk l) nx j)) → J108 nx τ' := by
          intro nx hn
          rw [h108]
          intro _
          exact wk_i (by omega) (bk_of _ (by omega) ⟨q + 1, rfl, rfl, by omega, rfl, hn⟩)
        refine cut_intro fun J115 h115 => ?_
        have hgq := hgs q (by omega) (by omega)
        have kt : (q : Int) ∉ (order l).take k → (nx < 0 ∨ yk l q < yk l nx) → J115 true τ' := by
          intro hnq hy
          rw [h115]
          intro _
          refine bc_t (k108 _ (.inr ⟨⟨by omega, by omega⟩, hnq, fun j h0 h1 hj => ?_⟩))
          by_cases e : j = q
          · exact .inl e
          · refine .inr ?_
            rcases hnx with ⟨_, hn⟩ | ⟨_, _, hn⟩
            · exact absurd (hn j h0 (by omega)) hj
            · rcases hn j h0 (by omega) hj with rfl | hs
              · unfold slt
                omega
              · unfold slt at hs ⊢
                omega
        have kf : ((q : Int) ∈ (order l).take k ∨ (0 ≤ nx ∧ ¬ yk l q < yk l nx)) → J115 false τ' := by
          intro hy
          rw [h115]
          intro _
          refine bc_f (k108 _ ?_)
          rcases hnx with ⟨rfl, hn⟩ | ⟨h1, h2, hn⟩
          · rcases hy with hy | ⟨hy, _⟩
            · refine .inl ⟨rfl, fun j h0 h1 => ?_⟩
              by_cases e : j = q
              · rw [e]; exact hy
              · exact hn j h0 (by omega)
            · omega
          · refine .inr ⟨⟨h1.1, by omega⟩, h2, fun j h0 h1' hj => ?_⟩
            by_cases e : j = q
            · subst e
              rcases hy with hy | ⟨_, hy⟩
              · exact absurd hy hj
              · refine .inr ?_
                unfold slt
                omega
            · exact hn j h0 (by omega) hj
        have hyq := years_in hG (i := (q : Int)) (by omega) (by omega)
        refine ⟨by omega, by omega, lat_b (by omega) (by omega) ?_⟩
        rw [hgq]
        refine bc_nd (fun hnq => bc_d (fun hneg => kt hnq (.inl hneg)) (fun hpos => ?_)) (fun hin => kf (.inl hin))
        have hnr : 0 ≤ nx ∧ nx < l.length := by
          rcases hnx with ⟨rfl, _⟩ | ⟨h1, _⟩ <;> omega
        refine pix3 (hl.sub hs) (by omega) (by omega) (pix3 (hl.sub hs) hnr.1 hnr.2 ?_)
        by_cases hy : (pt l nx).2.2.2.1 < (pt l q).2.2.2.1
        · rw [decide_eq_true hy]
          exact kt hnq (.inr (by unfold yk; omega))
        · rw [decide_eq_false hy]
          exact kf (.inr ⟨by omega, by unfold yk; omega⟩)
      · have hqq : q = l.length := by omega
        subst hqq
        have : nx = p := by
          rcases hnx with ⟨_, hn⟩ | ⟨h1, h2, hn⟩
          · exact absurd (hn p hxr.1 hxr.2) hx1
          · rcases hn p hxr.1 hxr.2 hx1 with e | hs1
            · exact e.symm
            · rcases hx2 nx h1.1 h1.2 h2 with e | hs2
              · exact e
              · unfold slt at hs1 hs2
                omega
        rw [this]
        exact k32
    · rw [h11]
      intro _
      have : k = l.length := by omega
      subst this
      exact fun A n c σ' ho => NewS.base hs ho fun _ _ h => h
  have hrl : (List.replicate (((ln : Nat) : Int) : Int).toNat (0, false) : List Sit).length = l.length := by rw [List.length_replicate]; omega
  refine ⟨fun m i xs τ => ∃ k : Nat, m = l.length - k ∧ i = k ∧ k ≤ l.length ∧ xs.length = l.length ∧ τ = σ ∧ ∀ j : Nat, j < l.length → sit xs j = if j < k then (-1, false) else (0, false), ⟨_, 0, rfl, rfl, by omega, hrl, rfl, fun j hj => ?_⟩, ?_⟩
  · rw [if_neg (by omega), sit_nat (by rw [hrl]; exact hj)]
    simp
  rintro m i xs τ ⟨k, rfl, rfl, hk, hxl, rfl, hx⟩ _
  refine bc_d (fun hlt => ?_) (fun hlt => ?_)
  · have hkl : k < l.length := by omega
    refine ⟨by omega, by omega, lat_S (by omega) (by omega) ?_⟩
    have e := hx k hkl
    rw [if_neg (by omega)] at e
    rw [e]
    refine wk_i (by omega) (bk_of _ (by omega) ⟨k + 1, rfl, rfl, by omega, by simpa using hxl, rfl, fun j hj => ?_⟩)
    rw [Int.toNat_natCast, sit_set (by omega), hx j hj]
    by_cases e1 : j = k
    · rw [if_pos e1, if_pos (by omega)]
    · rw [if_neg e1]
      by_cases e2 : j < k
      · rw [if_pos e2, if_pos (by omega)]
      · rw [if_neg e2, if_neg (by omega)]
  · have : k = l.length := by omega
    subst this
    refine k7 _ (ext_sit hxl (by simp [fd0]) fun j hj => ?_)
    rw [hx j hj, if_pos hj]
    simp only [fd0]
    rw [sit_rep, if_pos hj]
end Go.Proofs.Ytmpkiaghkhhlhaa

