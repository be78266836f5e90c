/- Texts Ga25 Ga26: what the claims of this seat rest on; each text says what it proves. -/
import Derived.Test.YtmpkiaghkhhlhaaB15

/- Contracts of layer 4: Safe, both sides. No conditions but those that each theorem names. -/
namespace Go.Proofs.Ytmpkiaghkhhlhaa
open Go.RowKit

/-- the least cell c that is trapped by one of the first K, and the least b that traps it -/
def SafeP (tr : Int → Int → Bool) (N K : Nat) (c b : Int) : Prop :=
  (c = -1 ∧ b = -1 ∧ ∀ b' : Int, 0 ≤ b' → b' < K → ∀ c' : Int, 0 ≤ c' → c' < N → tr b' c' = false) ∨
  ((0 ≤ c ∧ c < N) ∧ (0 ≤ b ∧ b < K) ∧ tr b c = true ∧ (∀ b' : Int, 0 ≤ b' → b' < K → ∀ c' : Int, 0 ≤ c' → c' < c → tr b' c' = false) ∧ ∀ b' : Int, 0 ≤ b' → b' < b → tr b' c = false)
theorem SafeP.uniq {tr : Int → Int → Bool} {N : Nat} {c b c' b' : Int} (h : SafeP tr N N c b) (h' : SafeP tr N N c' b') : c = c' ∧ b = b' := by
  rcases h with ⟨rfl, rfl, h1⟩ | ⟨hc, hb, ht, h1, h2⟩ <;> rcases h' with ⟨rfl, rfl, h1'⟩ | ⟨hc', hb', ht', h1', h2'⟩
  · exact ⟨rfl, rfl⟩
  · rw [h1 b' hb'.1 hb'.2 c' hc'.1 hc'.2] at ht'
    cases ht'
  · rw [h1' b hb.1 hb.2 c hc.1 hc.2] at ht
    cases ht
  · have e : c = c' := by
      rcases Int.lt_trichotomy c c' with hl | e | hl
      · rw [h1' b hb.1 hb.2 c hc.1 hl] at ht; cases ht
      · exact e
      · rw [h1 b' hb'.1 hb'.2 c' hc'.1 hl] at ht'; cases ht'
    subst e
    refine ⟨rfl, ?_⟩
    rcases Int.lt_trichotomy b b' with hl | e | hl
    · rw [h2' b hb.1 hl] at ht; cases ht
    · exact e
    · rw [h2 b' hb'.1 hl] at ht'; cases ht'
theorem SafeP.congr {tr tr' : Int → Int → Bool} {N K : Nat} {c b : Int} (hK : K ≤ N) (h : SafeP tr N K c b) (he : ∀ b c : Int, 0 ≤ b → b < N → 0 ≤ c → c < N → tr b c = tr' b c) : SafeP tr' N K c b := by
  rcases h with ⟨rfl, rfl, h1⟩ | ⟨hc, hb, ht, h1, h2⟩
  · exact .inl ⟨rfl, rfl, fun b' b0 b1 c' c0 c1 => by rw [← he b' c' b0 (by omega) c0 c1]; exact h1 b' b0 b1 c' c0 c1⟩
  · exact .inr ⟨hc, hb, by rw [← he b c hb.1 (by omega) hc.1 hc.2]; exact ht, fun b' b0 b1 c' c0 c1 => by rw [← he b' c' b0 (by omega) c0 (by omega)]; exact h1 b' b0 b1 c' c0 c1, fun b' b0 b1 => by rw [← he b' c b0 (by omega) hc.1 hc.2]; exact h2 b' b0 b1⟩
theorem nums_sorted {p : Int → Bool} {k : Nat} : (nums p k).Pairwise (· < ·) := by
  refine List.Pairwise.filter _ ?_
  rw [List.pairwise_map]
  exact List.pairwise_lt_range.imp fun h => by omega
theorem nums_head {p : Int → Bool} {k : Nat} {h : Int} {t : List Int} (e : nums p k = h :: t) : ((0 ≤ h ∧ h < k) ∧ p h = true) ∧ ∀ c : Int, 0 ≤ c → c < h → p c = false := by
  have hm := (mem_nums (p := p) (k := k) (a := h)).1 (by rw [e]; exact List.mem_cons_self ..)
  refine ⟨hm, fun c h0 h1 => ?_⟩
  cases hp : p c with
  | false => rfl
  | true =>
    have hc : c ∈ nums p k := mem_nums.2 ⟨⟨h0, by omega⟩, hp⟩
    have hs := nums_sorted (p := p) (k := k)
    rw [e] at hc hs
    rcases List.mem_cons.1 hc with rfl | hc
    · omega
    · have := (List.pairwise_cons.1 hs).1 c hc
      omega
theorem nums_nil {p : Int → Bool} {k : Nat} (e : nums p k = []) {c : Int} (h0 : 0 ≤ c) (h1 : c < k) : p c = false := by
  cases hp : p c with
  | false => rfl
  | true =>
    have : c ∈ nums p k := mem_nums.2 ⟨⟨h0, h1⟩, hp⟩
    rw [e] at this
    cases this
/-- what Safe hands back -/
def SafR (g : Gnd) (l : List Pit) (st : List Sit) : Value → Prop := fun v =>
  ((chkS g l st).2 ≠ 0 ∧ v = .tuple #[.int .i64 0, .int .i64 0, .bool false, .int .i64 (chkS g l st).2]) ∨
  ((chkS g l st).2 = 0 ∧ ∃ c b, SafeP (trp g (gb (g.opn l st))) g.C.length g.C.length c b ∧ v = .tuple #[.int .i64 c, .int .i64 b, .bool (decide (c < 0)), .int .i64 0])
section
variable {σ : Hp} {x : GV} {g : Gnd} {lA sA : Option Addr} {ln lc sn sc : Nat} {l : List Pit} {st : List Sit}
set_option maxRecDepth 4000 in
theorem c_ref04_Safe (hg : GRd σ x g) (hl : RdS sP σ lA ln l) (hst : RdS sS σ sA sn st) (hsc : sn ≤ sc) :
    FCalls Try.prog N_ref04_Safe #[x.v g, .slice lA ln lc, .slice sA sn sc] σ fun v σ' => SafR g l st v ∧ σ' = σ := by
  refine M_ref04_Safe_ok _ _ _ _ _ _ _ _ _ _ _ _ _ _ _ _ ?_
  unfold M_ref04_Safe
  refine clII M_ref04_Check_enter (c_ref04_Check hg hl hst hsc) ?_
  refine bc_nd (fun h => rt_of ⟨.inl ⟨h, rfl⟩, rfl⟩) (fun h => ?_)
  obtain ⟨hch, hG, hsl, _, _⟩ := chkS_ok h
  have hok := Gnd.okS_len hG.s
  refine clL M_ref04_Open_enter (c_Open hg hG hl hst (by omega)) ?_
  have hol := opn_len (g := g) (l := l) (st := st)
  have fin : ∀ v, (∃ c b, SafeP (trp g (gb (g.opn l st))) g.C.length g.C.length c b ∧ v = .tuple #[.int .i64 c, .int .i64 b, .bool (decide (c < 0)), .int .i64 0]) → SafR g l st v := fun v hv => .inr ⟨h, hv⟩
  generalize g.opn l st = o at *
  refine cut_intro fun J12 h12 => ?_
  refine ⟨fun m i xs τ => ∃ k : Nat, m = g.C.length - k ∧ i = k ∧ k ≤ g.C.length ∧ xs = o ∧ Hp.Sub σ τ ∧ ∀ b : Int, 0 ≤ b → b < g.C.length → ∀ c : Int, 0 ≤ c → c < k → trp g (gb o) b c = false, ⟨_, 0, rfl, rfl, by omega, rfl, Hp.Sub.refl _, fun b _ _ c h0 h1 => by omega⟩, ?_⟩
  rintro m i xs τ ⟨k, rfl, rfl, hk, rfl, hs, hno⟩ _
  refine bc_d (fun hlt => ?_) (fun hlt => ?_)
  · have hkN : (k : Int) < g.C.length := by omega
    refine cut_intro fun J21 h21 => ?_
    refine ⟨fun m ys i τ' => ∃ j : Nat, m = g.C.length - j ∧ i = j ∧ j ≤ g.C.length ∧ ys = xs ∧ Hp.Sub σ τ' ∧ ∀ b : Int, 0 ≤ b → b < j → trp g (gb xs) b k = false, ⟨_, 0, rfl, rfl, by omega, rfl, hs, fun b h0 h1 => by omega⟩, ?_⟩
    rintro m ys i τ' ⟨j, rfl, rfl, hj, rfl, hs', hnj⟩ _
    refine bc_d (fun hlt2 => ?_) (fun hlt2 => ?_)
    · have hjN : (j : Int) < g.C.length := by omega
      intro A32 l32 c32 σ33 o32
      refine cl_of M_ref04_trapped_enter (c_ref04_trapped (o := ys) (b := (j : Int)) (hg.sub (hs'.trans o32.sub)) hG.s o32.rd hol (by omega) hjN) ?_
      rintro v σ35 ⟨A36, l36, c36, rfl, o36⟩
      obtain ⟨σ1, q1, q2⟩ := o32.swap o36
      refine ⟨_, _, _, rfl, adp_own q2 ?_⟩
      have hrd : RdS [.bool] σ1 A36 l36 (mkB g.C.length (trp g (gb ys) j)) := q1.rd
      refine bix hrd (by omega) (by rw [mkB_len]; exact hkN) ?_
      rw [gb_mk (by omega) hkN]
      refine bc_b (fun ht => rt_sub (hs'.trans q1.sub) ⟨fin _ ⟨k, j, .inr ⟨⟨by omega, hkN⟩, ⟨by omega, hjN⟩, ht, hno, hnj⟩, ?_⟩, rfl⟩) (fun ht => wk_i (by omega) (bk_of _ (by omega) ⟨j + 1, rfl, rfl, by omega, rfl, hs'.trans q1.sub, fun b h0 h1 => ?_⟩))
      · rw [decide_eq_false (by omega)]
      · by_cases e : b = j
        · rw [e]; exact ht
        · exact hnj b h0 (by omega)
    · rw [h21]
      intro _
      refine wk_i (by omega) (bk_of _ (by omega) ⟨k + 1, rfl, rfl, by omega, rfl, hs', fun b b0 b1 c h0 h1 => ?_⟩)
      by_cases e : c = k
      · rw [e]; exact hnj b b0 (by omega)
      · exact hno b b0 b1 c h0 (by omega)
  · rw [h12]
    intro _
    refine rt_sub hs ⟨fin _ ⟨-1, -1, .inl ⟨rfl, rfl, fun b b0 b1 c c0 c1 => hno b b0 b1 c c0 (by omega)⟩, rfl⟩, rfl⟩
set_option maxRecDepth 4000 in
theorem c_ground_Safe (hg : GRd σ x g) (hl : RdS sP σ lA ln l) (hst : RdS sS σ sA sn st) :
    FCalls Try.prog N_ground_Safe #[x.v g, .slice lA ln lc, .slice sA sn sc] σ fun v σ' => SafR g l st v ∧ σ' = σ := by
  refine M_ground_Safe_ok _ _ _ _ _ _ _ _ _ _ _ _ _ _ _ _ ?_
  unfold M_ground_Safe
  refine cl_of M_ground_newField_enter (c_newField hg hl hst) ?_
  rintro v σ2 (⟨hne, rfl, rfl⟩ | ⟨h, f, V, σ0, rfl, hs0, hfw⟩)
  · exact ⟨_, _, _, rfl, bc_nd (fun _ => rt_of ⟨.inl ⟨hne, rfl⟩, rfl⟩) (fun h => absurd h hne)⟩
  refine ⟨_, _, _, rfl, bc_nd (fun h' => absurd h h') (fun _ => ?_)⟩
  obtain ⟨hch, hG, hsl, _, hall⟩ := chkS_ok h
  have hok := Gnd.okS_len hG.s
  have hF := fdK_ok (st := st) hch l.length
  obtain ⟨eg, el⟩ := fdK_g (g := g) (l := l) (st := st) l.length
  have hfr := hfw.r
  have hcn : V.x.cn = g.C.length := by have := hfr.cn; rw [eg] at this; exact this
  have hNC : (fdK g l st l.length).g.C.length = g.C.length := by rw [eg]
  have hs2 : Hp.Sub σ σ2 := hs0.trans hfw.base
  refine cut_intro fun J8 h8 => hfr.toFdB.dC ?_
  refine ⟨fun m c b i τ => ∃ k : Nat, m = g.C.length - k ∧ i = k ∧ k ≤ g.C.length ∧ SafeP (trp g (gb (g.opn l st))) g.C.length k c b ∧ Hp.Sub σ2 τ, ⟨_, 0, rfl, rfl, by omega, .inl ⟨rfl, rfl, fun b _ _ => by omega⟩, Hp.Sub.refl _⟩, ?_⟩
  rintro m c b i τ ⟨k, rfl, rfl, hk, hsf, hs⟩ _
  refine bc_d (fun hlt => ?_) (fun hlt => ?_)
  · have hkN : (k : Int) < g.C.length := by omega
    refine cut_intro fun J23 h23 => ?_
    have k23 : ∀ c b τ', SafeP (trp g (gb (g.opn l st))) g.C.length (k + 1) c b → Hp.Sub σ2 τ' → J23 c b τ' := by
      intro c b τ' h1 h2
      rw [h23]
      intro _
      exact wk_i (by omega) (bk_of _ (by omega) ⟨k + 1, rfl, rfl, by omega, h1, h2⟩)
    refine cl_of M_ground_field_trapped_enter (c_trapped (b := (k : Int)) (hfr.sub hs) hF (gate_free h)) ?_
    rw [hNC, nums_congr fun a h0 h1 => trp_fdK (b := (k : Int)) h h0 h1]
    rintro v σ30 ⟨A31, l31, c31, rfl, o31⟩
    refine ⟨_, _, _, rfl, ?_⟩
    have hs30 := hs.trans o31.sub
    have hlen : l31 = (nums (trp g (gb (g.opn l st)) k) g.C.length).length := o31.len
    have hrd : RdS [.int .i64] σ30 A31 l31 (nums (trp g (gb (g.opn l st)) k) g.C.length) := o31.rd
    have hhd := fun h t => nums_head (p := trp g (gb (g.opn l st)) k) (k := g.C.length) (h := h) (t := t)
    have hnl := fun e (c : Int) => nums_nil (p := trp g (gb (g.opn l st)) k) (k := g.C.length) e (c := c)
    generalize trp g (gb (g.opn l st)) = tr at *
    generalize nums (tr k) g.C.length = T at *
    refine cut_intro fun J34 h34 => ?_
    -- the new one is taken
    have k34 : ∀ h t, T = h :: t → (c < 0 ∨ h < c) → J34 true σ30 := by
      rintro h' t rfl hlt'
      obtain ⟨⟨hr, ht⟩, hlo⟩ := hhd h' t rfl
      rw [h34]
      intro _
      refine bc_t (hix hrd (k23 _ _ _ (.inr ⟨hr, ⟨by omega, by omega⟩, ht, fun b' b0 b1 c' c0 c1 => ?_, fun b' b0 b1 => ?_⟩) hs30))
      · by_cases e : b' = k
        · rw [e]; exact hlo c' c0 c1
        · rcases hsf with ⟨_, _, h1⟩ | ⟨_, _, _, h1, _⟩
          · exact h1 b' b0 (by omega) c' c0 (by omega)
          · exact h1 b' b0 (by omega) c' c0 (by omega)
      · rcases hsf with ⟨_, _, h1⟩ | ⟨hc, _, _, h1, _⟩
        · exact h1 b' b0 (by omega) h' hr.1 hr.2
        · exact h1 b' b0 (by omega) h' hr.1 (by omega)
    -- it is not
    have k34' : (∀ c' : Int, 0 ≤ c' → c' < g.C.length → (c < 0 ∨ c' < c) → tr k c' = false) → J34 false σ30 := by
      intro hno
      rw [h34]
      intro _
      refine bc_f (k23 _ _ _ ?_ hs30)
      rcases hsf with ⟨rfl, rfl, h1⟩ | ⟨hc, hb, ht, h1, h2⟩
      · refine .inl ⟨rfl, rfl, fun b' b0 b1 c' c0 c1 => ?_⟩
        by_cases e : b' = k
        · rw [e]; exact hno c' c0 c1 (.inl (by omega))
        · exact h1 b' b0 (by omega) c' c0 c1
      · refine .inr ⟨hc, ⟨hb.1, by omega⟩, ht, fun b' b0 b1 c' c0 c1 => ?_, h2⟩
        by_cases e : b' = k
        · rw [e]; exact hno c' c0 (by omega) (.inr c1)
        · exact h1 b' b0 (by omega) c' c0 c1
    cases T with
    | nil =>
      have hl0 : l31 = 0 := hlen
      refine bc_d (fun hlt => by omega) (fun _ => k34' fun c' c0 c1 _ => hnl rfl c' c0 c1)
    | cons h' t =>
      obtain ⟨⟨hr, ht⟩, hlo⟩ := hhd h' t rfl
      refine bc_d (fun _ => bc_d (fun hc => k34 _ _ rfl (.inl hc)) (fun hc => hix hrd ?_)) (fun hn => ?_)
      · by_cases e : h' < c
        · rw [decide_eq_true e]
          exact k34 _ _ rfl (.inr e)
        · rw [decide_eq_false e]
          exact k34' fun c' c0 c1 hh => hlo c' c0 (by omega)
      · have : l31 = t.length + 1 := hlen
        omega
  · rw [h8]
    intro _
    have : k = g.C.length := by omega
    subst this
    exact rt_sub (hs2.trans hs) ⟨.inr ⟨h, c, b, hsf, rfl⟩, rfl⟩
end
end Go.Proofs.Ytmpkiaghkhhlhaa

/- Contracts of layer 4: Lanes, both sides. No conditions but those that each theorem names. -/
namespace Go.Proofs.Ytmpkiaghkhhlhaa
open Go.RowKit

def lanC (g : Gnd) (X : List Int) (m : Int) (c : Int) : Bool := (g.nbr c).any fun n => decide (0 ≤ gt X n ∧ gt X n ≤ m)
def lanP (g : Gnd) (l : List Pit) (st : List Sit) (X : List Int) (m : Int) (i : Int) : Bool := (g.cover (pt l i) (sit st i)).2 && !((g.cover (pt l i) (sit st i)).1.any (lanC g X m))
def lanE (g : Gnd) (l : List Pit) (st : List Sit) (m : Int) : List Int × Int :=
  if (chkS g l st).2 ≠ 0 then ([], (chkS g l st).2) else if ¬ (0 ≤ m ∧ m ≤ 100) then ([], 1) else (nums (lanP g l st (farS g (gb (g.opn l st))) m) l.length, 0)
theorem any_take {xs : List Int} {p : Int → Bool} {k : Nat} (h : k < xs.length) : (xs.take (k + 1)).any p = ((xs.take k).any p || p (gt xs k)) := by
  rw [List.take_succ_eq_append_getElem h, List.any_append, gt_nat h]
  simp
theorem any_congr {xs : List Int} {p q : Int → Bool} (h : ∀ a ∈ xs, p a = q a) : xs.any p = xs.any q := by
  induction xs with
  | nil => rfl
  | cons x xs ih =>
    simp only [List.any_cons]
    rw [h x (List.mem_cons_self ..), ih fun a ha => h a (List.mem_cons_of_mem _ ha)]
section
variable {σ : Hp} {x : GV} {g : Gnd} {lA sA : Option Addr} {ln lc sn sc : Nat} {l : List Pit} {st : List Sit} {m : Int}
theorem site_cov (h : (chkS g l st).2 = 0) {i : Nat} (hi : i < l.length) : (g.cover (pt l i) (sit st i)).2 = decide (¬ (sit st i).1 < 0) := by
  obtain ⟨_, _, _, _, hall⟩ := chkS_ok h
  have hs := hall i hi
  unfold Gnd.siteOK at hs
  simp only [Bool.or_eq_true, Bool.and_eq_true, decide_eq_true_eq] at hs
  rcases hs with hs | ⟨h0, hs⟩
  · rw [hs, cover_neg (by decide)]
    rfl
  · unfold Gnd.bes Gnd.fit at hs
    simp only [Bool.and_eq_true] at hs
    rw [hs.1.1.1.1, decide_eq_true (by omega)]
set_option maxRecDepth 4000 in
theorem c_ref04_Lanes (hg : GRd σ x g) (hl : RdS sP σ lA ln l) (hst : RdS sS σ sA sn st) (hsc : sn ≤ sc) :
    FCalls Try.prog N_ref04_Lanes #[x.v g, .slice lA ln lc, .slice sA sn sc, .int .i64 m] σ (NewI σ (lanE g l st m).1 (lanE g l st m).2) := by
  refine M_ref04_Lanes_ok _ _ _ _ _ _ _ _ _ _ _ _ _ _ _ _ _ ?_
  unfold M_ref04_Lanes
  have hln := hl.lenP
  refine clII M_ref04_Check_enter (c_ref04_Check hg hl hst hsc) ?_
  refine bc_nd (fun h => rt_of ?_) (fun h => ?_)
  · rw [lanE, if_pos h]
    exact NewI.nil
  obtain ⟨hch, hG, hsl, _, _⟩ := chkS_ok h
  have hok := Gnd.okS_len hG.s
  have h8 := hG.len
  refine l_rw (bc_nd (fun h2 => rt_of ?_) (fun h2 => ?_))
  · rw [lanE, if_neg (by simp [h]), if_pos h2]
    exact NewI.nil
  rw [lanE, if_neg (by simp [h]), if_neg (by simpa using h2)]
  refine clLs M_ref04_Open_enter (c_Open hg hG hl hst (by omega)) ?_
  intro A13 l13 c13 σ14 o13
  refine clL M_ref04_far_enter (c_ref04_far (hg.sub o13.sub) hG.s o13.rd opn_len) ?_
  have hXl := farS_len (g := g) (op := gb (g.opn l st))
  generalize farS g (gb (g.opn l st)) = X at *
  have hg := hg.sub o13.sub
  have hl := hl.sub o13.sub
  have hst := hst.sub o13.sub
  have hs14 := o13.sub
  refine cut_intro fun J22 h22 => ?_
  refine ⟨fun w A n c i τ => ∃ k : Nat, w = l.length - k ∧ i = k ∧ k ≤ l.length ∧ ∃ σB, Hp.Sub σ14 σB ∧ OwnSl 3 [.int .i64] σB A n c (nums (lanP g l st X m) k) τ, ⟨_, 0, rfl, rfl, by omega, σ14, Hp.Sub.refl _, OwnSl.nil ..⟩, ?_⟩
  rintro w A n c i τ ⟨k, rfl, rfl, hk, σB, hsB, hown⟩ _
  refine bc_d (fun hlt => ?_) (fun hlt => ?_)
  · have hkl : k < l.length := by omega
    have hp := hG.pt hkl
    have hcov := site_cov h hkl
    have hsτ := hsB.trans hown.sub
    refine cut_intro fun J32 h32 => ?_
    have k32 : ∀ A n c τ' σB', Hp.Sub σ14 σB' → OwnSl 3 [.int .i64] σB' A n c (nums (lanP g l st X m) (k + 1)) τ' → J32 A n c τ' := by
      intro A n c τ' σB' h1 h2
      rw [h32]
      intro _
      exact wk_i (by omega) (bk_of _ (by omega) ⟨k + 1, rfl, rfl, by omega, σB', h1, h2⟩)
    rw [nums_succ] at k32
    refine six0 (hst.sub hsτ) (by omega) (by omega) (bc_d (fun hneg => k32 _ _ _ _ σB hsB ?_) (fun hpos => ?_))
    · rw [if_neg, List.append_nil]
      · exact hown
      · rw [lanP, hcov, decide_eq_false (by simpa using hneg)]
        simp
    refine pix (hl.sub hsτ) (by omega) (by omega) (six (hst.sub hsτ) (by omega) (by omega) ?_)
    refine l_Cover hg.c.lenI hG.s hp fun A53 l53 c53 σ52 o53 => ?_
    have hin := Gnd.cover_in (s := sit st k) hG.s hp
    obtain ⟨c1, c2⟩ := Gnd.cover_len (s := sit st k) hp
    have hlan : lanP g l st X m k = !((g.cover (pt l k) (sit st k)).1.any (lanC g X m)) := by
      rw [lanP, hcov, decide_eq_true hpos, Bool.true_and]
    rw [hlan] at k32
    have hlen : l53 = (g.cover (pt l k) (sit st k)).1.length := o53.len
    have hrd : RdS [.int .i64] σ52 A53 l53 (g.cover (pt l k) (sit st k)).1 := o53.rd
    obtain ⟨σ1, q1, q2⟩ := hown.swap o53
    generalize (g.cover (pt l k) (sit st k)).1 = cs at *
    refine cut_intro fun J57 h57 => ?_
    have k57 : ∀ t, t = cs.any (lanC g X m) → J57 t σ52 := by
      rintro t rfl
      rw [h57]
      intro _
      refine bc_nb (fun hb => ?_) (fun hb => k32 _ _ _ _ σ1 (hsB.trans q1.sub) ?_)
      · rw [hb] at k32
        refine adp_own q2 (roomy_i ?_ fun A n c σ' ho => k32 _ _ _ _ σ1 (hsB.trans q1.sub) ho)
        have := nums_len (p := lanP g l st X m) (k := k)
        show (nums (lanP g l st X m) k).length + 1 ≤ _
        omega
      · rw [if_neg (by rw [hb]; simp), List.append_nil]
        exact q2
    refine ⟨fun w t i τ' => ∃ j : Nat, w = cs.length - j ∧ i = j ∧ j ≤ cs.length ∧ τ' = σ52 ∧ t = (cs.take j).any (lanC g X m), ⟨_, 0, rfl, rfl, by omega, rfl, rfl⟩, ?_⟩
    rintro w t i τ' ⟨j, rfl, rfl, hj, rfl, rfl⟩ _
    refine bc_d (fun hlt2 => ?_) (fun hlt2 => ?_)
    · have hjl : j < cs.length := by omega
      have ij := hin _ (gt_mem hjl)
      refine cut_intro fun J71 h71 => ?_
      have k71 : ∀ t, t = (cs.take (j + 1)).any (lanC g X m) → J71 t τ' := by
        rintro t rfl
        rw [h71]
        intro _
        exact wk_i (by omega) (bk_of _ (by omega) ⟨j + 1, rfl, rfl, by omega, rfl, rfl⟩)
      rw [any_take hjl] at k71
      refine gixg hrd (by omega) (by omega) ?_
      refine clL M_ref04_Neighbours_enter (c_Neighbours hG.s ij.1 ij.2) ?_
      have hnl := nbr_len (g := g) (c := gt cs j)
      have hnin := nbr_in hG.s ij.1 ij.2
      have elan : lanC g X m (gt cs j) = (g.nbr (gt cs j)).any fun n => decide (0 ≤ gt X n ∧ gt X n ≤ m) := rfl
      rw [elan] at k71
      generalize g.nbr (gt cs j) = ns at *
      generalize (cs.take j).any (lanC g X m) = t0 at *
      refine ⟨fun w t i τ2 => ∃ q : Nat, w = ns.length - q ∧ i = q ∧ q ≤ ns.length ∧ τ2 = τ' ∧ t = (t0 || (ns.take q).any fun n => decide (0 ≤ gt X n ∧ gt X n ≤ m)), ⟨_, 0, rfl, rfl, by omega, rfl, by simp⟩, ?_⟩
      rintro w t i τ2 ⟨q, rfl, rfl, hq, rfl, rfl⟩ _
      refine bc_d (fun hlt3 => ?_) (fun hlt3 => ?_)
      · have hql : q < ns.length := by omega
        have kin := hnin _ (gt_mem hql)
        refine cut_intro fun J92 h92 => ?_
        have k92 : ∀ t, t = (t0 || (ns.take (q + 1)).any fun n => decide (0 ≤ gt X n ∧ gt X n ≤ m)) → J92 t τ2 := by
          rintro t rfl
          rw [h92]
          intro _
          exact wk_i (by omega) (bk_of _ (by omega) ⟨q + 1, rfl, rfl, by omega, rfl, rfl⟩)
        rw [any_take hql, ← Bool.or_assoc] at k92
        refine bc_b (fun hb => k92 _ ?_) (fun hb => ⟨by omega, by omega, lat_I (by omega) (by omega) ⟨kin.1, by omega, lat_I kin.1 (by omega) (l_rw (k92 _ ?_))⟩⟩)
        · rw [hb]; rfl
        · rw [hb]; rfl
      · have : q = ns.length := by omega
        subst this
        rw [List.take_length]
        exact k71 _ rfl
    · have : j = cs.length := by omega
      subst this
      rw [List.take_length]
      exact k57 _ rfl
  · rw [h22]
    intro _
    have : k = l.length := by omega
    subst this
    exact NewI.base (hs14.trans hsB) hown fun _ _ h => h
theorem c_Lanes_1_1 {f cap0 cap1 cap2 A : Option Addr} {n cp : Nat} {V : FA} {F : Fd} {X : List Int} {k : Int} (hf : FdR σ f V F) (hF : F.ok) (h0 : Bx1 σ cap0 (.pointer f)) (h1 : Bx1 σ cap1 (.slice A n cp)) (h2 : Bx1 σ cap2 (.int .i64 m))
    (hX : RdS [.int .i64] σ A n X) (hl : X.length = F.g.C.length) (k0 : 0 ≤ k) (k1 : k < F.g.C.length) :
    FCalls Try.prog N_ground_Lanes_1_1 #[.int .i64 k, .pointer cap0, .pointer cap1, .pointer cap2] σ fun v σ' => v = .bool (F.free k && decide (0 ≤ gt X k ∧ gt X k ≤ m)) ∧ σ' = σ := by
  refine M_ground_Lanes_1_1_ok _ _ _ _ _ _ ?_
  unfold M_ground_Lanes_1_1
  refine h0.ldP (clB M_ground_field_free_enter (c_field_free hf hF k0 k1) ?_)
  refine bc_b (fun hfr => h1.ldS (gixg hX k0 (by omega) (h2.ldI (l_gw (rt_of ⟨?_, rfl⟩))))) (fun hfr => rt_of ⟨?_, rfl⟩)
  · simp [hfr]
  · simp [hfr]
theorem c_Lanes_1 {f cap0 cap1 cap2 A : Option Addr} {n cp : Nat} {V : FA} {F : Fd} {X : List Int} {c : Int} (hf : FdR σ f V F) (hF : F.ok) (h0 : Bx1 σ cap0 (.pointer f)) (h1 : Bx1 σ cap1 (.slice A n cp)) (h2 : Bx1 σ cap2 (.int .i64 m))
    (hX : RdS [.int .i64] σ A n X) (hl : X.length = F.g.C.length) (c0 : 0 ≤ c) (c1 : c < F.g.C.length) :
    FCalls Try.prog N_ground_Lanes_1 #[.int .i64 c, .pointer cap0, .pointer cap1, .pointer cap2] σ fun v σ' => v = .bool ((F.g.nbr c).any fun k => F.free k && decide (0 ≤ gt X k ∧ gt X k ≤ m)) ∧ σ' = σ := by
  refine M_ground_Lanes_1_ok _ _ _ _ _ _ ?_
  unfold M_ground_Lanes_1
  refine h0.ldP (clL M_ground_field_beside_enter (c_field_beside hf.toFdB hF.s c0 c1) ?_)
  have hnl := nbr_len (g := F.g) (c := c)
  have hnin := nbr_in hF.s c0 c1
  intro A9 l9 c9 σ10 o9
  have hs := o9.sub
  refine clB M_slices_ContainsFunc_int_enter (c_ContainsFunc_int (p := fun k => F.free k && decide (0 ≤ gt X k ∧ gt X k ≤ m)) o9.rd (by show (F.g.nbr c).length ≤ _; omega) (Dec.of M_ground_Lanes_1_1_enter fun a ha => ?_)) (rt_sub hs ⟨rfl, rfl⟩)
  have := hnin a ha
  exact c_Lanes_1_1 (hf.sub hs) hF (h0.sub hs) (h1.sub hs) (h2.sub hs) (hX.sub hs) hl this.1 this.2
set_option maxRecDepth 4000 in
theorem c_ground_Lanes (hg : GRd σ x g) (hl : RdS sP σ lA ln l) (hst : RdS sS σ sA sn st) :
    FCalls Try.prog N_ground_Lanes #[x.v g, .slice lA ln lc, .slice sA sn sc, .int .i64 m] σ (NewI σ (lanE g l st m).1 (lanE g l st m).2) := by
  refine M_ground_Lanes_ok _ _ _ _ _ _ _ _ _ _ _ _ _ _ _ _ _ ?_
  unfold M_ground_Lanes
  refine cl_of M_ground_newField_enter (c_newField hg hl hst) ?_
  rintro v σ2 (⟨hne, rfl, rfl⟩ | ⟨h, f, V, σ0, rfl, hs0, hfw⟩)
  · refine ⟨_, _, _, rfl, bc_nd (fun _ => rt_of ?_) (fun h => absurd h hne)⟩
    rw [lanE, if_pos hne]
    exact NewI.nil
  refine ⟨_, _, _, rfl, bc_nd (fun h' => absurd h h') (fun _ => ?_)⟩
  obtain ⟨hch, hG, hsl, _, hall⟩ := chkS_ok h
  have h8 := hG.len
  have hF := fdK_ok (st := st) hch l.length
  have hs2 : Hp.Sub σ σ2 := hs0.trans hfw.base
  refine l_gw (bc_nd (fun h2 => rt_sub hs2 ?_) (fun h2 => ?_))
  · rw [lanE, if_neg (by simp [h]), if_pos h2]
    exact NewI.nil
  rw [lanE, if_neg (by simp [h]), if_neg (by simpa using h2)]
  have hfr := hfw.r
  refine cl_of M_ground_field_far_enter (c_far (b := -1) hfr hF (gate_free h)) ?_
  have e : farS g (fun c => gb (g.opn l st) c && decide (c ≠ -1)) = farS g (gb (g.opn l st)) := farS_congr hG.s fun c h0 h1 => by
    rw [decide_eq_true (show c ≠ -1 by omega), Bool.and_true]
  rw [far_fdK h, e]
  rintro v σ10 ⟨A11, l11, c11, rfl, o11⟩
  refine ⟨_, _, _, rfl, ?_⟩
  have hXl := farS_len (g := g) (op := gb (g.opn l st))
  have hXop := (farS_lab (op := gb (g.opn l st)) hG.s).isop
  have hX : RdS [.int .i64] σ10 A11 l11 (farS g (gb (g.opn l st))) := o11.rd
  have hfree := fun c => free_opn (c := c) h
  have hcovs : ∀ i : Nat, i < l.length → ∀ a ∈ (g.cover (pt l i) (sit st i)).1, 0 ≤ a ∧ a < g.C.length := fun i hi => Gnd.cover_in hG.s (hG.pt hi)
  have hcovl : ∀ i : Nat, i < l.length → (g.cover (pt l i) (sit st i)).1.length ≤ 64 := fun i hi => by
    obtain ⟨c1, c2⟩ := Gnd.cover_len (s := sit st i) (hG.pt hi)
    omega
  obtain ⟨eg, el⟩ := fdK_g (g := g) (l := l) (st := st) l.length
  have est := fdK_st hch hsl
  generalize fdK g l st l.length = F at *
  subst eg
  subst el
  subst est
  generalize farS F.g (gb (F.g.opn F.l F.st)) = X at *
  have hf10 := hfr.sub o11.sub
  have hs10 := hs2.trans o11.sub
  have hlan : ∀ c : Int, 0 ≤ c → c < F.g.C.length → ((F.g.nbr c).any fun k => F.free k && decide (0 ≤ gt X k ∧ gt X k ≤ m)) = lanC F.g X m c := by
    intro c c0 c1
    refine any_congr fun a ha => ?_
    obtain ⟨a0, a1⟩ := nbr_in hG.s c0 c1 a ha
    by_cases hx : 0 ≤ gt X a
    · rw [hfree a a0 a1, hXop a a0 a1 hx, Bool.true_and]
    · rw [decide_eq_false (fun q => hx q.1), Bool.and_false]
  refine cut_intro fun J14 h14 => hf10.toFdB.dS ?_
  have hsn : V.sn = F.st.length := hf10.sr.lenS
  refine ⟨fun w p29 A n c p31 p32 i τ => ∃ k : Nat, w = F.l.length - k ∧ i = k ∧ k ≤ F.l.length ∧ ∃ σB, Hp.Sub σ10 σB ∧ Bx1 σB p29 (.int .i64 m) ∧ Bx1 σB p31 (.pointer f) ∧ Bx1 σB p32 (.slice A11 l11 c11) ∧ OwnSl 3 [.int .i64] σB A n c (nums (lanP F.g F.l F.st X m) k) τ, ⟨F.l.length, ?_⟩, ?_⟩
  · intro b23 n23 b25 n25 b27 n27
    have e23 := Hp.Sub.ins (.cells #[.int .i64 m] 3) n23
    have e25 := Hp.Sub.ins (.cells #[.pointer f] 67) n25
    have e27 := Hp.Sub.ins (.cells #[.slice A11 l11 c11] 22) n27
    exact ⟨0, rfl, rfl, by omega, _, e23.trans (e25.trans e27), Bx1.ins.sub (e25.trans e27), Bx1.ins.sub e27, Bx1.ins, OwnSl.nil ..⟩
  rintro w p29 A n c p31 p32 i τ ⟨k, rfl, rfl, hk, σB, hsB, x29, x31, x32, hown⟩ _
  refine bc_d (fun hlt => ?_) (fun hlt => ?_)
  · have hkl : k < F.l.length := by omega
    refine cut_intro fun J36 h36 => ?_
    have k36 : ∀ A n c τ' σB', Hp.Sub σB σB' → OwnSl 3 [.int .i64] σB' A n c (nums (lanP F.g F.l F.st X m) (k + 1)) τ' → J36 A n c τ' := by
      intro A n c τ' σB' h1 h2
      rw [h36]
      intro _
      exact wk_i (by omega) (bk_of _ (by omega) ⟨k + 1, rfl, rfl, by omega, σB', hsB.trans h1, x29.sub h1, x31.sub h1, x32.sub h1, h2⟩)
    rw [nums_succ] at k36
    have hsτ := hsB.trans hown.sub
    have hfτ := hf10.sub hsτ
    refine six hfτ.sr (by omega) (by omega) ((x31.sub hown.sub).ldP ?_)
    refine l_cells (s := sit F.st k) hfτ hF (by omega) (by omega) fun A50 l50 c50 σ49 o50 => ?_
    obtain ⟨σ1, q1, q2⟩ := hown.swap o50
    refine cut_intro fun J54 h54 => ?_
    have k54 : ∀ t, t = lanP F.g F.l F.st X m k → J54 t σ49 := by
      rintro t rfl
      rw [h54]
      intro _
      refine bc_b (fun hb => ?_) (fun hb => k36 _ _ _ _ σ1 q1.sub ?_)
      · rw [if_pos hb] at k36
        refine adp_own q2 (roomy_i ?_ fun A n c σ' ho => k36 _ _ _ _ σ1 q1.sub ho)
        have := nums_len (p := lanP F.g F.l F.st X m) (k := k)
        show (nums (lanP F.g F.l F.st X m) k).length + 1 ≤ _
        omega
      · rw [if_neg (by rw [hb]; simp), List.append_nil]
        exact q2
    unfold lanP at k54
    have hs49 := hown.sub.trans o50.sub
    have hci := hcovs k hkl
    have hcl := hcovl k hkl
    refine bc_b (fun hb => ?_) (fun hb => k54 _ ?_)
    · refine clB M_slices_ContainsFunc_int_enter (c_ContainsFunc_int (p := lanC F.g X m) o50.rd (by show ((F.g.cover (pt F.l k) (sit F.st k)).1).length ≤ _; omega) (Dec.of M_ground_Lanes_1_enter fun a ha => ?_)) (k54 _ ?_)
      · obtain ⟨a0, a1⟩ := hci a ha
        rw [← hlan a a0 a1]
        exact c_Lanes_1 (hf10.sub (hsB.trans hs49)) hF (x31.sub hs49) (x32.sub hs49) (x29.sub hs49) (hX.sub (hsB.trans hs49)) hXl a0 a1
      · rw [hb, Bool.true_and]
    · rw [hb]
      rfl
  · rw [h14]
    intro _
    have : k = F.l.length := by omega
    subst this
    exact NewI.base (hs10.trans hsB) hown fun _ _ h => h
end
end Go.Proofs.Ytmpkiaghkhhlhaa

