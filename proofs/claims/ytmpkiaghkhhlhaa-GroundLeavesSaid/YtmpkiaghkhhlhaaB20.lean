/- Texts Ga32 Ga33 Ja3: what the claims of this seat rest on; each text says what it proves. -/
import Derived.Test.YtmpkiaghkhhlhaaB19
import Derived.Test.YtmpkiaghkhhlhaaB14

/- Contracts of layer 4: Leave, both sides. No conditions but those that each theorem names. -/
namespace Go.Proofs.Ytmpkiaghkhhlhaa
open Go.RowKit

section
variable {σ : Hp}
theorem c_Clone {A : Option Addr} {n c : Nat} {xs : List Int} (h : RdS [.int .i64] σ A n xs) (h0 : 0 < xs.length) (hl : xs.length ≤ 65536) : FCalls Try.prog N_slices_Clone_int #[.slice A n c] σ (NewL 3 [.int .i64] σ xs) := by
  refine M_slices_Clone_int_ok _ _ _ _ _ ?_
  unfold M_slices_Clone_int
  have hn := h.lenI
  have hA : A.isNone = false := by
    rcases h.2 with h1 | ⟨b, off, cells, e, f, rw, rfl, _⟩
    · omega
    · rfl
  rw [hA]
  refine bc_f ⟨xs, h, roomy_i ?_ ?_⟩
  · show 0 + xs.length ≤ _
    omega
  · exact fun A' n' c' σ' ho => rt_of ⟨_, _, _, rfl, ho⟩
theorem c_Leave_1 {cap0 A : Option Addr} {n cp : Nat} {X : List Int} {c : Int} (h0 : Bx1 σ cap0 (.slice A n cp)) (hX : RdS [.int .i64] σ A n X) (c0 : 0 ≤ c) (c1 : c < X.length) : FCalls Try.prog N_ground_Leave_1 #[.int .i64 c, .pointer cap0] σ fun v σ' => v = .bool (decide (0 ≤ gt X c)) ∧ σ' = σ := by
  refine M_ground_Leave_1_ok _ _ _ _ ?_
  unfold M_ground_Leave_1
  exact h0.ldS (gixg hX c0 c1 (rt_of ⟨rfl, rfl⟩))
theorem c_Leave_2 {cap0 A : Option Addr} {n cp : Nat} {X : List Int} {a b : Int} (h0 : Bx1 σ cap0 (.slice A n cp)) (hX : RdS [.int .i64] σ A n X) (a0 : 0 ≤ a) (a1 : a < X.length) (b0 : 0 ≤ b) (b1 : b < X.length) (hb : (-1 ≤ gt X a ∧ gt X a ≤ 65536) ∧ (-1 ≤ gt X b ∧ gt X b ≤ 65536)) : FCalls Try.prog N_ground_Leave_2 #[.int .i64 a, .int .i64 b, .pointer cap0] σ fun v σ' => v = .int .i64 (gt X a - gt X b) ∧ σ' = σ := by
  refine M_ground_Leave_2_ok _ _ _ _ _ ?_
  unfold M_ground_Leave_2
  exact h0.ldS (gixg hX a0 a1 (h0.ldS (gixg hX b0 b1 (wk_i (by omega) (rt_of ⟨rfl, rfl⟩)))))
theorem c_Leave_3 {cap0 cap1 cap2 A A2 : Option Addr} {n cp n2 cp2 : Nat} {X now : List Int} {c k : Int} (h0 : Bx1 σ cap0 (.slice A n cp)) (h1 : Bx1 σ cap1 (.int .i64 c)) (h2 : Bx1 σ cap2 (.slice A2 n2 cp2)) (hX : RdS [.int .i64] σ A n X) (hN : RdS [.int .i64] σ A2 n2 now)
    (hl : now.length = X.length) (c0 : 0 ≤ c) (c1 : c < X.length) (k0 : 0 ≤ k) (k1 : k < X.length) (hb : -1 ≤ gt X c ∧ gt X c ≤ 65536) : FCalls Try.prog N_ground_Leave_3 #[.int .i64 k, .pointer cap0, .pointer cap1, .pointer cap2] σ fun v σ' => v = .bool (nearP X now c k) ∧ σ' = σ := by
  refine M_ground_Leave_3_ok _ _ _ _ _ _ ?_
  unfold M_ground_Leave_3
  refine h0.ldS (gixg hX k0 k1 (h0.ldS (h1.ldI (gixg hX c0 c1 (wk_i (by omega) (bc_d (fun he => h2.ldS (gixg hN k0 (by omega) (rt_of ⟨?_, rfl⟩))) (fun he => rt_of ⟨?_, rfl⟩)))))))
  · unfold nearP; rw [decide_eq_true he, Bool.true_and]
  · unfold nearP; rw [decide_eq_false he, Bool.false_and]
theorem c_sum {A : Option Addr} {n c N : Nat} {xs : List Int} (h : RdS [.int .i64] σ A n xs) (hx : NowOK N xs) (hN : N ≤ 64) : FCalls Try.prog N_ref04_sum #[.slice A n c] σ fun v σ' => v = .int .i64 (sumI xs) ∧ σ' = σ := by
  refine M_ref04_sum_ok _ _ _ _ _ ?_
  unfold M_ref04_sum
  have hn := h.lenI
  have hl := hx.1
  refine cut_intro fun J3 h3 => ?_
  refine ⟨fun w s i σ' => ∃ k : Nat, w = xs.length - k ∧ i = k ∧ k ≤ xs.length ∧ s = sumI (xs.take k) ∧ σ' = σ, ⟨_, 0, rfl, rfl, by omega, rfl, rfl⟩, ?_⟩
  rintro w s i σ' ⟨k, rfl, rfl, hk, rfl, rfl⟩ _
  refine bc_d (fun hlt => ?_) (fun hlt => ?_)
  · have hkl : k < xs.length := by omega
    have b1 := hx.take k
    have b2 := hx.2 k (by omega) (by omega)
    exact gixg h (by omega) (by omega) (wk_i (by omega) (wk_i (by omega) (bk_of _ (by omega) ⟨k + 1, rfl, rfl, by omega, by rw [sumI_take hkl], rfl⟩)))
  · rw [h3]
    intro _
    have : k = xs.length := by omega
    subst this
    rw [List.take_length]
    exact rt_of ⟨rfl, rfl⟩
theorem c_goes {σ0 : Hp} {x : GV} {g : Gnd} {dA nA : Option Addr} {dn dc nn nc : Nat} {X now : List Int} {c : Int} (hg : GRd σ0 x g) (ho : g.okS = true) (hX : RdS [.int .i64] σ0 dA dn X) (hXl : X.length = g.C.length) (hXb : ∀ a : Int, 0 ≤ a → a < g.C.length → -1 ≤ gt X a ∧ gt X a ≤ 65536) (hgate : gt g.C c = 3 ↔ gt X c = 0)
    (hn : OwnSl 3 [.int .i64] σ0 nA nn nc now σ) (hok : NowOK g.C.length now) (c0 : 0 ≤ c) (c1 : c < g.C.length) :
    FCalls Try.prog N_ref04_goes #[x.v g, .slice dA dn dc, .slice nA nn nc, .int .i64 c] σ fun _ σ' => OwnSl 3 [.int .i64] σ0 nA nn nc (goS g X now c) σ' := by
  refine M_ref04_goes_ok _ _ _ _ _ _ _ _ _ _ _ _ _ _ _ _ _ ?_
  unfold M_ref04_goes
  have hl := hok.1
  have hrd : RdS [.int .i64] σ nA nn now := hn.rd
  have hc := hok.2 c c0 c1
  have hs := hn.sub
  have eg : goS g X now c = if gt now c = 0 then now else if gt X c = 0 then now.set c.toNat (gt now c - 1) else if 0 ≤ fidx (nearP X now c) (g.nbr c) then (now.set c.toNat (gt now c - 1)).set (gt (g.nbr c) (fidx (nearP X now c) (g.nbr c))).toNat (gt now (gt (g.nbr c) (fidx (nearP X now c) (g.nbr c))) + 1) else now := rfl
  refine gixg hrd c0 (by omega) (bc_d (fun e => rt_of ?_) (fun e => ?_))
  · rw [eg, if_pos e]; exact hn
  rw [if_neg e] at eg
  refine gixg (hg.c.sub hs) c0 c1 (bc_d (fun e3 => ?_) (fun e3 => ?_))
  · rw [if_pos (hgate.1 e3)] at eg
    refine gixg hrd c0 (by omega) (wk_i (by omega) ?_)
    refine hn.ix_stI (Hp.Sub.refl _) c0 (by omega) fun σ2 τ2 ho2 hs2 => rt_sub hs2 ?_
    rw [eg]
    exact ho2
  rw [if_neg (fun h => e3 (hgate.2 h))] at eg
  refine clL M_ref04_Neighbours_enter (c_Neighbours ho c0 c1) ?_
  have hnl := nbr_len (g := g) (c := c)
  have hnin := nbr_in ho c0 c1
  have hXc := hXb c c0 c1
  refine ⟨fun w i τ => ∃ k : Nat, w = (g.nbr c).length - k ∧ i = k ∧ k ≤ (g.nbr c).length ∧ τ = σ ∧ ∀ j, (h : j < (g.nbr c).length) → j < k → nearP X now c (g.nbr c)[j] = false, ⟨_, 0, rfl, rfl, by omega, rfl, fun j _ h => by omega⟩, ?_⟩
  rintro w i τ ⟨k, rfl, rfl, hk, rfl, hj⟩ _
  refine bc_d (fun hlt => ?_) (fun hlt => ?_)
  · have hkl : k < (g.nbr c).length := by omega
    have kin := hnin _ (gt_mem hkl)
    have hnow := hok.2 _ kin.1 kin.2
    refine cut_intro fun J27 h27 => cut_intro fun J33 h33 => ?_
    have k33 : ∀ t, t = nearP X now c (gt (g.nbr c) k) → J33 t τ := by
      rintro t rfl
      rw [h33]
      intro _
      refine bc_b (fun ht => ?_) (fun ht => ?_)
      · have hf := fidx_at (p := nearP X now c) hkl (by rw [← gt_nat hkl]; exact ht) hj
        rw [hf, if_pos (by omega)] at eg
        unfold nearP at ht
        simp only [Bool.and_eq_true, decide_eq_true_eq] at ht
        have hne : gt (g.nbr c) k ≠ c := fun q => by rw [q] at ht; omega
        refine gixg hrd c0 (by omega) (wk_i (by omega) ?_)
        refine hn.ix_stI (Hp.Sub.refl _) c0 (by omega) fun σ2 τ2 ho2 hs2 => ?_
        have hrd2 : RdS [.int .i64] τ2 nA nn (now.set c.toNat (gt now c - 1)) := ho2.rd.sub hs2
        have hv : gt (now.set c.toNat (gt now c - 1)) (gt (g.nbr c) k) = gt now (gt (g.nbr c) k) := by
          rw [gt_set c0 kin.1 (by omega), if_neg hne]
        refine ⟨by omega, by omega, lat_I (by omega) (by omega) (gixg hrd2 kin.1 (by simp; omega) ?_)⟩
        rw [hv]
        refine wk_i (by omega) ?_
        refine ho2.ix_stI hs2 kin.1 (by simp; omega) fun σ3 τ3 ho3 hs3 => rt_sub hs3 ?_
        rw [eg]
        exact ho3
      · rw [h27]
        intro _
        refine wk_i (by omega) (bk_of _ (by omega) ⟨k + 1, rfl, rfl, by omega, rfl, fun j hjl hjk => ?_⟩)
        rcases Nat.lt_or_ge j k with hlt | hge
        · exact hj j hjl hlt
        · have : j = k := by omega
          subst this
          rw [← gt_nat hjl]; exact ht
    refine ⟨by omega, by omega, lat_I (by omega) (by omega) (gixg (hX.sub hs) kin.1 (by omega) (gixg (hX.sub hs) c0 (by omega) (wk_i (by omega) (bc_d (fun hx => ⟨by omega, by omega, lat_I (by omega) (by omega) (gixg hrd kin.1 (by omega) (k33 _ ?_))⟩) (fun hx => k33 _ ?_)))))⟩
    · unfold nearP; rw [decide_eq_true hx, Bool.true_and]
    · unfold nearP; rw [decide_eq_false hx, Bool.false_and]
  · have : fidx (nearP X now c) (g.nbr c) = -1 := fidx_none fun j h => hj j h (by omega)
    rw [this, if_neg (by omega)] at eg
    rw [eg]
    exact rt_of hn
end
section
variable {σ : Hp} {x : GV} {g : Gnd} {lA sA pA : Option Addr} {ln lc sn sc pn pc : Nat} {l : List Pit} {st : List Sit} {ps : List Int} {m : Int}
set_option maxRecDepth 4000 in
theorem c_ref04_Leave (hg : GRd σ x g) (hl : RdS sP σ lA ln l) (hst : RdS sS σ sA sn st) (hsc : sn ≤ sc) (hps : RdS [.int .i64] σ pA pn ps) :
    FCalls Try.prog N_ref04_Leave #[x.v g, .slice lA ln lc, .slice sA sn sc, .slice pA pn pc, .int .i64 m] σ (NewI σ (lvE g l st ps m).1 (lvE g l st ps m).2) := by
  refine M_ref04_Leave_ok _ _ _ _ _ _ _ _ _ _ _ _ _ _ _ _ _ _ _ _ ?_
  unfold M_ref04_Leave
  have hpn := hps.lenI
  refine clII M_ref04_Check_enter (c_ref04_Check hg hl hst hsc) ?_
  refine bc_nd (fun h => rt_of ?_) (fun h => ?_)
  · rw [lvE, if_pos h]
    exact NewI.nil
  obtain ⟨hch, hG, hsl, _, _⟩ := chkS_ok h
  obtain ⟨l1, l2, l3⟩ := Gnd.okS_len hG.s
  refine clL M_ref04_Open_enter (c_Open hg hG hl hst (by omega)) ?_
  have hol := opn_len (g := g) (l := l) (st := st)
  have hlv : lvE g l st ps m = if ¬ (ps.length = g.C.length ∧ (0 ≤ m ∧ m ≤ 500)) then ([], 1) else if badS g (gb (g.opn l st)) ps g.C.length = true then ([], 1) else (lvL g (farS g (gb (g.opn l st))) m.toNat ps, 0) := by rw [lvE, if_neg (by simp [h])]
  generalize g.opn l st = o at *
  refine cut_intro fun J12 h12 => cut_intro fun J149 h149 => ?_
  have k12 : (ps.length = g.C.length ∧ (0 ≤ m ∧ m ≤ 500)) → J12 σ := by
    rintro ⟨hpl, hm⟩
    rw [if_neg (by simp [hpl, hm])] at hlv
    rw [h12]
    intro _
    refine cut_intro fun J15 h15 => ?_
    have k15 : badS g (gb o) ps g.C.length = false → J15 σ := by
      intro hbad
      rw [hbad, if_neg (by simp)] at hlv
      have hnow := badS_now hpl hbad
      rw [h15]
      intro _
      intro A16 l16 c16 σ17 o16
      refine clL M_ref04_far_enter (c_ref04_far (hg.sub o16.sub) hG.s o16.rd hol) ?_
      refine adp_own o16 (adp_nil.2 ⟨ps, hps, roomy_i (by show 0 + ps.length ≤ _; omega) ?_⟩)
      have hlab := farS_lab (op := gb o) hG.s
      have hlt := lab_lt hG.s hlab.pre
      have hXb : ∀ a : Int, 0 ≤ a → a < g.C.length → -1 ≤ gt (farS g (gb o)) a ∧ gt (farS g (gb o)) a ≤ 65536 := fun a a0 a1 => ⟨hlab.lo a a0 a1, by have := hlt a a0 a1; omega⟩
      have hgt : ∀ a : Int, 0 ≤ a → a < g.C.length → 0 ≤ gt (farS g (gb o)) a → (gt g.C a = 3 ↔ gt (farS g (gb o)) a = 0) := fun a a0 a1 ha => by
        rw [hlab.zero a a0 a1]
        exact ⟨fun q => ⟨hlab.isop a a0 a1 ha, q⟩, fun q => q.2⟩
      have hXl := farS_len (g := g) (op := gb o)
      generalize farS g (gb o) = X at *
      refine cut_intro fun J30 h30 => ?_
      refine ⟨fun w now left tk d τ => ∃ k : Nat, w = m.toNat - k ∧ tk = k ∧ k ≤ m.toNat ∧ d = X ∧ τ = σ ∧ NowOK g.C.length now ∧ left.length = k ∧ left ++ lvL g X (m.toNat - k) now = lvL g X m.toNat ps, ⟨_, adp_nil.2 ⟨0, rfl, rfl, by omega, rfl, rfl, hnow, rfl, rfl⟩⟩, ?_⟩
      rintro w now left tk d τ ⟨k, rfl, rfl, hk, rfl, rfl, hnow, hll, hlf⟩ _
      refine cut_intro fun J46 h46 => cut_intro fun J112 h112 => ?_
      have hsum := hnow.sum
      have k112 : ∀ t, t = decide ((k : Int) < m ∧ 0 < sumI now) → J112 now t τ := by
        rintro t rfl
        rw [h112]
        intro _
        refine bc_d (fun hgo => ?_) (fun hstop => ?_)
        · rw [h46]
          intro _
          refine cut_intro fun J50 h50 => cut_intro fun J59 h59 => ?_
          have ek : m.toNat - k = (m.toNat - (k + 1)) + 1 := by omega
          rw [ek, lvL, if_pos hgo.2] at hlf
          have hnow' := tick_ok hG.s (X := d) hnow
          have k59 : J59 d (tickS g d now) τ := by
            rw [h59]
            intro _
            intro A62 l62 c62 σ63 o62
            refine clI M_ref04_sum_enter (c_sum o62.rd hnow' l2) ?_
            refine adp_own o62 (roomy_i (by show left.length + 1 ≤ _; omega) ?_)
            rw [h50]
            intro _
            refine wk_i (by omega) (bk_of _ (by omega) ⟨k + 1, rfl, rfl, by omega, rfl, rfl, hnow', ?_, ?_⟩)
            · simp; omega
            · rw [← hlf]; simp
          have hfin : ∀ c ∈ lvO g d g.C.length, 0 ≤ c ∧ c < g.C.length := fun c hc => ((lvO_mem _).1 hc).1
          refine ⟨fun w s d' now' τ' => ∃ q : Nat, w = g.C.length - q ∧ s = q ∧ q ≤ g.C.length ∧ d' = d ∧ τ' = τ ∧ NowOK g.C.length now' ∧ now' = (lvO g d q).foldl (goS g d) now, ⟨_, 0, rfl, rfl, by omega, rfl, rfl, hnow, rfl⟩, ?_⟩
          rintro w s d' now' τ' ⟨q, rfl, rfl, hq, rfl, rfl, hnq, hfq⟩ _
          refine bc_d (fun hlt1 => ?_) (fun hlt1 => ?_)
          · refine cut_intro fun J78 h78 => ?_
            refine ⟨fun w c d'' now'' τ'' => ∃ r : Nat, w = g.C.length - r ∧ c = r ∧ r ≤ g.C.length ∧ d'' = d' ∧ τ'' = τ' ∧ NowOK g.C.length now'' ∧ now'' = (nums (fun c => decide (gt d' c = q)) r).foldl (goS g d') now', ⟨_, 0, rfl, rfl, by omega, rfl, rfl, hnq, rfl⟩, ?_⟩
            rintro w c d'' now'' τ'' ⟨r, rfl, rfl, hr, rfl, rfl, hnr, hfr⟩ _
            refine bc_d (fun hlt2 => ?_) (fun hlt2 => ?_)
            · have hrN : (r : Int) < g.C.length := by rw [hol] at hlt2; omega
              refine cut_intro fun J93 h93 => ?_
              have k93 : ∀ n2 : List Int, NowOK g.C.length n2 → n2 = (nums (fun c => decide (gt d'' c = q)) (r + 1)).foldl (goS g d'') now' → J93 d'' n2 τ'' := by
                intro n2 h1 h2
                rw [h93]
                intro _
                exact wk_i (by omega) (bk_of _ (by omega) ⟨r + 1, rfl, rfl, by omega, rfl, rfl, h1, h2⟩)
              rw [nums_succ, List.foldl_append, ← hfr] at k93
              refine ⟨by omega, by omega, lat_I (by omega) (by omega) (bc_d (fun heq => ?_) (fun hne => k93 _ hnr ?_))⟩
              · rw [if_pos (decide_eq_true heq)] at k93
                intro A100 l100 c100 σ101 o100 A102 l102 c102 σ103 o102
                refine cl_of M_ref04_goes_enter (c_goes (c := (r : Int)) (hg.sub o100.sub) hG.s o100.rd hXl hXb (hgt _ (by omega) hrN (by omega)) o102 hnr (by omega) hrN) ?_
                intro v σ105 o2
                obtain ⟨σ1, w1, w2⟩ := o100.swap o2
                exact adp_own w2 (adp_own w1 (k93 _ (goS_ok hG.s hnr (by omega) hrN).1 rfl))
              · rw [if_neg (by simpa using hne)]
                rfl
            · have hrr : r = g.C.length := by rw [hol] at hlt2; omega
              subst hrr
              rw [h78]
              intro _
              have hq2 : q < g.C.length := by rw [hol] at hlt1; omega
              refine wk_i (by omega) (bk_of _ (by omega) ⟨q + 1, rfl, rfl, by omega, rfl, rfl, hnr, ?_⟩)
              rw [hfr, hfq, lvO, List.foldl_append]
          · have hqq : q = g.C.length := by rw [hol] at hlt1; omega
            subst hqq
            rw [hfq]
            exact k59
        · rw [h30]
          intro _
          have e : lvL g d (m.toNat - k) now = [] := by
            rcases Nat.eq_zero_or_pos (m.toNat - k) with e0 | e0
            · rw [e0]; rfl
            · obtain ⟨q, eq⟩ : ∃ q, m.toNat - k = q + 1 := ⟨m.toNat - k - 1, by omega⟩
              rw [eq, lvL, if_neg (by omega)]
          rw [e, List.append_nil] at hlf
          rw [hlf, hlv]
          exact fun A n c σ' ho => rt_of ⟨_, _, _, rfl, ho⟩
      refine bc_d (fun hlt => ?_) (fun hlt => k112 _ ?_)
      · intro A115 l115 c115 σ116 o115
        refine clI M_ref04_sum_enter (c_sum o115.rd hnow l2) (adp_own o115 (k112 _ ?_))
        simp [hlt]
      · simp [hlt]
    refine ⟨fun w i τ => ∃ k : Nat, w = g.C.length - k ∧ i = k ∧ k ≤ g.C.length ∧ τ = σ ∧ badS g (gb o) ps k = false, ⟨_, 0, rfl, rfl, by omega, rfl, rfl⟩, ?_⟩
    rintro w i τ ⟨k, rfl, rfl, hk, rfl, hbk⟩ _
    refine bc_d (fun hlt => ?_) (fun hlt => ?_)
    · have hkN : k < g.C.length := by rw [hol] at hlt; omega
      refine cut_intro fun J129 h129 => cut_intro fun J135 h135 => ?_
      have hsucc := badS_succ (g := g) (op := gb o) (ps := ps) (k := k)
      rw [hbk, Bool.false_or] at hsucc
      have k135 : ∀ t, t = badS g (gb o) ps (k + 1) → J135 t τ := by
        rintro t rfl
        rw [h135]
        intro _
        refine bc_b (fun hb => rt_of ?_) (fun hb => ?_)
        · rw [hlv, if_pos (badS_mono (by omega) hb)]
          exact NewI.nil
        · rw [h129]
          intro _
          exact wk_i (by omega) (bk_of _ (by omega) ⟨k + 1, rfl, rfl, by omega, rfl, hb⟩)
      rw [hsucc] at k135
      refine gixg hps (by omega) (by omega) (l_rw (bc_nd (fun h1 => k135 _ ?_) (fun h1 => gixg hps (by omega) (by omega) (bc_d (fun h2 => ⟨by omega, by omega, lat_b (by omega) (by omega) (k135 _ ?_)⟩) (fun h2 => k135 _ ?_)))))
      · rw [decide_eq_false h1]; rfl
      · rw [decide_eq_true h1, decide_eq_true h2]; rfl
      · rw [decide_eq_true h1, decide_eq_false h2]; rfl
    · have : k = g.C.length := by rw [hol] at hlt; omega
      subst this
      exact k15 hbk
  have k149 : ∀ t, t = !decide (ps.length = g.C.length ∧ (0 ≤ m ∧ m ≤ 500)) → J149 t σ := by
    rintro t rfl
    rw [h149]
    intro _
    refine bc_nd (fun hn => rt_of ?_) (fun hy => k12 hy)
    rw [hlv, if_pos hn]
    exact NewI.nil
  refine bc_nd (fun hne => k149 _ ?_) (fun he => l_rw (k149 _ ?_))
  · rw [hol] at hne
    rw [decide_eq_false (fun q => hne (by omega))]
    rfl
  · rw [hol] at he
    congr 1
    exact decide_eq_decide.2 ⟨fun q => ⟨by omega, q⟩, fun q => q.2⟩
end
end Go.Proofs.Ytmpkiaghkhhlhaa

/- Contracts of layer 4: Leave of the program. No conditions but those that each theorem names. -/
namespace Go.Proofs.Ytmpkiaghkhhlhaa
open Go.RowKit

section
variable {σ : Hp} {x : GV} {g : Gnd} {lA sA pA : Option Addr} {ln lc sn sc pn pc : Nat} {l : List Pit} {st : List Sit} {ps : List Int} {m : Int}
set_option maxRecDepth 4000 in
theorem c_ground_Leave (hg : GRd σ x g) (hl : RdS sP σ lA ln l) (hst : RdS sS σ sA sn st) (hps : RdS [.int .i64] σ pA pn ps) (hN : g.C.length ≤ 64 → g.C.length ≤ 25) :
    FCalls Try.prog N_ground_Leave #[x.v g, .slice lA ln lc, .slice sA sn sc, .slice pA pn pc, .int .i64 m] σ (NewI σ (lvE g l st ps m).1 (lvE g l st ps m).2) := by
  refine M_ground_Leave_ok _ _ _ _ _ _ _ _ _ _ _ _ _ _ _ _ _ _ _ _ ?_
  unfold M_ground_Leave
  have hpn := hps.lenI
  have hcn := hg.c.lenI
  refine cl_of M_ground_newField_enter (c_newField hg hl hst) ?_
  rintro v σ2 (⟨hne, rfl, rfl⟩ | ⟨h, f, V, σ0, rfl, hs0, hfw⟩)
  · refine ⟨_, _, _, rfl, bc_nd (fun _ => rt_of ?_) (fun h => absurd h hne)⟩
    rw [lvE, if_pos hne]
    exact NewI.nil
  refine ⟨_, _, _, rfl, bc_nd (fun h' => absurd h h') (fun _ => ?_)⟩
  obtain ⟨hch, hG, hsl, _, hall⟩ := chkS_ok h
  obtain ⟨l1, l2, l3⟩ := Gnd.okS_len hG.s
  have hN := hN l2
  have hF := fdK_ok (st := st) hch l.length
  obtain ⟨eg, el⟩ := fdK_g (g := g) (l := l) (st := st) l.length
  have hs2 : Hp.Sub σ σ2 := hs0.trans hfw.base
  have hps := hps.sub hs2
  have hfr := hfw.r
  have hb2 : FdB σ2 f V g l := by have := hfr.toFdB; rw [eg, el] at this; exact this
  have hfree := fun c => free_opn (c := c) h
  have hfar := c_far (b := -1) hfr hF (gate_free h)
  have e : farS g (fun c => gb (g.opn l st) c && decide (c ≠ -1)) = farS g (gb (g.opn l st)) := farS_congr hG.s fun c h0 h1 => by
    rw [decide_eq_true (show c ≠ -1 by omega), Bool.and_true]
  rw [far_fdK h, e] at hfar
  have hNC : (fdK g l st l.length).g.C.length = g.C.length := by rw [eg]
  have hlv : lvE g l st ps m = if ¬ (ps.length = g.C.length ∧ (0 ≤ m ∧ m ≤ 500)) then ([], 1) else if badS g (gb (g.opn l st)) ps g.C.length = true then ([], 1) else (lvL g (farS g (gb (g.opn l st))) m.toNat ps, 0) := by rw [lvE, if_neg (by simp [h])]
  have hlab := farS_lab (op := gb (g.opn l st)) hG.s
  have hlt := lab_lt hG.s hlab.pre
  have hXb : ∀ a : Int, 0 ≤ a → a < g.C.length → -1 ≤ gt (farS g (gb (g.opn l st))) a ∧ gt (farS g (gb (g.opn l st))) a ≤ 65536 := fun a a0 a1 => ⟨hlab.lo a a0 a1, by have := hlt a a0 a1; omega⟩
  have hXl := farS_len (g := g) (op := gb (g.opn l st))
  generalize farS g (gb (g.opn l st)) = X at *
  generalize gb (g.opn l st) = op at *
  generalize fdK g l st l.length = F at *
  have hNil : ∀ {τ : Hp}, Hp.Sub σ τ → lvE g l st ps m = ([], 1) → rt τ (NewI σ (lvE g l st ps m).1 (lvE g l st ps m).2) (.tuple #[.slice none 0 0, .int .i64 1]) := by
    intro τ hs e
    rw [e]
    exact rt_sub hs NewI.nil
  refine cut_intro fun J8 h8 => cut_intro fun J166 h166 => ?_
  have k8 : (ps.length = g.C.length ∧ (0 ≤ m ∧ m ≤ 500)) → J8 none 0 0 σ2 := by
    rintro ⟨hpl, hm⟩
    rw [if_neg (by simp [hpl, hm])] at hlv
    rw [h8]
    intro _
    refine cut_intro fun J12 h12 => ?_
    have k12 : badS g op ps g.C.length = false → J12 none 0 0 (sumI ps) σ2 := by
      intro hbad
      rw [hbad, if_neg (by simp)] at hlv
      have hnow := badS_now hpl hbad
      rw [h12]
      intro _
      refine cl_of M_ground_field_far_enter hfar ?_
      rintro v σ16 ⟨A17, l17, c17, rfl, o17⟩
      refine ⟨_, _, _, rfl, ?_⟩
      intro b18 n18
      have e18 := Hp.Sub.ins (.cells #[.slice A17 l17 c17] 22) n18
      have x18 : Bx1 (σ16.ins b18 (.cells #[.slice A17 l17 c17] 22)) (some ⟨b18, 0, none⟩) (.slice A17 l17 c17) := Bx1.ins
      have hX19 : RdS [.int .i64] (σ16.ins b18 (.cells #[.slice A17 l17 c17] 22)) A17 l17 X := RdS.sub (show RdS [.int .i64] σ16 A17 l17 X from o17.rd) e18
      have hs19 : Hp.Sub σ2 (σ16.ins b18 (.cells #[.slice A17 l17 c17] 22)) := o17.sub.trans e18
      generalize (σ16.ins b18 (.cells #[.slice A17 l17 c17] 22)) = σ19 at *
      refine cl_of M_ground_field_some_enter (c_some (p := fun c => decide (0 ≤ gt X c)) (hb2.sub hs19) (by omega) (DecU.of M_ground_Leave_1_enter fun σ' hs c c0 c1 => ?_)) ?_
      · exact c_Leave_1 (x18.sub hs) (hX19.sub hs) c0 (by omega)
      rintro v σ21 ⟨A22, l22, c22, rfl, o22⟩
      refine ⟨_, _, _, rfl, ?_⟩
      have hnl := nums_len (p := fun c => decide (0 ≤ gt X c)) (k := g.C.length)
      have hPn : AllI (fun a => 0 ≤ a ∧ a < g.C.length) (nums (fun c => decide (0 ≤ gt X c)) g.C.length) := by
        intro i hi
        exact (mem_nums.1 (gt_mem hi)).1
      have hcmp : CmpI (.func (.func N_ground_Leave_2) #[] #[.pointer (some ⟨b18, 0, none⟩)]) (fun a b => gt X a - gt X b) (fun a => 0 ≤ a ∧ a < g.C.length) σ19 := by
        intro τ hs a b ha hb K hK
        exact FFun.func M_ground_Leave_2_enter ((c_Leave_2 (x18.sub hs) (hX19.sub hs) ha.1 (by omega) hb.1 (by omega) ⟨hXb a ha.1 ha.2, hXb b hb.1 hb.2⟩).mono fun _ _ ⟨e1, e2⟩ => by subst e1; subst e2; exact ⟨_, rfl, hK⟩)
      refine cl_of M_slices_SortStableFunc_int_enter (c_SortStable2 (kf := fun c => gt X c) hcmp (fun a b _ _ => by show gt X a - gt X b < 0 ↔ gt X a < gt X b; omega) o22 (by show (nums _ _).length < 40; omega) nums_asc hPn) ?_
      rintro v σ24 ⟨Y, hYl, ⟨hY1, hY2, hY3⟩, o24⟩
      have hYeq : Y = lvO g X g.C.length := sort_lvO hlt hYl hY2 hY3
      subst hYeq
      have hOl : (lvO g X g.C.length).length ≤ 64 := by
        have : (lvO g X g.C.length).length = (nums (fun c => decide (0 ≤ gt X c)) g.C.length).length := hYl
        omega
      have hOin : ∀ c ∈ lvO g X g.C.length, (0 ≤ c ∧ c < g.C.length) ∧ 0 ≤ gt X c ∧ gt X c < g.C.length := fun c hc => (lvO_mem _).1 hc
      have rO : RdS [.int .i64] σ24 A22 l22 (lvO g X g.C.length) := o24.rd
      have hs24 : Hp.Sub σ2 σ24 := hs19.trans o24.sub
      have x24 := x18.sub o24.sub
      have hX24 := hX19.sub o24.sub
      have htick : ∀ now, tickS g X now = (lvO g X g.C.length).foldl (goS g X) now := fun now => rfl
      have htok : ∀ now, NowOK g.C.length now → NowOK g.C.length (tickS g X now) := fun now h => tick_ok hG.s h
      refine cl_of M_slices_Clone_int_enter (c_Clone (hps.sub hs24) (by omega) (by omega)) ?_
      rintro v σ26 ⟨A27, l27, c27, rfl, o27⟩
      refine ⟨_, _, _, rfl, cut_intro fun J30 h30 => ?_⟩
      generalize hO : lvO g X g.C.length = O at *
      have hOn := rO.lenI
      refine ⟨fun w A l' c' people p τ => ∃ (k : Nat) (now left : List Int) (σB σN : Hp), w = m.toNat - k ∧ k ≤ m.toNat ∧ Hp.Sub σ24 σB ∧ Bx1 σB p (.slice A27 l27 c27) ∧ OwnSl 3 [.int .i64] σB A27 l27 c27 now σN ∧ OwnSl 3 [.int .i64] σN A l' c' left τ ∧ left.length = k ∧ people = sumI now ∧ NowOK g.C.length now ∧ left ++ lvL g X (m.toNat - k) now = lvL g X m.toNat ps, ⟨m.toNat, ?_⟩, ?_⟩
      · intro b36 n36
        have n24 := o27.sub.none n36
        exact ⟨0, ps, [], _, _, rfl, by omega, Hp.Sub.ins _ n24, Bx1.ins, o27.ins_base n36 _, OwnSl.nil .., rfl, rfl, hnow, rfl⟩
      rintro w A l' c' people p τ ⟨k, now, left, σB, σN, rfl, hk, hsB, hp, o1, o2, hll, rfl, hnow, hlf⟩ _
      have hl' : l' = k := by rw [← hll]; exact o2.len
      have hsum := hnow.sum
      refine cut_intro fun J43 h43 => cut_intro fun J129 h129 => ?_
      have k129 : ∀ t, t = decide ((k : Int) < m ∧ 0 < sumI now) → J129 t τ := by
        rintro t rfl
        rw [h129]
        intro _
        refine bc_d (fun hgo => ?_) (fun hstop => ?_)
        · rw [h43]
          intro _
          refine cut_intro fun J46 h46 => ?_
          have ek : m.toNat - k = (m.toNat - (k + 1)) + 1 := by omega
          rw [ek, lvL, if_pos hgo.2] at hlf
          obtain ⟨σC, u1, u2⟩ := o1.swap o2
          have hsC : Hp.Sub σ24 σC := hsB.trans u1.sub
          have hpC := hp.sub u1.sub
          have k46 : ∀ τ', OwnSl 3 [.int .i64] σC A27 l27 c27 (tickS g X now) τ' → J46 (sumI (tickS g X now)) τ' := by
            intro τ' ho
            rw [h46]
            intro _
            obtain ⟨σN', w1, w2⟩ := u1.swap ho
            refine adp_own w2 (roomy_i (by show left.length + 1 ≤ _; omega) (bk_of (m.toNat - (k + 1)) (by omega) ?_))
            intro A52 l52 c52 σ53 o53
            refine ⟨k + 1, tickS g X now, left ++ [sumI (tickS g X now)], σB, σN', rfl, by omega, hsB, hp, w1, o53, ?_, rfl, htok now hnow, ?_⟩
            · simp; omega
            · rw [← hlf]; simp
          rw [htick] at k46
          refine ⟨fun w pe i τ' => ∃ (q : Nat) (now' : List Int), w = O.length - q ∧ i = q ∧ q ≤ O.length ∧ NowOK g.C.length now' ∧ pe = sumI now' ∧ now' = (O.take q).foldl (goS g X) now ∧ OwnSl 3 [.int .i64] σC A27 l27 c27 now' τ', ⟨_, 0, now, rfl, rfl, by omega, hnow, rfl, rfl, u2⟩, ?_⟩
          rintro w pe i τ' ⟨q, now', rfl, rfl, hq, hnq, rfl, hfq, ho⟩ _
          refine bc_d (fun hlt1 => ?_) (fun hlt1 => ?_)
          · have hqO : q < O.length := by omega
            have hcm := gt_mem hqO
            obtain ⟨hcr, hcx, _⟩ := hOin _ hcm
            have hsτ := hsC.trans ho.sub
            have hnl' := hnq.1
            have hcv := hnq.2 _ hcr.1 hcr.2
            have hsq := hnq.sum
            refine cut_intro fun J62 h62 => ?_
            obtain ⟨hgo1, hgo2⟩ := goS_ok hG.s (X := X) hnq hcr.1 hcr.2
            have k62 : ∀ (pe : Int) (τ2 σ3 : Hp), pe = sumI (goS g X now' (gt O q)) → OwnSl 3 [.int .i64] σC A27 l27 c27 (goS g X now' (gt O q)) σ3 → Hp.Sub σ3 τ2 → J62 pe τ2 := by
              rintro pe τ2 σ3 rfl h1 h2
              rw [h62]
              intro _
              refine wk_i (by omega) (bk_sub _ (by omega) h2 ⟨q + 1, _, rfl, rfl, by omega, hgo1, rfl, ?_, h1⟩)
              rw [take_fold hqO, ← hfq, gt_nat hqO]
            refine gixg (rO.sub hsτ) (by omega) (by omega) ?_
            have eg0 : goS g X now' (gt O q) = if gt now' (gt O q) = 0 then now' else if gt X (gt O q) = 0 then now'.set (gt O q).toNat (gt now' (gt O q) - 1) else if 0 ≤ fidx (nearP X now' (gt O q)) (g.nbr (gt O q)) then (now'.set (gt O q).toNat (gt now' (gt O q) - 1)).set (gt (g.nbr (gt O q)) (fidx (nearP X now' (gt O q)) (g.nbr (gt O q)))).toNat (gt now' (gt (g.nbr (gt O q)) (fidx (nearP X now' (gt O q)) (g.nbr (gt O q)))) + 1) else now' := rfl
            have hnr : RdS [.int .i64] τ' A27 l27 now' := ho.rd
            generalize gt O q = c at *
            refine (hpC.sub ho.sub).ldS (gixg hnr hcr.1 (by omega) (bc_d (fun e0 => k62 _ _ τ' ?_ ?_ (Hp.Sub.refl _)) (fun e0 => ?_)))
            · rw [eg0, if_pos e0]
            · rw [eg0, if_pos e0]; exact ho
            rw [if_neg e0] at eg0
            obtain ⟨bb, hbb, hcell⟩ := x24.sub hsτ
            cases hbb
            refine ldS_of hcell (gixg (hX24.sub hsτ) hcr.1 (by omega) (bc_d (fun e1 => ?_) (fun e1 => ?_)))
            · rw [if_pos e1] at eg0
              refine (hpC.sub ho.sub).ldS (gixg hnr hcr.1 (by omega) (wk_i (by omega) ?_))
              refine ho.ix_stI (Hp.Sub.refl _) hcr.1 (by omega) fun σ3 τ3 ho3 hs3 => wk_i (by omega) (k62 _ _ σ3 ?_ ?_ hs3)
              · rw [hgo2, if_pos ⟨e0, e1⟩]
              · rw [eg0]; exact ho3
            rw [if_neg e1] at eg0
            rw [if_neg (fun q => e1 q.2)] at hgo2
            refine clL M_ground_field_beside_enter (c_field_beside (hb2.sub (hs24.trans hsτ)) hG.s hcr.1 hcr.2) ?_
            have hnbl := nbr_len (g := g) (c := c)
            have hnin := nbr_in hG.s hcr.1 hcr.2
            intro b96 n96
            have e96 := Hp.Sub.ins (.cells #[.int .i64 c] 3) n96
            have x96 : Bx1 (τ'.ins b96 (.cells #[.int .i64 c] 3)) (some ⟨b96, 0, none⟩) (.int .i64 c) := Bx1.ins
            generalize (τ'.ins b96 (.cells #[.int .i64 c] 3)) = σ97 at *
            intro A98 l98 c98 σ99 o98
            have hs99 := e96.trans o98.sub
            refine clI M_slices_IndexFunc_int_enter (c_IndexFunc_int (p := nearP X now' c) o98.rd (by show (g.nbr c).length ≤ _; omega) (Dec.of M_ground_Leave_3_enter fun k' hk' => ?_)) ?_
            · obtain ⟨k0, k1⟩ := hnin k' hk'
              exact c_Leave_3 (x24.sub (hsτ.trans hs99)) (x96.sub o98.sub) ((hpC.sub ho.sub).sub hs99) (hX24.sub (hsτ.trans hs99)) (hnr.sub hs99) (by omega) hcr.1 (by omega) k0 (by omega) (hXb c hcr.1 hcr.2)
            refine adp_own o98 (bc_d (fun hi => ?_) (fun hi => ?_))
            · obtain ⟨k', hk', ek', hp', _⟩ := fidx_spec hi
              rw [if_pos hi] at eg0
              have hks := fidx_spec hi
              have hkr := hnin _ (gt_mem hk')
              rw [← ek'] at hkr hp'
              have hkl : fidx (nearP X now' c) (g.nbr c) < (g.nbr c).length := by omega
              generalize fidx (nearP X now' c) (g.nbr c) = ix' at *
              unfold nearP at hp'
              simp only [Bool.and_eq_true, decide_eq_true_eq] at hp'
              have hne : gt (g.nbr c) ix' ≠ c := fun e => by rw [e] at hp'; omega
              have hkv := hnq.2 _ hkr.1 hkr.2
              refine ((hpC.sub ho.sub).sub e96).ldS ?_
              obtain ⟨bc', hbc', hcell'⟩ := x96
              cases hbc'
              refine ldI_of hcell' (gixg (hnr.sub e96) hcr.1 (by omega) (wk_i (by omega) ?_))
              refine ho.ix_stI e96 hcr.1 (by omega) fun σ3 τ3 ho3 hs3 => ?_
              have hv : gt (now'.set c.toNat (gt now' c - 1)) (gt (g.nbr c) ix') = gt now' (gt (g.nbr c) ix') := by
                rw [gt_set hcr.1 hkr.1 (by omega), if_neg hne]
              have hnr3 : RdS [.int .i64] τ3 A27 l27 (now'.set c.toNat (gt now' c - 1)) := ho3.rd.sub hs3
              refine (hpC.sub (ho3.sub.trans hs3)).ldS ⟨by omega, by omega, lat_I (by omega) (by omega) (gixg hnr3 hkr.1 (by simp; omega) ?_)⟩
              rw [hv]
              refine wk_i (by omega) ?_
              refine ho3.ix_stI hs3 hkr.1 (by simp; omega) fun σ4 τ4 ho4 hs4 => k62 _ _ σ4 (by rw [hgo2]; omega) ?_ hs4
              rw [eg0]
              exact ho4
            · rw [if_neg hi] at eg0
              refine k62 _ _ τ' (by rw [hgo2]; omega) ?_ e96
              rw [eg0]
              exact ho
          · have hqq : q = O.length := by omega
            subst hqq
            rw [List.take_length] at hfq
            rw [← hfq] at k46
            exact k46 τ' ho
        · rw [h30]
          intro _
          have e : lvL g X (m.toNat - k) now = [] := by
            rcases Nat.eq_zero_or_pos (m.toNat - k) with e0 | e0
            · rw [e0]; rfl
            · obtain ⟨q, eq⟩ : ∃ q, m.toNat - k = q + 1 := ⟨m.toNat - k - 1, by omega⟩
              rw [eq, lvL, if_neg (by omega)]
          rw [e, List.append_nil] at hlf
          rw [hlf] at o2
          rw [hlv]
          exact NewI.base (hs2.trans (hs24.trans (hsB.trans o1.sub))) o2 fun _ _ h => h
      exact bc_d (fun hlt => k129 _ (by rw [hl'] at hlt; simp [hlt])) (fun hlt => k129 _ (by rw [hl'] at hlt; simp [hlt]))
    refine ⟨fun w A l' c' people i τ => ∃ k : Nat, w = g.C.length - k ∧ A = none ∧ l' = 0 ∧ c' = 0 ∧ people = sumI (ps.take k) ∧ i = k ∧ k ≤ g.C.length ∧ τ = σ2 ∧ badS g op ps k = false ∧ (0 ≤ people ∧ people ≤ 20 * k), ⟨_, 0, rfl, rfl, rfl, rfl, rfl, rfl, by omega, rfl, rfl, by simp⟩, ?_⟩
    rintro w A l' c' people i τ ⟨k, rfl, rfl, rfl, rfl, rfl, rfl, hk, rfl, hbk, hpb⟩ _
    refine bc_d (fun hlt1 => ?_) (fun hlt1 => ?_)
    · have hkN : k < g.C.length := by omega
      have hsucc := badS_succ (g := g) (op := op) (ps := ps) (k := k)
      rw [hbk, Bool.false_or] at hsucc
      refine cut_intro fun J140 h140 => ?_
      refine gixg hps (by omega) (by omega) (cut_intro fun J151 h151 => cut_intro fun J156 h156 => ?_)
      have k156 : ∀ t, t = badS g op ps (k + 1) → J156 t τ := by
        rintro t rfl
        rw [h156]
        intro _
        refine bc_b (fun hb => hNil hs2 ?_) (fun hb => ?_)
        · rw [hlv, if_pos (badS_mono (by omega) hb)]
        · have hb' := hb
          rw [hsucc, Bool.or_eq_false_iff] at hb'
          have hpk : 0 ≤ gt ps k ∧ gt ps k ≤ 20 := by simpa using hb'.1
          rw [h151]
          intro _
          refine wk_i (by omega) ?_
          rw [h140]
          intro _
          refine wk_i (by omega) (bk_of _ (by omega) ⟨k + 1, rfl, rfl, rfl, rfl, by rw [sumI_take (by omega)], rfl, by omega, rfl, hb, by omega⟩)
      rw [hsucc] at k156
      refine l_gw (bc_nd (fun h1 => k156 _ ?_) (fun h1 => bc_d (fun h2 => clB M_ground_field_free_enter (c_field_free hfr hF (by omega) (by omega)) (k156 _ ?_)) (fun h2 => k156 _ ?_)))
      · rw [decide_eq_false h1]; rfl
      · rw [decide_eq_true h1, decide_eq_true h2, hfree k (by omega) (by omega)]; rfl
      · rw [decide_eq_true h1, decide_eq_false h2]; rfl
    · have : k = g.C.length := by omega
      subst this
      have hk := k12 hbk
      rw [← List.take_length (l := ps), hpl] at hk
      exact hk
  have k166 : ∀ t, t = !decide (ps.length = g.C.length ∧ (0 ≤ m ∧ m ≤ 500)) → J166 t σ2 := by
    rintro t rfl
    rw [h166]
    intro _
    refine bc_nd (fun hn => hNil hs2 ?_) (fun hy => k8 hy)
    rw [hlv, if_pos hn]
  refine bc_nd (fun hne => k166 _ ?_) (fun he => l_gw (k166 _ ?_))
  · rw [decide_eq_false (fun q => hne (by omega))]
    rfl
  · congr 1
    exact decide_eq_decide.2 ⟨fun q => ⟨by omega, q⟩, fun q => q.2⟩
end
end Go.Proofs.Ytmpkiaghkhhlhaa

/- J, part 3: arguments of the laws of layer 4 with a crowd, or a way, opened. -/
namespace Go.Proofs.Ytmpkiaghkhhlhaa
open Go.RowKit Go.ChangeShapes Go.WideShapes Go.Deep Go.Joins

section
variable {H : Type} {enc : TypeId × Value → H} {W : World} {sp : Nat → Bool} {hd : Bool}
set_option maxRecDepth 100000 in
theorem open_run {v : Value} {d : DataW H} {p : List MemPlace} {b0 : Nat} (hv : Value.okWide Try.prog W .any b0 37 v) (h : DataW.Trod enc Try.prog W 0 sp hd 37 v d p) : ∃ A n c xs A' n' c' ws, v = .agg #[.slice A n c, .slice A' n' c'] ∧ n ≤ c ∧ RdS sS (whole W) A n xs ∧ RdS [.int .i64] (whole W) A' n' ws := by
  obtain ⟨v0, v1, y0, y1, n, rfl, _, _, h0, h1⟩ := open_agg2 Try.underlying37 (by kernel_rfl) (by kernel_rfl) hv h
  obtain ⟨A, n, c, xs, rfl, hn, hr⟩ := open_sits1 h0
  obtain ⟨A', n', c', ws, rfl, _, hw⟩ := open_ints1 h1
  exact ⟨A, n, c, xs, A', n', c', ws, rfl, hn, hr, hw⟩
set_option maxRecDepth 100000 in
theorem open_crowd {v : Value} {d : DataW H} {p : List MemPlace} {b0 : Nat} (hv : Value.okWide Try.prog W .any b0 62 v) (h : DataW.Trod enc Try.prog W 0 sp hd 62 v d p) : ∃ A n c xs A' n' c' ps m, v = .agg #[.slice A n c, .slice A' n' c', .int .i64 m] ∧ n ≤ c ∧ RdS sS (whole W) A n xs ∧ RdS [.int .i64] (whole W) A' n' ps := by
  obtain ⟨v0, v1, v2, y0, y1, y2, n, rfl, _, _, h0, h1, h2⟩ := open_agg3 Try.underlying62 (by kernel_rfl) (by kernel_rfl) hv h
  obtain ⟨A, n, c, xs, rfl, hn, hr⟩ := open_sits1 h0
  obtain ⟨A', n', c', ps, rfl, _, hw⟩ := open_ints1 h1
  obtain ⟨m, e2, _⟩ := DataW.trod_int Try.underlying3 h2
  cases e2
  exact ⟨A, n, c, xs, A', n', c', ps, m, rfl, hn, hr, hw⟩
end
end Go.Proofs.Ytmpkiaghkhhlhaa

