/- Texts Ga13 Ga14 Ga15 Ga16 Ga17 Ga18 Ga19 Ja1 Ja2 Ja3: what the claims of this seat rest on; each text says what it proves. -/
import Derived.Test.YtmpkiaghkhhlhaaB13
import Derived.Test.YtmpkiaghkhhlhaaB12
import Derived.Test.YtmpkiaghkhhlhaaB11
import Derived.ProofKit
import Derived.Deep.Slices
import Derived.Deep.Fields
import Derived.Lib.SmallJoins
import Derived.ChangeSame

/- Contracts of layer 4: Cable of the reference. No conditions but those that each theorem names. -/
namespace Go.Proofs.Ytmpkiaghkhhlhaa
open Go.RowKit

theorem rlx_neg {g : Gnd} {op : Int → Bool} {c k : Int} {X : List Int} (h : gt X k < 0) : rlx g op c X k = X := if_pos (.inl h)
theorem rlx_pos {g : Gnd} {op : Int → Bool} {c k : Int} {X : List Int} (h : 0 ≤ gt X k) (ho : op k = true) : rlx g op c X k = if gt X c < 0 ∨ gt X k + g.stp c k + g.drn c < gt X c then X.set c.toNat (gt X k + g.stp c k + g.drn c) else X := if_neg (by rw [ho]; rintro (h' | h') <;> first | omega | cases h')
/-- what Cable hands back -/
def cabS (g : Gnd) (l : List Pit) (st : List Sit) (a b : Int) : List Int × Int × Int :=
  if (chkS g l st).2 ≠ 0 then ([], 0, (chkS g l st).2)
  else if ¬ ((0 ≤ a ∧ a ≤ (g.C.length : Int) - 1) ∧ (0 ≤ b ∧ b ≤ (g.C.length : Int) - 1) ∧ gb (g.opn l st) a = true ∧ gb (g.opn l st) b = true) then ([], 0, 1)
  else if gt (rnds g (gb (g.opn l st)) g.C.length (ini g b)) a < 0 then ([], 0, 3)
  else (wayF g (gb (g.opn l st)) (rnds g (gb (g.opn l st)) g.C.length (ini g b)) b 7000 a, gt (rnds g (gb (g.opn l st)) g.C.length (ini g b)) a, 0)
theorem chkS_ok {g : Gnd} {l : List Pit} {st : List Sit} (h : (chkS g l st).2 = 0) : (chkP g l).2 = 0 ∧ Good g l ∧ st.length = l.length ∧ chkS g l st = (0, 0) ∧ ∀ k, k < l.length → g.siteOK l st k = true := by
  unfold chkS at h ⊢
  by_cases e : (chkP g l).2 ≠ 0
  · rw [if_pos e] at h; exact absurd h e
  · rw [if_neg e] at h ⊢
    have e' : (chkP g l).2 = 0 := by simpa using e
    obtain ⟨q1, q2, q3, _⟩ := chkP_ok e'
    by_cases e2 : st.length ≠ l.length
    · rw [if_pos e2] at h; simp at h
    · rw [if_neg e2] at h ⊢
      by_cases e3 : 0 ≤ fidx (fun k => !g.siteOK l st k) (List.range l.length)
      · rw [if_pos e3] at h; simp at h
      · rw [if_neg e3]
        refine ⟨e', ⟨q1, q3, q2⟩, by omega, rfl, fun k hk => ?_⟩
        have := fidx_any (p := fun k => !g.siteOK l st k) (xs := List.range l.length)
        rw [decide_eq_false e3] at this
        have := List.any_eq_false.1 this.symm k (List.mem_range.2 hk)
        simpa using this
def NewLII (σ : Hp) (xs : List Int) (a b : Int) : Value → Hp → Prop := fun v σ' => ∃ A n c, v = .tuple #[.slice A n c, .int .i64 a, .int .i64 b] ∧ OwnSl 3 [.int .i64] σ A n c xs σ'
theorem take_fold {α β : Type} {f : β → α → β} {b : β} {xs : List α} {k : Nat} (h : k < xs.length) : (xs.take (k + 1)).foldl f b = f ((xs.take k).foldl f b) xs[k] := by
  rw [List.take_succ_eq_append_getElem h, List.foldl_append]
  rfl
theorem fillK {N k : Nat} {a z : Int} (h : k < N) : (List.replicate k a ++ List.replicate (N - k) z).set k a = List.replicate (k + 1) a ++ List.replicate (N - (k + 1)) z := by
  rw [List.set_append_right _ _ (by simp)]
  have e : List.replicate (N - k) z = z :: List.replicate (N - (k + 1)) z := by
    rw [← List.replicate_succ]
    congr 1
    omega
  rw [e]
  simp only [List.length_replicate, Nat.sub_self, List.set_cons_zero]
  rw [List.replicate_succ' , List.append_assoc]
  rfl
theorem mem2 {a b : Int} {N : Nat} (h : 0 ≤ a ∧ a < N) (h' : 0 ≤ b ∧ b < N) : ∀ x ∈ [a, b], 0 ≤ x ∧ x < N := by
  intro x hx
  simp only [List.mem_cons, List.not_mem_nil, or_false] at hx
  rcases hx with rfl | rfl <;> assumption
theorem mem1 {a : Int} {N : Nat} (h : 0 ≤ a ∧ a < N) : ∀ x ∈ [a], 0 ≤ x ∧ x < N := by
  intro x hx
  simp only [List.mem_cons, List.not_mem_nil, or_false] at hx
  rcases hx with rfl
  assumption
/-- the cost of a step, as the document has it: of two cells, less that of the second -/
theorem l_cost2 {σ : Hp} {x : GV} {g : Gnd} {a b v : Int} {K : Int → Hp → Prop} (hg : GRd σ x g) (hok : g.ok = true) (ha : 0 ≤ a ∧ a < g.C.length) (hb : 0 ≤ b ∧ b < g.C.length) (hv : 0 ≤ v ∧ v ≤ 100000) (h : ∀ σ', Hp.Sub σ σ' → K (v + g.stp a b + g.drn a) σ') :
    exl 3 [.int .i64] ([a, b] : List Int) σ fun A1 l1 c1 σ1 => cl Try.prog (.func (.func N_ref04_Cost) #[] #[]) #[x.v g, .slice A1 l1 c1] σ1 fun v1 σ2 => ∃ n1 : Int, (v1 = .int .i64 n1 ∧ (Hp.Sub σ1 σ2 ∧ wk .i64 (v + n1) fun n2 => exl 3 [.int .i64] ([b] : List Int) σ2 fun A3 l3 c3 σ3 =>
      cl Try.prog (.func (.func N_ref04_Cost) #[] #[]) #[x.v g, .slice A3 l3 c3] σ3 fun v4 σ4 => ∃ n5 : Int, (v4 = .int .i64 n5 ∧ (Hp.Sub σ3 σ4 ∧ wk .i64 (n2 - n5) fun n6 => K n6 σ4)))) := by
  intro A1 l1 c1 σ1 o1
  have s1 := stp_in hok (a := a) (b := b)
  have s2 := drn_in (g := g) (c := a)
  have s3 := drn_in (g := g) (c := b)
  refine clIs M_ref04_Cost_enter (c_Cost (hg.sub o1.sub) hok o1.rd (mem2 ha hb) (by simp)) ?_
  have e1 : g.costK [a, b] ([a, b] : List Int).length = g.drn a + g.drn b + g.stp a b := cost2
  rw [e1]
  refine wk_i (by omega) ?_
  intro A3 l3 c3 σ3 o3
  refine clIs M_ref04_Cost_enter (c_Cost (hg.sub (o1.sub.trans o3.sub)) hok o3.rd (mem1 hb) (by simp)) ?_
  have e2 : g.costK [b] ([b] : List Int).length = g.drn b := cost1
  rw [e2]
  refine wk_i (by omega) ?_
  have e3 : v + (g.drn a + g.drn b + g.stp a b) - g.drn b = v + g.stp a b + g.drn a := by omega
  rw [e3]
  exact h _ (o1.sub.trans o3.sub)
theorem wayF_ge {g : Gnd} {op : Int → Bool} {X : List Int} {to c : Int} : ∀ n, ∃ t, wayF g op X to n c = c :: t
  | 0 => ⟨_, rfl⟩
  | n + 1 => by
    unfold wayF
    split
    · exact ⟨_, rfl⟩
    · exact ⟨_, rfl⟩
theorem rnds_bd {g : Gnd} {op : Int → Bool} {to : Int} {X : List Int} (hok : g.ok = true) (t0 : 0 ≤ to) (hX : CInv g op to X) (hb : Bd g X) : ∀ n, Bd g (rnds g op n X)
  | 0 => hb
  | n + 1 => (rndK_ind (P := fun Z => CInv g op to Z ∧ Bd g Z) ⟨rnds_inv hok t0 hX n, rnds_bd hok t0 hX hb n⟩ g.C.length fun _ _ _ hc ⟨z1, z2⟩ hop hk => ⟨rlx_is.inv hok z1 (by omega) (by omega) t0 hop hk, rlx_is.bd hok z1 (by omega) (by omega) z2⟩).2
theorem Phi_rnd {g : Gnd} {op : Int → Bool} {to : Int} {X : List Int} (hok : g.ok = true) (t0 : 0 ≤ to) (hX : CInv g op to X) (hb : Bd g X) : rnd g op X = X ∨ Phi g (rnd g op X) < Phi g X := by
  refine (rndK_ind (P := fun Z => (CInv g op to Z ∧ Bd g Z) ∧ (Z = X ∨ Phi g Z < Phi g X)) ⟨⟨hX, hb⟩, .inl rfl⟩ g.C.length ?_).2
  rintro c Z k hc ⟨⟨z1, z2⟩, z3⟩ hop hk
  refine ⟨⟨rlx_is.inv hok z1 (by omega) (by omega) t0 hop hk, rlx_is.bd hok z1 (by omega) (by omega) z2⟩, ?_⟩
  have hr := rlx_is (g := g) (op := op) (c := c) (X := Z) (k := k)
  generalize rlx g op c Z k = W at *
  cases hr with
  | same _ => exact z3
  | set p q d =>
    have := Phi_set hok z1 (by omega) (by omega) z2 p q d
    rcases z3 with rfl | z3
    · exact .inr this
    · exact .inr (by omega)
theorem rnds_fix {g : Gnd} {op : Int → Bool} {to : Int} {X : List Int} (hok : g.ok = true) (t0 : 0 ≤ to) (hX : CInv g op to X) (hb : Bd g X) : Fix g op (rnds g op g.C.length X) := by
  have : ∀ m n, Phi g (rnds g op n X) ≤ m → ∃ r, rnd g op (rnds g op r X) = rnds g op r X := by
    intro m
    induction m with
    | zero =>
      intro n h
      rcases Phi_rnd hok t0 (rnds_inv hok t0 hX n) (rnds_bd hok t0 hX hb n) with h2 | h2
      · exact ⟨n, h2⟩
      · omega
    | succ m ih =>
      intro n h
      rcases Phi_rnd hok t0 (rnds_inv hok t0 hX n) (rnds_bd hok t0 hX hb n) with h2 | h2
      · exact ⟨n, h2⟩
      · exact ih (n + 1) (by simp only [rnds]; omega)
  obtain ⟨r, h⟩ := this _ 0 (Nat.le_refl _)
  rw [rnds_conv hok t0 hX h]
  exact fix_of_rnd hok t0 (rnds_inv hok t0 hX r) h
theorem c_ref04_Cable {σ : Hp} {x : GV} {g : Gnd} {lA sA : Option Addr} {ln lc sn sc : Nat} {l : List Pit} {st : List Sit} {a b : Int} (hg : GRd σ x g) (hl : RdS sP σ lA ln l) (hst : RdS sS σ sA sn st) (hsc : sn ≤ sc) :
    FCalls Try.prog N_ref04_Cable #[x.v g, .slice lA ln lc, .slice sA sn sc, .int .i64 a, .int .i64 b] σ (NewLII σ (cabS g l st a b).1 (cabS g l st a b).2.1 (cabS g l st a b).2.2) := by
  refine M_ref04_Cable_ok _ _ _ _ _ _ _ _ _ _ _ _ _ _ _ _ _ _ ?_
  unfold M_ref04_Cable
  refine clII M_ref04_Check_enter (c_ref04_Check hg hl hst hsc) ?_
  refine bc_nd (fun h => rt_of ⟨none, 0, 0, ?_, ?_⟩) (fun h => ?_)
  · rw [cabS, if_pos h]
  · rw [cabS, if_pos h]; exact OwnSl.nil ..
  obtain ⟨hchk, hG, hlen, _, _⟩ := chkS_ok h
  have hok := hG.ok
  have ho := hG.s
  obtain ⟨l1, l2, l3⟩ := Gnd.okS_len ho
  refine clL M_ref04_Open_enter (c_Open hg hG hl hst (by omega)) ?_
  have hol := opn_len (g := g) (l := l) (st := st)
  have ecab : cabS g l st a b = if ¬ ((0 ≤ a ∧ a ≤ (g.C.length : Int) - 1) ∧ (0 ≤ b ∧ b ≤ (g.C.length : Int) - 1) ∧ gb (g.opn l st) a = true ∧ gb (g.opn l st) b = true) then ([], 0, 1)
      else if gt (rnds g (gb (g.opn l st)) g.C.length (ini g b)) a < 0 then ([], 0, 3)
      else (wayF g (gb (g.opn l st)) (rnds g (gb (g.opn l st)) g.C.length (ini g b)) b 7000 a, gt (rnds g (gb (g.opn l st)) g.C.length (ini g b)) a, 0) := by rw [cabS, if_neg (by simp [h])]
  rw [ecab]
  show cut _ _
  generalize hop : g.opn l st = ol at *
  refine cut_intro fun J12 h12 => cut_intro fun J230 h230 => ?_
  have k12 : ((0 ≤ a ∧ a ≤ (g.C.length : Int) - 1) ∧ (0 ≤ b ∧ b ≤ (g.C.length : Int) - 1) ∧ gb ol a = true ∧ gb ol b = true) → J12 σ := by
    intro hcond
    rw [h12, if_neg (fun h => h hcond)]
    obtain ⟨ha, hb, oa, ob⟩ := hcond
    intro _
    refine ⟨by omega, by omega, by omega, cut_intro fun J15 h15 => ?_⟩
    refine ⟨fun n i xs τ => ∃ k : Nat, n = g.C.length - k ∧ i = k ∧ k ≤ g.C.length ∧ xs = List.replicate k (-1) ++ List.replicate (g.C.length - k) 0 ∧ τ = σ, ⟨_, 0, rfl, rfl, by omega, by simp [hol], rfl⟩, ?_⟩
    rintro n i xs τ ⟨k, rfl, rfl, hk, rfl, rfl⟩ _
    refine bc_d (fun hlt => ⟨by omega, ?_, lat_I (by omega) ?_ ?_⟩) (fun hlt => ?_)
    · simp; omega
    · simp; omega
    · refine wk_i (by omega) (bk_of _ ?_ ⟨k + 1, rfl, rfl, by omega, ?_, rfl⟩)
      · omega
      · simp only [Int.toNat_natCast]
        exact fillK (by omega)
    · have hkN : k = g.C.length := by omega
      subst hkN
      rw [h15]
      intro _
      simp only [Nat.sub_self, List.replicate_zero, List.append_nil]
      intro A17 l17 c17 σ18 o18
      refine clI M_ref04_Cost_enter (c_Cost (hg.sub o18.sub) hok o18.rd (mem1 (by omega)) (by simp)) ?_
      have e1 : g.costK [b] ([b] : List Int).length = g.drn b := cost1
      rw [e1]
      refine ⟨by omega, by simp; omega, lat_I (by omega) (by simp; omega) ?_⟩
      obtain ⟨ini1, ini2⟩ := ini_inv (g := g) (op := gb ol) (to := b) (by omega) (by omega) ob
      refine cut_intro fun J25 h25 => ?_
      generalize hX : rnds g (gb ol) g.C.length (ini g b) = X at *
      have k25 : ∀ σ', Hp.Sub τ σ' → J25 X σ' := by
        intro σ' hs
        have hXi := rnds_inv (g := g) (op := gb ol) hok (to := b) (by omega) ini1 g.C.length
        rw [hX] at hXi
        have hXl := hXi.len
        have hXb : ∀ c, gt X c ≤ 6656 := by
          intro c
          have h1 := rnds_bd hok (by omega) ini1 ini2 g.C.length c
          have h2 := fin_le (g := g) (X := rnds g (gb ol) g.C.length (ini g b))
          rw [hX] at h1 h2
          omega
        have hXf : Fix g (gb ol) X := hX ▸ rnds_fix hok (by omega) ini1 ini2
        rw [h25]
        intro _
        refine ⟨by omega, by omega, lat_I (by omega) (by omega) (bc_d (fun hneg => rt_sub hs ⟨none, 0, 0, ?_, ?_⟩) (fun hneg => ?_))⟩
        · rw [if_pos hneg]
        · rw [if_pos hneg]; exact OwnSl.nil ..
        rw [if_neg hneg]
        refine cut_intro fun J30 h30 => ?_
        refine ⟨fun n xs c σ' => n = (gt X c).toNat ∧ 0 ≤ gt X c ∧ (0 ≤ c ∧ c < g.C.length) ∧ Hp.Sub τ σ' ∧ ∃ pre f, xs = pre ++ [c] ∧ pre ++ wayF g (gb ol) X b f c = wayF g (gb ol) X b 7000 a ∧ (gt X c).toNat ≤ f ∧ pre.length + (gt X c).toNat ≤ 7000, ⟨_, rfl, by omega, by omega, hs, [], 7000, rfl, rfl, ?_, ?_⟩, ?_⟩
        · have := hXb a; omega
        · have := hXb a; simp; omega
        rintro n xs c σ' ⟨rfl, hc0, hcr, hs, pre, f, rfl, hway, hf, hpre⟩ _
        refine bc_nd (fun hne => ?_) (fun he => ?_)
        · obtain ⟨w1, w2, w3, w4, w5⟩ := nxt_ok hok hXi hXf hcr.1 hcr.2 hne hc0
          refine clL M_ref04_Neighbours_enter (c_Neighbours ho hcr.1 hcr.2) ?_
          have hnl := nbr_len (g := g) (c := c)
          have hnin := nbr_in ho hcr.1 hcr.2
          show cut _ _
          refine cut_intro fun J48 h48 => ?_
          have k48 : ∀ σ', Hp.Sub τ σ' → J48 (nxt g (gb ol) X c) σ' := by
            intro σ' hs
            rw [h48]
            intro _
            refine roomy_i ?_ (bk_of _ ?_ ⟨rfl, w4, w3, hs, pre ++ [c], f - 1, rfl, ?_, ?_, ?_⟩)
            · simp only [List.length_append, List.length_cons, List.length_nil]; omega
            · omega
            · rw [← hway]
              obtain ⟨f', rfl⟩ : ∃ f', f = f' + 1 := ⟨f - 1, by omega⟩
              rw [wayF, if_neg hne]
              simp
            · omega
            · simp only [List.length_append, List.length_cons, List.length_nil]; omega
          refine ⟨fun n cc i σ' => ∃ j : Nat, n = (g.nbr c).length - j ∧ cc = c ∧ i = j ∧ j ≤ (g.nbr c).length ∧ Hp.Sub τ σ' ∧ ∀ i, (h : i < (g.nbr c).length) → i < j → wayP g (gb ol) X c (g.nbr c)[i] = false, ⟨_, 0, rfl, rfl, rfl, by omega, hs, fun i _ h => by omega⟩, ?_⟩
          rintro n cc i σ' ⟨j, rfl, rfl, rfl, hj, hs, hjf⟩ _
          refine bc_d (fun hlt => ?_) (fun hlt => ?_)
          · have hjl : j < (g.nbr cc).length := by omega
            have kin := hnin _ (gt_mem hjl)
            refine cut_intro fun J60 h60 => cut_intro fun J67 h67 => ?_
            have k67 : ∀ t σ', Hp.Sub τ σ' → t = wayP g (gb ol) X cc (g.nbr cc)[j] → J67 t σ' := by
              rintro t σ' hs rfl
              rw [h67]
              intro _
              refine bc_b (fun ht => ⟨by omega, by omega, lat_I (by omega) (by omega) ?_⟩) (fun ht => ?_)
              · have := k48 σ' hs
                unfold nxt at this
                rw [fidx_at hjl ht hjf] at this
                exact this
              · rw [h60]
                intro _
                refine wk_i (by omega) (bk_of _ (by omega) ⟨j + 1, rfl, rfl, rfl, by omega, hs, fun i hi hij => ?_⟩)
                rcases Nat.lt_or_ge i j with h | h
                · exact hjf i hi h
                · have : i = j := by omega
                  subst this
                  exact ht
            rw [← gt_nat hjl] at k67
            have hbk := hXb (gt (g.nbr cc) j)
            refine ⟨by omega, by omega, lat_I (by omega) (by omega) ⟨kin.1, by omega, lat_I kin.1 (by omega) (bc_d (fun h0 => ?_) (fun h0 => dup3 (k67 _ _ hs ?_)))⟩⟩
            · have hopn : gb ol (gt (g.nbr cc) j) = true := hXi.opn _ kin.1 kin.2 h0
              refine ⟨by omega, by omega, lat_I (by omega) (by omega) ⟨kin.1, by omega, lat_I kin.1 (by omega) ⟨by omega, by omega, lat_I (by omega) (by omega) ⟨by omega, by omega, lat_I (by omega) (by omega) ⟨hcr.1, by omega, lat_I hcr.1 (by omega) ?_⟩⟩⟩⟩⟩
              refine dup3 (l_cost2 (hg.sub hs) hok hcr kin (by omega) fun σ2 hs2 => k67 _ _ (hs.trans hs2) ?_)
              simp [wayP, hopn, h0]
            · simp [wayP, h0]
          · exfalso
            have : fidx (wayP g (gb ol) X cc) (g.nbr cc) = -1 := fidx_none fun i h => hjf i h (by omega)
            omega
        · rw [h30]
          intro _
          refine ⟨by omega, by omega, lat_I (by omega) (by omega) ?_⟩
          intro A33 l33 c33 σ34 o34
          obtain ⟨σ2, o2, s2⟩ := o34.base hs
          have ew : pre ++ [c] = wayF g (gb ol) X b 7000 a := by
            rw [← hway]
            cases f with
            | zero => rfl
            | succ f => rw [wayF, if_pos he]
          rw [ew] at o2
          exact rt_sub s2 ⟨_, _, _, rfl, o2⟩
      refine ⟨fun n i xs σ' => ∃ r : Nat, n = g.C.length - r ∧ i = r ∧ r ≤ g.C.length ∧ xs = rnds g (gb ol) r (ini g b) ∧ Hp.Sub τ σ' ∧ CInv g (gb ol) b xs ∧ Bd g xs, ⟨_, 0, rfl, rfl, by omega, rfl, o18.sub, ini1, ini2⟩, ?_⟩
      rintro n i xs σ' ⟨r, rfl, rfl, hr, rfl, hs, hi1, hi2⟩ _
      refine bc_d (fun hlt => cut_intro fun J121 h121 => ?_) (fun hlt => ?_)
      · refine ⟨fun n i xs σ' => ∃ k : Nat, n = g.C.length - k ∧ i = k ∧ k ≤ g.C.length ∧ xs = rndK g (gb ol) k (rnds g (gb ol) r (ini g b)) ∧ Hp.Sub τ σ' ∧ CInv g (gb ol) b xs ∧ Bd g xs, ⟨_, 0, rfl, rfl, by omega, rfl, hs, hi1, hi2⟩, ?_⟩
        rintro n i xs σ' ⟨k, rfl, rfl, hk, rfl, hs, hi1, hi2⟩ _
        refine bc_d (fun hlt2 => ?_) (fun hlt2 => ?_)
        · have hkN : (k : Int) < g.C.length := by omega
          refine cut_intro fun J134 h134 => ?_
          refine clL M_ref04_Neighbours_enter (c_Neighbours ho (by omega) hkN) ?_
          have hnl := nbr_len (g := g) (c := k)
          have hnin := nbr_in ho (c := k) (by omega) hkN
          show ∃ _, _
          have k134 : ∀ xs σ', xs = rndK g (gb ol) (k + 1) (rnds g (gb ol) r (ini g b)) → Hp.Sub τ σ' → CInv g (gb ol) b xs → Bd g xs → J134 xs σ' := by
            rintro xs σ' rfl hs hi1 hi2
            rw [h134]
            intro _
            exact wk_i (by omega) (bk_of _ (by omega) ⟨k + 1, rfl, rfl, by omega, rfl, hs, hi1, hi2⟩)
          rw [rndK_succ] at k134
          generalize rndK g (gb ol) k (rnds g (gb ol) r (ini g b)) = Z at *
          unfold rlxC at k134
          refine ⟨fun n i xs σ' => ∃ j : Nat, n = (g.nbr k).length - j ∧ i = j ∧ j ≤ (g.nbr k).length ∧ xs = ((g.nbr k).take j).foldl (rlx g (gb ol) k) Z ∧ (gb ol k = false → j = 0) ∧ Hp.Sub τ σ' ∧ CInv g (gb ol) b xs ∧ Bd g xs, ⟨_, 0, rfl, rfl, by omega, rfl, fun _ => rfl, hs, hi1, hi2⟩, ?_⟩
          rintro n i xs σ' ⟨j, rfl, rfl, hj, hxs, hj0, hs, hi1, hi2⟩ _
          refine cut_intro fun J152 h152 => cut_intro fun J215 h215 => ?_
          have hfin := fin_le (g := g) (X := xs)
          have hxl := hi1.len
          have k152 : gb ol k = true → j < (g.nbr k).length → J152 σ' := by
            intro hopk hjl
            have kin := hnin _ (gt_mem hjl)
            have knm := gt_mem hjl
            have hbk := hi2 (gt (g.nbr k) j)
            rw [h152]
            intro _
            refine cut_intro fun J155 h155 => ?_
            have k155 : ∀ ys σ', ys = rlx g (gb ol) k xs (gt (g.nbr k) j) → Hp.Sub τ σ' → J155 ys σ' := by
              rintro ys σ' rfl hs
              rw [h155]
              intro _
              refine wk_i (by omega) (bk_of _ (by omega) ⟨j + 1, rfl, rfl, by omega, ?_, fun h => absurd (hopk.symm.trans h) (by decide), hs, rlx_is.inv hok hi1 (by omega) hkN (by omega) hopk knm, rlx_is.bd hok hi1 (by omega) hkN hi2⟩)
              rw [take_fold hjl, ← hxs, gt_nat hjl]
            refine ⟨by omega, by omega, lat_I (by omega) (by omega) ⟨kin.1, by omega, lat_I kin.1 (by omega) (bc_d (fun hneg => k155 _ _ (rlx_neg hneg).symm hs) (fun hneg => ?_))⟩⟩
            refine cut_intro fun J164 h164 => ?_
            have hopn : gb ol (gt (g.nbr k) j) = true := hi1.opn _ kin.1 kin.2 (by omega)
            rw [rlx_pos (by omega) hopn] at k155
            refine ⟨by omega, by omega, lat_I (by omega) (by omega) ⟨kin.1, by omega, lat_I kin.1 (by omega) ⟨by omega, by omega, lat_I (by omega) (by omega) ⟨by omega, by omega, lat_I (by omega) (by omega) ?_⟩⟩⟩⟩
            refine dup3 (l_cost2 (hg.sub hs) hok (by omega) kin (by omega) fun σ2 hs2 => ?_)
            rw [h164]
            intro _
            refine cut_intro fun J168 h168 => ?_
            have k168 : ∀ t, t = decide (gt xs k < 0 ∨ gt xs (gt (g.nbr k) j) + g.stp k (gt (g.nbr k) j) + g.drn k < gt xs k) → J168 t σ2 := by
              rintro t rfl
              rw [h168]
              intro _
              refine bc_d (fun ht => ⟨by omega, by omega, lat_I (by omega) (by omega) (k155 _ _ ?_ (hs.trans hs2))⟩) (fun ht => k155 _ _ ?_ (hs.trans hs2))
              · rw [if_pos ht]
              · rw [if_neg ht]
            refine ⟨by omega, by omega, lat_I (by omega) (by omega) (bc_d (fun h1 => k168 _ ?_) (fun h1 => ⟨by omega, by omega, lat_I (by omega) (by omega) (k168 _ ?_)⟩))⟩
            · simp [h1]
            · simp [h1]
          have k215 : ∀ t, t = (decide (j < (g.nbr k).length) && gb ol k) → J215 t σ' := by
            rintro t rfl
            rw [h215]
            intro _
            refine bc_b (fun ht => ?_) (fun ht => k134 _ _ ?_ hs hi1 hi2)
            · simp only [Bool.and_eq_true, decide_eq_true_eq] at ht
              exact k152 ht.2 ht.1
            · rw [hxs]
              cases e : gb ol k with
              | false =>
                rw [hj0 e]
                simp
              | true =>
                rw [e] at ht
                have hjj : j = (g.nbr k).length := by simp at ht; omega
                rw [hjj, List.take_length]
                simp
          refine bc_d (fun h1 => ⟨by omega, by omega, lat_b (by omega) (by omega) (k215 _ ?_)⟩) (fun h1 => k215 _ ?_)
          · rw [decide_eq_true (by omega)]; rfl
          · rw [decide_eq_false (by omega)]; rfl
        · rw [h121]
          intro _
          have : k = g.C.length := by omega
          subst this
          exact wk_i (by omega) (bk_of _ (by omega) ⟨r + 1, rfl, rfl, by omega, rfl, hs, hi1, hi2⟩)
      · have : r = g.C.length := by omega
        subst this
        rw [hX]
        exact k25 _ hs
  have k230 : ∀ t, t = !decide ((0 ≤ a ∧ a ≤ (g.C.length : Int) - 1) ∧ (0 ≤ b ∧ b ≤ (g.C.length : Int) - 1) ∧ gb ol a = true ∧ gb ol b = true) → J230 t σ := by
    rintro t rfl
    rw [h230]
    intro _
    refine bc_nd (fun hn => rt_of ⟨none, 0, 0, ?_, ?_⟩) (fun hn => k12 hn)
    · rw [if_pos hn]
    · rw [if_pos hn]; exact OwnSl.nil ..
  refine wk_i (by omega) (l_rw (bc_nd (fun h1 => ?_) (fun h1 => ?_)))
  · refine bc_t (bc_t (k230 _ ?_))
    rw [hol] at h1
    simp [h1]
  · rw [hol] at h1
    refine wk_i (by omega) (l_rw (bc_nd (fun h2 => ?_) (fun h2 => ?_)))
    · refine bc_t (k230 _ ?_)
      rw [hol] at h2
      simp [h2]
    · rw [hol] at h2
      refine ⟨by omega, by omega, lat_b (by omega) (by omega) (bc_nb (fun h3 => k230 _ ?_) (fun h3 => ⟨by omega, by omega, lat_b (by omega) (by omega) (k230 _ ?_)⟩))⟩
      · simp [h3]
      · rw [h3]
        cases gb ol b <;> simp [h1, h2]
end Go.Proofs.Ytmpkiaghkhhlhaa

/- Contracts of layer 4: ground.Cable has the same answer. No conditions but those that each theorem names. -/
namespace Go.Proofs.Ytmpkiaghkhhlhaa
open Go.RowKit

/-- a box that holds one cell -/
def Bx1 (σ : Hp) (p : Option Addr) (v : Value) : Prop := ∃ b, p = some ⟨b, 0, none⟩ ∧ σ.cell? ⟨b, 0, none⟩ = some v
theorem cell_sub {σ σ' : Hp} (hs : Hp.Sub σ σ') {a : Addr} {v : Value} (h : σ.cell? a = some v) : σ'.cell? a = some v := by
  unfold Hp.cell? at h ⊢
  split at h
  · rename_i e
    rw [hs _ _ e]
    exact h
  · cases h
theorem Bx1.sub {σ σ' : Hp} {p : Option Addr} {v : Value} (h : Bx1 σ p v) (hs : Hp.Sub σ σ') : Bx1 σ' p v := let ⟨b, h1, h2⟩ := h; ⟨b, h1, cell_sub hs h2⟩
theorem Bx1.ins {σ : Hp} {b : Nat} {v : Value} {t : TypeId} : Bx1 (σ.ins b (.cells #[v] t (0, 0))) (some ⟨b, 0, none⟩) v := ⟨b, rfl, by unfold Hp.cell?; simp only [Hp.ins_same]; rfl⟩
theorem Bx1.ldI {σ : Hp} {p : Option Addr} {n : Int} {K : Int → Prop} (h : Bx1 σ p (.int .i64 n)) (hk : K n) : dr p fun b o => ldI σ .i64 b o K := by
  obtain ⟨b, rfl, hc⟩ := h
  exact dr_i (ldI_of hc hk)
theorem Bx1.ldP {σ : Hp} {p q : Option Addr} {K : Option Addr → Prop} (h : Bx1 σ p (.pointer q)) (hk : K q) : dr p fun b o => ldP σ b o K := by
  obtain ⟨b, rfl, hc⟩ := h
  exact dr_i (ldP_of hc hk)
theorem Bx1.ldS {σ : Hp} {p A : Option Addr} {n c : Nat} {K : Option Addr → Nat → Nat → Prop} (h : Bx1 σ p (.slice A n c)) (hk : K A n c) : dr p fun b o => ldS σ b o K := by
  obtain ⟨b, rfl, hc⟩ := h
  exact dr_i (ldS_of hc hk)
/-- what is free in a field with a right layout -/
theorem free_opn {g : Gnd} {l : List Pit} {st : List Sit} (h : (chkS g l st).2 = 0) {c : Int} (h0 : 0 ≤ c) (h1 : c < g.C.length) : (fdK g l st l.length).free c = gb (g.opn l st) c := by
  obtain ⟨e, hG, hlen, _, hs⟩ := chkS_ok h
  have hcon := fdK_con e l.length (Nat.le_refl _) hs
  have := fdK_full e (Nat.le_refl _) hcon h0 h1
  rw [gb_opn h0 h1, hlen, ← this]
  unfold Fd.free
  rw [(fdK_g _).1, Bool.decide_and, Bool.and_comm]
theorem c_Cable_1 {σ : Hp} {f cap0 cap1 cap2 A : Option Addr} {n cp : Nat} {V : FA} {F : Fd} {X : List Int} {at' k : Int} {op : Int → Bool} (hf : FdR σ f V F) (hF : F.ok) (h0 : Bx1 σ cap0 (.pointer f)) (h1 : Bx1 σ cap1 (.slice A n cp)) (h2 : Bx1 σ cap2 (.int .i64 at'))
    (hX : RdS [.int .i64] σ A n X) (hl : X.length = F.g.C.length) (hXb : ∀ c, gt X c ≤ 6656) (ha : 0 ≤ at' ∧ at' < F.g.C.length) (hk : 0 ≤ k ∧ k < F.g.C.length) (hop : F.free k = op k) :
    FCalls Try.prog N_ground_Cable_1 #[.int .i64 k, .pointer cap0, .pointer cap1, .pointer cap2] σ fun v σ' => v = .bool (wayP F.g op X at' k) ∧ σ' = σ := by
  refine M_ground_Cable_1_ok _ _ _ _ _ _ ?_
  unfold M_ground_Cable_1
  have s1 := stp_in hF.g (a := at') (b := k)
  have s2 := drn_in (g := F.g) (c := at')
  have hb := hXb k
  refine h0.ldP (clB M_ground_field_free_enter (c_field_free hf hF hk.1 hk.2) ?_)
  rw [hop]
  refine bc_b (fun h => ?_) (fun h => bc_f (rt_of ⟨?_, rfl⟩))
  · refine h1.ldS (gixg hX hk.1 (by omega) (bc_d (fun hx => ?_) (fun hx => rt_of ⟨?_, rfl⟩)))
    · refine h1.ldS (gixg hX hk.1 (by omega) (h0.ldP (h2.ldI (h0.ldP (h2.ldI (h1.ldS (h2.ldI (gixg hX ha.1 (by omega) ?_))))))))
      refine clIs M_ground_field_step_enter (c_field_step hf.toFdB hF.g ha.1 ha.2 hk.1 hk.2) (wk_i (by omega) ?_)
      refine clIs M_ground_field_drain_enter (c_field_drain hf.toFdB ha.1 ha.2) (wk_i (by omega) (rt_of ⟨?_, rfl⟩))
      simp [wayP, h, hx]
    · simp [wayP, hx]
  · simp [wayP, h]
theorem NewLII.base {σ τ τ' : Hp} {xs : List Int} {a b : Int} {A : Option Addr} {n c : Nat} (hs : Hp.Sub σ τ) (h : OwnSl 3 [.int .i64] τ A n c xs τ') : rt τ' (NewLII σ xs a b) (.tuple #[.slice A n c, .int .i64 a, .int .i64 b]) := by
  obtain ⟨σ2, o2, s2⟩ := h.base hs
  exact rt_sub s2 ⟨_, _, _, rfl, o2⟩
theorem c_ground_Cable {σ : Hp} {x : GV} {g : Gnd} {lA sA : Option Addr} {ln lc sn sc : Nat} {l : List Pit} {st : List Sit} {a b : Int} (hg : GRd σ x g) (hl : RdS sP σ lA ln l) (hst : RdS sS σ sA sn st) :
    FCalls Try.prog N_ground_Cable #[x.v g, .slice lA ln lc, .slice sA sn sc, .int .i64 a, .int .i64 b] σ (NewLII σ (cabS g l st a b).1 (cabS g l st a b).2.1 (cabS g l st a b).2.2) := by
  refine M_ground_Cable_ok _ _ _ _ _ _ _ _ _ _ _ _ _ _ _ _ _ _ ?_
  unfold M_ground_Cable
  intro A1 l1' c1 σ2 o1
  refine cl_of M_ground_withCell_enter (c_withCell (ks := [a, b]) (hg.sub o1.sub) (hl.sub o1.sub) (hst.sub o1.sub) o1.rd (by simp)) ?_
  have hany : ([a, b].any fun c => !decide (0 ≤ c ∧ c ≤ (g.C.length : Int) - 1)) = !decide ((0 ≤ a ∧ a ≤ (g.C.length : Int) - 1) ∧ (0 ≤ b ∧ b ≤ (g.C.length : Int) - 1)) := by
    simp only [List.any_cons, List.any_nil, Bool.or_false, Bool.decide_and (p := 0 ≤ a ∧ a ≤ (g.C.length : Int) - 1), Bool.not_and]
  rw [hany]
  rintro v σ4 (⟨hne, rfl, rfl⟩ | ⟨he0, f, V, σ0, rfl, hs0, hfw⟩)
  · refine ⟨_, _, rfl, bc_nd (fun h => rt_sub o1.sub ⟨none, 0, 0, ?_, ?_⟩) (fun h => absurd h hne)⟩
    · unfold cabS
      by_cases e : (chkS g l st).2 ≠ 0
      · rw [if_pos e, if_pos e]
      · rw [if_neg e] at hne ⊢
        rw [if_neg e]
        have hc : ¬ ((0 ≤ a ∧ a ≤ (g.C.length : Int) - 1) ∧ (0 ≤ b ∧ b ≤ (g.C.length : Int) - 1)) := by
          intro hc
          rw [decide_eq_true hc] at hne
          simp at hne
        rw [if_pos (fun h => hc ⟨h.1, h.2.1⟩), decide_eq_false hc]
        rfl
    · unfold cabS
      by_cases e : (chkS g l st).2 ≠ 0
      · rw [if_pos e]; exact OwnSl.nil ..
      · rw [if_neg e] at hne ⊢
        have hc : ¬ ((0 ≤ a ∧ a ≤ (g.C.length : Int) - 1) ∧ (0 ≤ b ∧ b ≤ (g.C.length : Int) - 1)) := by
          intro hc
          rw [decide_eq_true hc] at hne
          simp at hne
        rw [if_pos (fun h => hc ⟨h.1, h.2.1⟩)]
        exact OwnSl.nil ..
  have hch : (chkS g l st).2 = 0 := by
    by_cases e : (chkS g l st).2 ≠ 0
    · rw [if_pos e] at he0; exact absurd he0 e
    · simpa using e
  rw [if_neg (by simp [hch])] at he0 ⊢
  have hab : (0 ≤ a ∧ a ≤ (g.C.length : Int) - 1) ∧ (0 ≤ b ∧ b ≤ (g.C.length : Int) - 1) := by
    apply Classical.byContradiction
    intro hc
    rw [decide_eq_false hc] at he0
    simp at he0
  rw [he0]
  refine ⟨_, _, rfl, bc_nd (fun h => absurd rfl h) (fun _ => ?_)⟩
  obtain ⟨hchk, hG, hlen, _, hall⟩ := chkS_ok hch
  have hok := hG.ok
  have ho := hG.s
  obtain ⟨l1, l2, l3⟩ := Gnd.okS_len ho
  have hF := fdK_ok (st := st) hchk l.length
  obtain ⟨eg, el⟩ := fdK_g (g := g) (l := l) (st := st) l.length
  have hfree : ∀ c : Int, 0 ≤ c → c < g.C.length → (fdK g l st l.length).free c = gb (g.opn l st) c := fun c h0 h1 => free_opn hch h0 h1
  have hr4 := hfw.r
  have hs4 : Hp.Sub σ σ4 := o1.sub.trans (hs0.trans hfw.base)
  have hb4 : FdB σ4 f V g l := by have := hr4.toFdB; rw [eg, el] at this; exact this
  unfold cabS
  rw [if_neg (by simp [hch])]
  generalize fdK g l st l.length = F at *
  subst eg
  generalize hopn : gb (F.g.opn l st) = op at *
  refine cut_intro fun J9 h9 => cut_intro fun J172 h172 => ?_
  have k9 : op a = true → op b = true → J9 σ4 := by
    intro oa ob
    rw [h9, if_neg (fun h => h ⟨hab.1, hab.2, oa, ob⟩)]
    intro _
    refine hb4.dC ?_
    intro A13 l13 c13 σ14 o13
    obtain rfl : l13 = 1 := o13.len
    have hcn := hr4.cn
    refine clL M_slices_Repeat_int_enter (c_Repeat_int (a := (-1 : Int)) o13.rd (by omega)) ?_
    show cl _ _ _ _ _
    have hs14 : Hp.Sub σ σ14 := hs4.trans o13.sub
    have hr14 := hr4.sub o13.sub
    have hb14 := hb4.sub o13.sub
    rw [show ((V.x.cn : Nat) : Int).toNat = F.g.C.length by omega]
    refine clIs M_ground_field_drain_enter (c_field_drain hb14 (by omega) (by omega)) ?_
    have hrep : ((List.length (List.replicate F.g.C.length (-1 : Int)) : Nat) : Int) = F.g.C.length := by rw [List.length_replicate]
    refine ⟨by omega, show b < ((List.length (List.replicate F.g.C.length (-1 : Int)) : Nat) : Int) by omega, lat_I (xs := List.replicate F.g.C.length (-1 : Int)) (by omega) (by omega) ?_⟩
    obtain ⟨ini1, ini2⟩ := ini_inv (g := F.g) (op := op) (to := b) (by omega) (by omega) ob
    refine cut_intro fun J26 h26 => ?_
    generalize hX : rnds F.g op F.g.C.length (ini F.g b) = X at *
    have k26 : ∀ σ', Hp.Sub σ14 σ' → J26 X σ' := by
      intro σ' hs
      have hXi := rnds_inv (g := F.g) (op := op) hok (to := b) (by omega) ini1 F.g.C.length
      rw [hX] at hXi
      have hXl := hXi.len
      have hXb : ∀ c, gt X c ≤ 6656 := by
        intro c
        have h1 := rnds_bd hok (by omega) ini1 ini2 F.g.C.length c
        have h2 := fin_le (g := F.g) (X := rnds F.g op F.g.C.length (ini F.g b))
        rw [hX] at h1 h2
        omega
      have hXf : Fix F.g op X := hX ▸ rnds_fix hok (by omega) ini1 ini2
      have hsσ := hs14.trans hs
      rw [h26]
      intro _
      refine ⟨by omega, by omega, lat_I (by omega) (by omega) (bc_d (fun hneg => rt_sub hsσ ⟨none, 0, 0, ?_, ?_⟩) (fun hneg => ?_))⟩
      · rw [if_pos hneg]
      · rw [if_pos hneg]; exact OwnSl.nil ..
      rw [if_neg hneg]
      refine cut_intro fun J31 h31 => ?_
      refine ⟨fun n xs p55 p56 p57 σ' => ∃ c σ1 A n' c' b52, n = (gt X c).toNat ∧ 0 ≤ gt X c ∧ (0 ≤ c ∧ c < F.g.C.length) ∧ Hp.Sub σ σ1 ∧ FdR σ1 f V F ∧ Bx1 σ1 p55 (.pointer f) ∧ Bx1 σ1 p56 (.slice A n' c') ∧ RdS [.int .i64] σ1 A n' X ∧ σ1 b52 = none ∧ p57 = some ⟨b52, 0, none⟩ ∧ Hp.Sub (σ1.ins b52 (.cells #[.int .i64 c] 3 (0, 0))) σ' ∧ ∃ pre f, xs = pre ++ [c] ∧ pre ++ wayF F.g op X b f c = wayF F.g op X b 7000 a ∧ (gt X c).toNat ≤ f ∧ pre.length + (gt X c).toNat ≤ 7000, ⟨(gt X a).toNat, ?_⟩, ?_⟩
      · intro b46 hb46 A48 l48 c48 σ49 o48 b50 hb50 b52 hb52
        have e46 : Hp.Sub σ' (σ'.ins b46 (.cells #[.pointer f] 67)) := Hp.Sub.ins _ hb46
        have e50 : Hp.Sub σ49 (σ49.ins b50 (.cells #[.slice A48 l48 c48] 22)) := Hp.Sub.ins _ hb50
        have hh := hXb a
        exact ⟨a, _, A48, l48, c48, b52, rfl, by omega, by omega, hsσ.trans (e46.trans (o48.sub.trans e50)), hr14.sub (hs.trans (e46.trans (o48.sub.trans e50))), Bx1.ins.sub (o48.sub.trans e50), Bx1.ins, (show RdS [.int .i64] σ49 A48 l48 X from o48.rd).sub e50, hb52, rfl, Hp.Sub.refl _, [], 7000, rfl, rfl, by omega, by simp; omega⟩
      rintro n xs p55 p56 p57 σ3 ⟨c, σ1, A, n', c', b52, rfl, hc0, hcr, hs1, hf1, hp55, hp56, hXr, hb52, rfl, hsub, pre, ff, rfl, hway, hf, hpre⟩ _
      have hs13 : Hp.Sub σ1 σ3 := (Hp.Sub.ins _ hb52).trans hsub
      have hp57 : Bx1 σ3 (some ⟨b52, 0, none⟩) (.int .i64 c) := Bx1.ins.sub hsub
      refine hp57.ldI (bc_nd (fun hne => ?_) (fun he => ?_))
      · obtain ⟨w1, w2, w3, w4, w5⟩ := nxt_ok hok hXi hXf hcr.1 hcr.2 hne hc0
        refine (hp55.sub hs13).ldP (hp57.ldI ?_)
        refine clL M_ground_field_beside_enter (c_field_beside (hf1.sub hs13).toFdB ho hcr.1 hcr.2) ?_
        have hnl := nbr_len (g := F.g) (c := c)
        have hnin := nbr_in ho hcr.1 hcr.2
        intro A72 l72 c72 σ73 o72
        have hs73 := o72.sub
        have hrd : RdS [.int .i64] σ73 A72 l72 (F.g.nbr c) := o72.rd
        refine clI M_slices_IndexFunc_int_enter (c_IndexFunc_int (p := wayP F.g op X c) hrd (by omega) (Dec.of M_ground_Cable_1_enter fun k hk => ?_)) ?_
        · have kin := hnin k hk
          exact c_Cable_1 (hf1.sub (hs13.trans hs73)) hF (hp55.sub (hs13.trans hs73)) (hp56.sub (hs13.trans hs73)) (hp57.sub hs73) (hXr.sub (hs13.trans hs73)) hXl hXb hcr kin (hfree k kin.1 kin.2)
        refine adp_own o72 ⟨w1, w2, lat_I w1 w2 ?_⟩
        show dr _ _
        have h52 : σ3 b52 = some (.cells #[.int .i64 c] 3 (0, 0), true) := hsub _ _ (Hp.ins_same ..)
        refine dr_i ⟨⟨_, _, h52, by simp, rfl⟩, ?_⟩
        have hput : Bx1 (σ3.put ⟨b52, 0, none⟩ (.int .i64 (gt (F.g.nbr c) (fidx (wayP F.g op X c) (F.g.nbr c))))) (some ⟨b52, 0, none⟩) (.int .i64 (nxt F.g op X c)) := by
          refine ⟨b52, rfl, ?_⟩
          unfold Hp.cell?
          simp only [Hp.put_same h52]
          rfl
        have hs1p : Hp.Sub σ1 (σ3.put ⟨b52, 0, none⟩ (.int .i64 (gt (F.g.nbr c) (fidx (wayP F.g op X c) (F.g.nbr c))))) := by
          intro k x hx
          have : k ≠ b52 := fun e => by rw [e, hb52] at hx; cases hx
          rw [Hp.put_ne this]
          exact hs13 _ _ hx
        generalize σ3.put ⟨b52, 0, none⟩ (.int .i64 (gt (F.g.nbr c) (fidx (wayP F.g op X c) (F.g.nbr c)))) = σ82 at *
        refine hput.ldI (roomy_i ?_ (hput.ldI (bk_sub (gt X (nxt F.g op X c)).toNat ?_ hs1p ?_)))
        · simp only [List.length_append, List.length_cons, List.length_nil]; omega
        · omega
        · intro b91 hb91
          refine ⟨nxt F.g op X c, σ1, A, n', c', b91, rfl, w4, w3, hs1, hf1, hp55, hp56, hXr, hb91, rfl, Hp.Sub.refl _, pre ++ [c], ff - 1, rfl, ?_, ?_, ?_⟩
          · rw [← hway]
            obtain ⟨f', rfl⟩ : ∃ f', ff = f' + 1 := ⟨ff - 1, by omega⟩
            rw [wayF, if_neg hne]
            simp
          · omega
          · simp only [List.length_append, List.length_cons, List.length_nil]; omega
      · rw [h31]
        intro _
        refine (hp56.sub hs13).ldS (gixg (hXr.sub hs13) (by omega) (by omega) ?_)
        intro A33 l33 c33 σ34 o34
        have ew : pre ++ [c] = wayF F.g op X b 7000 a := by
          rw [← hway]
          cases ff with
          | zero => rfl
          | succ f => rw [wayF, if_pos he]
        rw [ew] at o34
        exact NewLII.base (hs1.trans hs13) o34
    refine ⟨fun n t xs σ' => n = 2 * Phi F.g xs + (if t = true then 1 else 0) ∧ Hp.Sub σ14 σ' ∧ CInv F.g op b xs ∧ Bd F.g xs ∧ ∃ r, xs = rnds F.g op r (ini F.g b) ∧ (t = false → rnd F.g op xs = xs), ⟨_, rfl, Hp.Sub.refl _, ini1, ini2, 0, rfl, fun h => by cases h⟩, ?_⟩
    rintro n t X0 σ' ⟨rfl, hs, hi1, hi2, r, hr, ht⟩ _
    cases t with
    | false =>
      refine bc_f ?_
      have hfix := ht rfl
      rw [hr] at hfix
      have := rnds_conv hok (by omega) ini1 hfix
      rw [hX] at this
      rw [hr, ← this]
      exact k26 _ hs
    | true =>
      refine bc_t ((hb14.sub hs).dC ?_)
      refine ⟨fun n t i xs σ' => ∃ k : Nat, n = F.g.C.length - k ∧ i = k ∧ k ≤ F.g.C.length ∧ xs = rndK F.g op k X0 ∧ Hp.Sub σ14 σ' ∧ CInv F.g op b xs ∧ Bd F.g xs ∧ (t = true → Phi F.g xs < Phi F.g X0) ∧ (t = false → xs = X0), ⟨_, 0, rfl, rfl, by omega, rfl, hs, hi1, hi2, fun h => by (cases h), fun _ => rfl⟩, ?_⟩
      rintro n t i xs σ' ⟨k, rfl, rfl, hk, rfl, hs, hi1, hi2, ht1, ht2⟩ _
      refine bc_d (fun hlt => ?_) (fun hlt => ?_)
      · have hkN : (k : Int) < F.g.C.length := by omega
        have hr5 := hr14.sub hs
        refine cut_intro fun J111 h111 => ?_
        have k111 : ∀ t xs σ', xs = rndK F.g op (k + 1) X0 → Hp.Sub σ14 σ' → CInv F.g op b xs → Bd F.g xs → (t = true → Phi F.g xs < Phi F.g X0) → (t = false → xs = X0) → J111 t xs σ' := by
          rintro t xs σ' rfl hs hi1 hi2 ht1 ht2
          rw [h111]
          intro _
          exact wk_i (by omega) (bk_of _ (by omega) ⟨k + 1, rfl, rfl, by omega, rfl, hs, hi1, hi2, ht1, ht2⟩)
        rw [rndK_succ] at k111
        generalize rndK F.g op k X0 = Z at *
        unfold rlxC at k111
        refine clB M_ground_field_free_enter (c_field_free hr5 hF (by omega) hkN) ?_
        rw [hfree k (by omega) hkN]
        refine bc_nb (fun hno => k111 _ _ _ (by rw [hno]; rfl) hs hi1 hi2 ht1 ht2) (fun hopk => ?_)
        rw [hopk] at k111
        refine clL M_ground_field_beside_enter (c_field_beside hr5.toFdB ho (by omega) hkN) ?_
        have hnl := nbr_len (g := F.g) (c := k)
        have hnin := nbr_in ho (c := k) (by omega) hkN
        refine ⟨fun n t i xs σ' => ∃ j : Nat, n = (F.g.nbr k).length - j ∧ i = j ∧ j ≤ (F.g.nbr k).length ∧ xs = ((F.g.nbr k).take j).foldl (rlx F.g op k) Z ∧ Hp.Sub σ14 σ' ∧ CInv F.g op b xs ∧ Bd F.g xs ∧ (t = true → Phi F.g xs < Phi F.g X0) ∧ (t = false → xs = X0), ⟨_, 0, rfl, rfl, by omega, rfl, hs, hi1, hi2, ht1, ht2⟩, ?_⟩
        rintro n t2 i xs σ' ⟨j, rfl, rfl, hj, hxs, hs, hi1, hi2, ht1, ht2⟩ _
        have hfin := fin_le (g := F.g) (X := xs)
        have hxl := hi1.len
        refine bc_d (fun hlt2 => ?_) (fun hlt2 => ?_)
        · have hjl : j < (F.g.nbr k).length := by omega
          have kin := hnin _ (gt_mem hjl)
          have knm := gt_mem hjl
          have hbk := hi2 (gt (F.g.nbr k) j)
          have s1 := stp_in hok (a := k) (b := gt (F.g.nbr k) j)
          have s2 := drn_in (g := F.g) (c := k)
          refine cut_intro fun J134 h134 => ?_
          have k134 : ∀ t ys, ys = rlx F.g op k xs (gt (F.g.nbr k) j) → (t = true → Phi F.g ys < Phi F.g X0) → (t = false → ys = X0) → J134 t ys σ' := by
            rintro t ys rfl ht1 ht2
            rw [h134]
            intro _
            refine wk_i (by omega) (bk_of _ (by omega) ⟨j + 1, rfl, rfl, by omega, ?_, hs, rlx_is.inv hok hi1 (by omega) hkN (by omega) hopk knm, rlx_is.bd hok hi1 (by omega) hkN hi2, ht1, ht2⟩)
            rw [take_fold hjl, ← hxs, gt_nat hjl]
          refine ⟨by omega, by omega, lat_I (by omega) (by omega) (cut_intro fun J143 h143 => cut_intro fun J162 h162 => ?_)⟩
          have k143 : 0 ≤ gt xs (gt (F.g.nbr k) j) → op (gt (F.g.nbr k) j) = true → J143 σ' := by
            intro hx hopn
            rw [rlx_pos hx hopn] at k134
            rw [h143]
            intro _
            refine ⟨kin.1, by omega, lat_I kin.1 (by omega) ?_⟩
            refine clIs M_ground_field_step_enter (c_field_step (hr14.sub hs).toFdB hok (by omega) hkN kin.1 kin.2) (wk_i (by omega) ?_)
            refine clIs M_ground_field_drain_enter (c_field_drain (hr14.sub hs).toFdB (by omega) hkN) (wk_i (by omega) ?_)
            refine cut_intro fun J155 h155 => ?_
            have k155 : ∀ t, t = decide (gt xs k < 0 ∨ gt xs (gt (F.g.nbr k) j) + F.g.stp k (gt (F.g.nbr k) j) + F.g.drn k < gt xs k) → J155 t σ' := by
              rintro t rfl
              rw [h155]
              intro _
              refine bc_d (fun hd => ⟨by omega, by omega, lat_I (by omega) (by omega) (k134 _ _ ?_ (fun _ => ?_) (fun h => by (cases h)))⟩) (fun hd => k134 _ _ ?_ ht1 ht2)
              · rw [if_pos hd]
              · have := Phi_set hok hi1 (c := k) (by omega) hkN hi2 hx hopn hd
                cases t2 with
                | true => have := ht1 rfl; simp only [Int.toNat_natCast] at *; omega
                | false => have := ht2 rfl; rw [← this]; exact Phi_set hok hi1 (c := k) (by omega) hkN hi2 hx hopn hd
              · rw [if_neg hd]
            refine ⟨by omega, by omega, lat_I (by omega) (by omega) (bc_d (fun h1 => k155 _ ?_) (fun h1 => ⟨by omega, by omega, lat_I (by omega) (by omega) (k155 _ ?_)⟩))⟩
            · simp [h1]
            · simp [h1]
          have k162 : ∀ t, t = !(decide (0 ≤ gt xs (gt (F.g.nbr k) j)) && op (gt (F.g.nbr k) j)) → J162 t σ' := by
            rintro t rfl
            rw [h162]
            intro _
            refine bc_nb (fun hn => k134 _ _ ?_ ht1 ht2) (fun hn => ?_)
            · unfold rlx
              rw [if_pos]
              cases e : op (gt (F.g.nbr k) j) with
              | false => exact .inr rfl
              | true => rw [e] at hn; simp at hn; exact .inl (by omega)
            · simp only [Bool.and_eq_true, decide_eq_true_eq] at hn
              exact k143 hn.1 hn.2
          refine ⟨kin.1, by omega, lat_I kin.1 (by omega) (bc_d (fun h1 => k162 _ ?_) (fun h1 => ?_))⟩
          · rw [decide_eq_false (by omega)]; rfl
          · refine clB M_ground_field_free_enter (c_field_free (hr14.sub hs) hF kin.1 kin.2) ?_
            rw [hfree _ kin.1 kin.2]
            refine k162 _ ?_
            rw [decide_eq_true (by omega), Bool.true_and]
        · have : j = (F.g.nbr k).length := by omega
          rw [this, List.take_length] at hxs
          exact k111 _ _ _ hxs hs hi1 hi2 ht1 ht2
      · have hkk : k = F.g.C.length := by omega
        refine bk_of (2 * Phi F.g (rndK F.g op k X0) + (if t = true then 1 else 0)) ?_ ⟨rfl, hs, hi1, hi2, r + 1, ?_, fun h => ?_⟩
        · cases t with
          | true => have := ht1 rfl; simp only [if_true]; omega
          | false => rw [ht2 rfl]; simp
        · rw [hkk, hr]; rfl
        · have h3 := ht2 h
          rw [h3]
          rw [hkk] at h3
          exact h3
  have k172 : ∀ t, t = !(op a && op b) → J172 t σ4 := by
    rintro t rfl
    rw [h172]
    intro _
    refine bc_nb (fun hn => rt_sub hs4 ⟨none, 0, 0, ?_, ?_⟩) (fun hn => ?_)
    · rw [if_pos (fun h => by simp [h.2.2.1, h.2.2.2] at hn)]
    · rw [if_pos (fun h => by simp [h.2.2.1, h.2.2.2] at hn)]; exact OwnSl.nil ..
    · simp only [Bool.and_eq_true] at hn
      exact k9 hn.1 hn.2
  refine clB M_ground_field_free_enter (c_field_free hr4 hF (by omega) (by omega)) ?_
  rw [hfree a (by omega) (by omega)]
  refine bc_nb (fun h => k172 _ (by rw [h]; rfl)) (fun h => ?_)
  refine clB M_ground_field_free_enter (c_field_free hr4 hF (by omega) (by omega)) ?_
  rw [hfree b (by omega) (by omega)]
  exact k172 _ (by rw [h]; rfl)
end Go.Proofs.Ytmpkiaghkhhlhaa

/- Contracts of layer 4: insertion sort. No conditions but those that each theorem names. -/
namespace Go.Proofs.Ytmpkiaghkhhlhaa
open Go.RowKit

/-! ### Insertion sort -/
def swp2 (xs : List Int) (j : Nat) : List Int := (xs.set (j + 1) (gt xs j)).set j (gt xs (j + 1 : Nat))
def insJ (cf : Int → Int → Int) : Nat → List Int → List Int
  | 0, xs => xs
  | j + 1, xs => if cf (gt xs (j + 1 : Nat)) (gt xs j) < 0 then insJ cf j (swp2 xs j) else xs
def insA (cf : Int → Int → Int) : Nat → List Int → List Int
  | 0, xs => xs
  | k + 1, xs => insJ cf k (insA cf k xs)
theorem swp2_len {xs : List Int} {j : Nat} : (swp2 xs j).length = xs.length := by simp [swp2]
theorem insJ_len {cf : Int → Int → Int} : ∀ (j : Nat) (xs : List Int), (insJ cf j xs).length = xs.length
  | 0, _ => rfl
  | j + 1, xs => by
    unfold insJ
    split
    · rw [insJ_len j, swp2_len]
    · rfl
theorem insA_len {cf : Int → Int → Int} {xs : List Int} : ∀ k : Nat, (insA cf k xs).length = xs.length
  | 0 => rfl
  | k + 1 => by unfold insA; rw [insJ_len, insA_len k]
/-- what holds of all elements -/
def AllI (P : Int → Prop) (xs : List Int) : Prop := ∀ i : Nat, i < xs.length → P (gt xs i)
theorem gtn_set {xs : List Int} {i c : Nat} {v : Int} (hi : i < xs.length) : gt (xs.set i v) c = if c = i then v else gt xs c := by
  have := gt_set' (xs := xs) (i := (i : Int)) (c := (c : Int)) (v := v) (by omega) (by omega)
  simp only [Int.toNat_natCast] at this
  exact this
theorem AllI.swp2 {P : Int → Prop} {xs : List Int} (h : AllI P xs) {j : Nat} (hj : j + 1 < xs.length) : AllI P (swp2 xs j) := by
  intro i hi
  rw [swp2_len] at hi
  unfold Go.Proofs.Ytmpkiaghkhhlhaa.swp2
  rw [gtn_set (by simp; omega), gtn_set (by omega)]
  split
  · exact h _ hj
  · split
    · exact h _ (by omega)
    · exact h _ hi
/-- a function's value that compares, on all that contains σ0 -/
def CmpI (f : Value) (cf : Int → Int → Int) (P : Int → Prop) (σ0 : Hp) : Prop := ∀ τ, Hp.Sub σ0 τ → ∀ a b, P a → P b → ∀ K : Int → Hp → Prop, K (cf a b) τ → cl Try.prog f #[.int .i64 a, .int .i64 b] τ fun v σ' => ∃ t : Int, (v = .int .i64 t ∧ K t σ')
theorem c_insertion {σ0 σ : Hp} {A : Option Addr} {n c : Nat} {xs : List Int} {f : Value} {cf : Int → Int → Int} {P : Int → Prop} (hf : CmpI f cf P σ0) (hP : AllI P xs) (ho : OwnSl 3 [.int .i64] σ0 A n c xs σ) (hl : xs.length ≤ 4294967296) :
    FCalls Try.prog N_slices_insertionSortCmpFunc_int #[.slice A n c, .int .i64 0, .int .i64 xs.length, f] σ fun _ σ' => OwnSl 3 [.int .i64] σ0 A n c (insA cf (max xs.length 1) xs) σ' := by
  refine M_slices_insertionSortCmpFunc_int_ok _ _ _ _ _ _ _ _ ?_
  unfold M_slices_insertionSortCmpFunc_int
  refine wk_i (by omega) ?_
  refine ⟨fun m i σ' => ∃ k : Nat, m = max xs.length 1 - k ∧ i = k ∧ 1 ≤ k ∧ k ≤ max xs.length 1 ∧ AllI P (insA cf k xs) ∧ ∃ σ1, OwnSl 3 [.int .i64] σ0 A n c (insA cf k xs) σ1 ∧ Hp.Sub σ1 σ', ⟨_, 1, rfl, rfl, by omega, by omega, hP, σ, ho, Hp.Sub.refl _⟩, ?_⟩
  rintro m i σ' ⟨k, rfl, rfl, hk1, hk, hPk, σ1, ho1, hs1⟩ _
  refine bc_d (fun hlt => ?_) (fun hlt => ?_)
  · have hkl : k < xs.length := by omega
    have hlen := insA_len (cf := cf) (xs := xs) k
    refine cut_intro fun J10 h10 => ?_
    have k10 : ∀ ys σ', ys = insA cf (k + 1) xs → AllI P ys → (∃ σ1, OwnSl 3 [.int .i64] σ0 A n c ys σ1 ∧ Hp.Sub σ1 σ') → J10 σ' := by
      rintro ys σ' rfl hP h
      rw [h10]
      intro _
      exact wk_i (by omega) (bk_of _ (by omega) ⟨k + 1, rfl, rfl, by omega, by omega, hP, h⟩)
    rw [insA] at k10
    generalize insA cf k xs = Z at *
    refine ⟨fun m i σ' => ∃ (j : Nat) (ys : List Int), m = j ∧ i = j ∧ j < xs.length ∧ ys.length = xs.length ∧ insJ cf j ys = insJ cf k Z ∧ AllI P ys ∧ ∃ σ1, OwnSl 3 [.int .i64] σ0 A n c ys σ1 ∧ Hp.Sub σ1 σ', ⟨_, k, Z, rfl, rfl, hkl, hlen, rfl, hPk, σ1, ho1, hs1⟩, ?_⟩
    rintro m i σ' ⟨j, ys, rfl, rfl, hj, hyl, hins, hPy, σ2, ho2, hs2⟩ _
    refine cut_intro fun J21 h21 => cut_intro fun J41 h41 => ?_
    have hrd : RdS [.int .i64] σ' A n ys := ho2.rd.sub hs2
    have hn : n = xs.length := by have := hrd.lenI; omega
    cases m with
    | zero =>
      refine bc_d (fun h => by omega) (fun _ => ?_)
      rw [h41]
      exact fun _ => bc_f (k10 _ _ hins hPy ⟨σ2, ho2, hs2⟩)
    | succ j =>
      have e1 : ((j + 1 : Nat) : Int) - 1 = (j : Nat) := by omega
      refine bc_d (fun _ => ?_) (fun h => by omega)
      refine gixg hrd (by omega) (by omega) (wk_i (by omega) ?_)
      rw [e1]
      refine gixg hrd (by omega) (by omega) (hf _ (ho2.sub.trans hs2) _ _ (hPy _ (by omega)) (hPy _ (by omega)) _ ?_)
      rw [h41]
      intro _
      refine bc_d (fun hc => ?_) (fun hc => k10 ys _ ?_ hPy ⟨σ2, ho2, hs2⟩)
      · rw [h21]
        intro _
        refine wk_i (by omega) (wk_i (by omega) ?_)
        rw [e1]
        refine gixg hrd (by omega) (by omega) (gixg hrd (by omega) (by omega) ?_)
        refine ho2.ix_stI hs2 (by omega) (by omega) fun σ3 τ3 ho3 hs3 => ?_
        refine ho3.ix_stI hs3 (by omega) (by simp; omega) fun σ4 τ4 ho4 hs4 => ?_
        refine wk_i (by omega) (bk_of j (by omega) ⟨j, swp2 ys j, rfl, by omega, by omega, by rw [swp2_len, hyl], ?_, hPy.swp2 (by omega), σ4, ?_, hs4⟩)
        · rw [← hins, insJ, if_pos hc]
        · simpa [swp2] using ho4
      · rw [← hins, insJ, if_neg hc]
  · have : k = max xs.length 1 := by omega
    rw [this] at ho1
    exact rt_sub hs1 ho1
theorem c_SortStable {σ0 σ : Hp} {A : Option Addr} {n c : Nat} {xs : List Int} {f : Value} {cf : Int → Int → Int} {P : Int → Prop} (hf : CmpI f cf P σ0) (hP : AllI P xs) (ho : OwnSl 3 [.int .i64] σ0 A n c xs σ) (hl : xs.length ≤ 8) :
    FCalls Try.prog N_slices_SortStableFunc_int #[.slice A n c, f] σ fun _ σ' => OwnSl 3 [.int .i64] σ0 A n c (insA cf (max xs.length 1) xs) σ' := by
  refine M_slices_SortStableFunc_int_ok _ _ _ _ _ _ ?_
  unfold M_slices_SortStableFunc_int
  have hn : n = xs.length := ho.len
  subst hn
  refine cl_of M_slices_stableCmpFunc_int_enter (R := fun _ σ' => OwnSl 3 [.int .i64] σ0 A xs.length c (insA cf (max xs.length 1) xs) σ') ?_ fun v σ' h => rt_of h
  refine M_slices_stableCmpFunc_int_ok _ _ _ _ _ _ _ ?_
  unfold M_slices_stableCmpFunc_int
  refine cut_intro fun J3 h3 => ?_
  refine ⟨fun m i j σ' => i = 0 ∧ j = 20 ∧ σ' = σ, ⟨0, rfl, rfl, rfl⟩, ?_⟩
  rintro m i j σ' ⟨rfl, rfl, rfl⟩ _
  refine bc_d (fun h => by omega) (fun _ => ?_)
  rw [h3]
  intro _
  refine cl_of M_slices_insertionSortCmpFunc_int_enter (c_insertion hf hP ho (by omega)) fun v σ2 h2 => ?_
  refine ⟨fun m i σ' => i = 20 ∧ σ' = σ2, ⟨0, rfl, rfl⟩, ?_⟩
  rintro m i σ' ⟨rfl, rfl⟩ _
  exact bc_d (fun h => by omega) (fun _ => rt_of h2)
end Go.Proofs.Ytmpkiaghkhhlhaa

/- Contracts of layer 4: where, as an iterator. No conditions but those that each theorem names. -/
namespace Go.Proofs.Ytmpkiaghkhhlhaa
open Go.RowKit

theorem FEnt.of {P : Program} {g : FuncId} {caps args : Array Value} {σ : Hp} {R : Value → Hp → Prop} (he : enterB P g = true) (h : FCalls P g (app3 #[] args caps) σ R) : FEnt P (.func (.func g) #[] caps) args σ R := fun σc hs => ⟨he, h σc hs⟩
/-- the k-th site that is tried -/
def cand (k : Nat) : Sit := (((k / 2 : Nat) : Int), decide (k % 2 = 1))
theorem c_where_1 {σ : Hp} {y : Value} {cap0 cap1 f : Option Addr} {V : FA} {F : Fd} {p : Int} {I : Nat → Hp → Prop} {Q : Hp → Prop} (hF : F.ok) (p0 : 0 ≤ p) (p1 : p < F.l.length)
    (hI : ∀ i τ, I i τ → FdR τ f V F ∧ Bx1 τ cap0 (.pointer f) ∧ Bx1 τ cap1 (.int .i64 p))
    (hno : ∀ i τ, i < 2 * F.g.C.length → I i τ → F.g.fit (pt F.l p) (cand i) F.bare = false → I (i + 1) τ)
    (hyes : ∀ i τ, i < 2 * F.g.C.length → I i τ → F.g.fit (pt F.l p) (cand i) F.bare = true → FFun Try.prog y #[sv (cand i)] τ fun v τ' => ∃ t : Bool, v = .bool t ∧ (t = true → I (i + 1) τ') ∧ (t = false → Q τ'))
    (h0 : I 0 σ) : FCalls Try.prog N_ground_field_where_1 #[y, .pointer cap0, .pointer cap1] σ fun _ σ' => I (2 * F.g.C.length) σ' ∨ Q σ' := by
  refine M_ground_field_where_1_ok _ _ _ _ _ ?_
  unfold M_ground_field_where_1
  obtain ⟨l1, l2, l3⟩ := hF.len
  obtain ⟨a1, a2, a3⟩ := hI 0 σ h0
  have hcn := a1.cn
  refine a2.ldP (a1.dC ?_)
  refine ⟨fun m i τ => ∃ k : Nat, m = F.g.C.length - k ∧ i = k ∧ k ≤ F.g.C.length ∧ I (2 * k) τ, ⟨_, 0, rfl, rfl, by omega, h0⟩, ?_⟩
  rintro m i τ ⟨k, rfl, rfl, hk, hIk⟩ _
  refine bc_d (fun hlt => ?_) (fun hlt => ?_)
  · have hkl : k < F.g.C.length := by omega
    refine cut_intro fun J15 h15 => ?_
    refine ⟨fun m j τ => ∃ e : Nat, m = 2 - e ∧ j = e ∧ e ≤ 2 ∧ I (2 * k + e) τ, ⟨_, 0, rfl, rfl, by omega, hIk⟩, ?_⟩
    rintro m j τ ⟨e, rfl, rfl, he, hIe⟩ _
    refine bc_d (fun hlt2 => ?_) (fun hlt2 => ?_)
    · have he2 : e < 2 := by omega
      refine cut_intro fun J26 h26 => ⟨by omega, by omega, decide (e = 1), ?_, ?_⟩
      · have : e = 0 ∨ e = 1 := by omega
        rcases this with rfl | rfl <;> rfl
      refine cut_intro fun J33 h33 => ?_
      have ec : cand (2 * k + e) = ((k : Int), decide (e = 1)) := by
        unfold cand
        have h1 : (2 * k + e) / 2 = k := by omega
        have h2 : (2 * k + e) % 2 = e := by omega
        rw [h1, h2]
      have k26 : ∀ τ, I (2 * k + (e + 1)) τ → J26 τ := by
        intro τ h
        rw [h26]
        intro _
        exact wk_i (by omega) (bk_of _ (by omega) ⟨e + 1, rfl, rfl, by omega, h⟩)
      obtain ⟨b1, b2, b3⟩ := hI _ τ hIe
      refine b2.ldP (b3.ldI ?_)
      refine clB M_ground_field_fits_enter (c_field_fits (s := ((k : Int), decide (e = 1))) b1 hF p0 p1) ?_
      have hy := hyes (2 * k + e) τ (by omega) hIe
      have hn := hno (2 * k + e) τ (by omega) hIe
      rw [ec] at hy hn
      refine bc_b (fun hfit => ?_) (fun hfit => ?_)
      · refine FFun.mono (hy hfit) ?_
        rintro v τ' ⟨t, rfl, ht, hq⟩
        refine ⟨t, rfl, ?_⟩
        rw [h33]
        intro _
        exact bc_nb (fun h => rt_of (.inr (hq h))) (fun h => k26 _ (ht h))
      · rw [h33]
        exact fun _ => bc_f (k26 _ (hn hfit))
    · have : e = 2 := by omega
      subst this
      rw [h15]
      intro _
      exact wk_i (by omega) (bk_of _ (by omega) ⟨k + 1, rfl, rfl, by omega, hIe⟩)
  · have : k = F.g.C.length := by omega
    subst this
    exact rt_of (.inl hIk)
end Go.Proofs.Ytmpkiaghkhhlhaa

/- Contracts of layer 4: what Award does, as a function on lists. No conditions but those that each theorem names. -/
namespace Go.Proofs.Ytmpkiaghkhhlhaa
open Go.RowKit

/-! ### Award, as the program does it -/
def stA (F : Fd) (p : Int) (w : Int) : Nat → Sit × Bool × Bool
  | 0 => ((-1, false), false, false)
  | i + 1 => if (stA F p w i).2.2 = true then stA F p w i else if F.g.fit (pt F.l p) (cand i) F.bare = true ∧ ((cand i).1 = w ∨ (stA F p w i).2.1 = false) then (cand i, true, decide ((cand i).1 = w)) else stA F p w i
theorem stA_done {F : Fd} {p w : Int} {j : Nat} (h : (stA F p w j).2.2 = true) : ∀ i, j ≤ i → stA F p w i = stA F p w j
  | 0, hi => by
    have : j = 0 := by omega
    subst this
    rfl
  | i + 1, hi => by
    rcases Nat.lt_or_ge j (i + 1) with hlt | hge
    · have := stA_done h i (by omega)
      rw [stA, if_pos (by rw [this]; exact h), this]
    · have : j = i + 1 := by omega
      subst this
      rfl
def awStep (F : Fd) (p : Int) : Fd := if (stA F p (pt F.l p).2.2.2.2 (2 * F.g.C.length)).2.1 = true then F.put p (stA F p (pt F.l p).2.2.2.2 (2 * F.g.C.length)).1 else F
def yearsC (l : List Pit) (a b : Int) : Int := (pt l b).2.2.2.1 - (pt l a).2.2.2.1
def order (l : List Pit) : List Int := insA (yearsC l) (max l.length 1) ((List.range l.length).map fun i : Nat => (i : Int))
def awF (g : Gnd) (l : List Pit) : Fd := (order l).foldl awStep (fd0 g l)
theorem pix3 {σ : Hp} {A : Option Addr} {n : Nat} {xs : List Pit} {i : Int} {K : Int → Prop} (h : RdS sP σ A n xs) (hi : 0 ≤ i) (hn : i < xs.length) (hk : K (pt xs i).2.2.2.1) : ix A n i 5 fun b a => ldI σ .i64 b (a + 3) K := by
  have h' : i.toNat < xs.length := by omega
  rw [pt_eq h'] at hk
  refine ix_of (ss := sP) h rfl hi h' fun b o hc => ?_
  exact ldI_of (hc 3 (by decide)) hk
theorem pix4 {σ : Hp} {A : Option Addr} {n : Nat} {xs : List Pit} {i : Int} {K : Int → Prop} (h : RdS sP σ A n xs) (hi : 0 ≤ i) (hn : i < xs.length) (hk : K (pt xs i).2.2.2.2) : ix A n i 5 fun b a => ldI σ .i64 b (a + 4) K := by
  have h' : i.toNat < xs.length := by omega
  rw [pt_eq h'] at hk
  refine ix_of (ss := sP) h rfl hi h' fun b o hc => ?_
  exact ldI_of (hc 4 (by decide)) hk
theorem c_Award_1 {σ : Hp} {cap0 A : Option Addr} {n c : Nat} {l : List Pit} {a b : Int} (h : Bx1 σ cap0 (.slice A n c)) (hl : RdS sP σ A n l) (hp : ∀ i, (h : i < l.length) → -1000000 ≤ l[i].2.2.2.1 ∧ l[i].2.2.2.1 ≤ 1000000) (ha : 0 ≤ a ∧ a < l.length) (hb : 0 ≤ b ∧ b < l.length) :
    FCalls Try.prog N_ground_Award_1 #[.int .i64 a, .int .i64 b, .pointer cap0] σ fun v σ' => v = .int .i64 (yearsC l a b) ∧ σ' = σ := by
  refine M_ground_Award_1_ok _ _ _ _ _ ?_
  unfold M_ground_Award_1
  have h1 := hp a.toNat (by omega)
  have h2 := hp b.toNat (by omega)
  rw [← pt_eq] at h1 h2
  exact h.ldS (pix3 hl hb.1 hb.2 (h.ldS (pix3 hl ha.1 ha.2 (wk_i (by omega) (rt_of ⟨rfl, rfl⟩)))))
theorem c_where {σ : Hp} {f : Option Addr} {p : Int} : FCalls Try.prog N_ground_field_where #[.pointer f, .int .i64 p] σ fun v σ' => ∃ c0 c1, v = .func (.func N_ground_field_where_1) #[] #[.pointer c0, .pointer c1] ∧ Hp.Sub σ σ' ∧ Bx1 σ' c0 (.pointer f) ∧ Bx1 σ' c1 (.int .i64 p) := by
  refine M_ground_field_where_ok _ _ _ _ ?_
  unfold M_ground_field_where
  intro b1 h1 b3 h3
  exact rt_of ⟨_, _, rfl, (Hp.Sub.ins _ h1).trans (Hp.Sub.ins _ h3), Bx1.ins.sub (Hp.Sub.ins _ h3), Bx1.ins⟩
/-- the heap while the sites are gone through -/
structure AwH (σb : Hp) (b57 b59 b61 l : Nat) (p : Int) (r : Obj) (best : Sit) (found : Bool) (τ : Hp) : Prop where
  sub : Hp.Sub σb τ
  h57 : τ b57 = some (.cells #[.int .i64 p] 3 (0, 0), true)
  h59 : τ b59 = some (.cells #[.int .i64 best.1, .bool best.2] 50 (0, 0), true)
  h61 : τ b61 = some (.cells #[.bool found] 4 (0, 0), true)
  hl : τ l = some (r, true)
structure AwN (σb : Hp) (b57 b59 b61 l : Nat) : Prop where
  n57 : σb b57 = none
  n59 : σb b59 = none
  n61 : σb b61 = none
  nl : σb l = none
  d1 : b57 ≠ b59
  d2 : b57 ≠ b61
  d3 : b59 ≠ b61
  d4 : l ≠ b57
  d5 : l ≠ b59
  d6 : l ≠ b61
section
variable {σb : Hp} {b57 b59 b61 l : Nat} {p : Int} {r : Obj} {best : Sit} {found : Bool} {τ : Hp}
theorem AwH.recs (h : AwH σb b57 b59 b61 l p r best found τ) (n : AwN σb b57 b59 b61 l) (r' : Obj) : AwH σb b57 b59 b61 l p r' best found (τ.ins l r') := by
  refine ⟨fun k x hx => ?_, ?_, ?_, ?_, Hp.ins_same ..⟩
  · have : k ≠ l := fun e => by rw [e, n.nl] at hx; cases hx
    rw [Hp.ins_ne _ this]; exact h.sub _ _ hx
  · rw [Hp.ins_ne _ n.d4.symm]; exact h.h57
  · rw [Hp.ins_ne _ n.d5.symm]; exact h.h59
  · rw [Hp.ins_ne _ n.d6.symm]; exact h.h61
theorem AwH.set (h : AwH σb b57 b59 b61 l p r best found τ) (n : AwN σb b57 b59 b61 l) {s : Sit} {K : Hp → Prop} (hk : ∀ τ', AwH σb b57 b59 b61 l p r s true τ' → K τ') :
    st τ b59 0 (.int .i64 s.1) fun τ1 => st τ1 b59 1 (.bool s.2) fun τ2 => st τ2 b61 0 (.bool true) K := by
  have e1 : τ.put ⟨b59, 0, none⟩ (.int .i64 s.1) b59 = some (.cells #[.int .i64 s.1, .bool best.2] 50 (0, 0), true) := Hp.put_same h.h59
  have e2 : (τ.put ⟨b59, 0, none⟩ (.int .i64 s.1)).put ⟨b59, 1, none⟩ (.bool s.2) b59 = some (.cells #[.int .i64 s.1, .bool s.2] 50 (0, 0), true) := Hp.put_same e1
  have e3 : (τ.put ⟨b59, 0, none⟩ (.int .i64 s.1)).put ⟨b59, 1, none⟩ (.bool s.2) b61 = some (.cells #[.bool found] 4 (0, 0), true) := by
    rw [Hp.put_ne n.d3.symm, Hp.put_ne n.d3.symm]; exact h.h61
  refine ⟨⟨_, _, h.h59, by simp, rfl⟩, ⟨_, _, e1, by simp, rfl⟩, ⟨_, _, e3, by simp, rfl⟩, hk _ ⟨fun k x hx => ?_, ?_, ?_, Hp.put_same e3, ?_⟩⟩
  · have k1 : k ≠ b59 := fun e => by rw [e, n.n59] at hx; cases hx
    have k2 : k ≠ b61 := fun e => by rw [e, n.n61] at hx; cases hx
    rw [Hp.put_ne k2, Hp.put_ne k1, Hp.put_ne k1]; exact h.sub _ _ hx
  · rw [Hp.put_ne n.d2, Hp.put_ne n.d1, Hp.put_ne n.d1]; exact h.h57
  · rw [Hp.put_ne n.d3]; exact e2
  · rw [Hp.put_ne n.d6, Hp.put_ne n.d5, Hp.put_ne n.d5]; exact h.hl
theorem cells_get {b i : Nat} {cs : Array Value} {e : TypeId} {rw' : Bool} {f : Nat × Nat} {v : Value} (h : τ b = some (.cells cs e f, rw')) (hv : cs[i]? = some v) : τ.cell? ⟨b, i, none⟩ = some v := by
  unfold Hp.cell?
  simp only [h]
  exact hv
end
theorem idK {N k : Nat} (h : k < N) : (((List.range k).map fun i : Nat => (i : Int)) ++ List.replicate (N - k) 0).set k k = ((List.range (k + 1)).map fun i : Nat => (i : Int)) ++ List.replicate (N - (k + 1)) 0 := by
  rw [List.set_append_right _ _ (by simp)]
  have e : List.replicate (N - k) (0 : Int) = 0 :: List.replicate (N - (k + 1)) 0 := by
    rw [← List.replicate_succ]
    congr 1
    omega
  rw [e, List.range_succ]
  simp
/-- what hands back sites and an error -/
def NewS (σ : Hp) (xs : List Sit) (e : Int) : Value → Hp → Prop := fun v σ' => ∃ A n c, v = .tuple #[.slice A n c, .int .i64 e] ∧ OwnSl 50 sS σ A n c xs σ'
theorem awStep_ok {F : Fd} (h : F.ok) (p : Int) : (awStep F p).ok ∧ (awStep F p).g = F.g ∧ (awStep F p).l = F.l := by
  unfold awStep
  split
  · exact ⟨h.put _ _, rfl, rfl⟩
  · exact ⟨h, rfl, rfl⟩
end Go.Proofs.Ytmpkiaghkhhlhaa

/- Contracts of layer 4: ground.Award. No conditions but those that each theorem names. -/
namespace Go.Proofs.Ytmpkiaghkhhlhaa
open Go.RowKit

theorem foldAw_ok {F : Fd} (h : F.ok) : ∀ (ps : List Int), (ps.foldl awStep F).ok ∧ (ps.foldl awStep F).g = F.g ∧ (ps.foldl awStep F).l = F.l := by
  intro ps
  induction ps generalizing F with
  | nil => exact ⟨h, rfl, rfl⟩
  | cons p ps ih =>
    obtain ⟨a1, a2, a3⟩ := awStep_ok h p
    obtain ⟨b1, b2, b3⟩ := ih a1
    exact ⟨b1, b2.trans a2, b3.trans a3⟩
theorem AllI_insJ {cf : Int → Int → Int} {P : Int → Prop} : ∀ (j : Nat) {xs : List Int}, j < xs.length ∨ j = 0 → AllI P xs → AllI P (insJ cf j xs)
  | 0, _, _, h => h
  | j + 1, xs, hj, h => by
    unfold insJ
    split
    · exact AllI_insJ j (.inl (by rw [swp2_len]; omega)) (h.swp2 (by omega))
    · exact h
theorem AllI_insA {cf : Int → Int → Int} {P : Int → Prop} {xs : List Int} (h : AllI P xs) : ∀ k : Nat, k ≤ max xs.length 1 → AllI P (insA cf k xs)
  | 0, _ => h
  | k + 1, hk => by
    unfold insA
    exact AllI_insJ k (by rw [insA_len]; omega) (AllI_insA h k (by omega))
theorem FdW.box {σ0 σ : Hp} {f : Option Addr} {V : FA} {F : Fd} (h : FdW σ0 σ f V F) {b : Nat} (hb : σ b = none) (o : Obj) : FdW (σ0.ins b o) (σ.ins b o) f V F := by
  have hb0 := h.base.none hb
  obtain ⟨h0, σ1, σ2, h1, h2, h3⟩ := h
  have hb2 := h3.none hb
  have hb1 := h2.sub.none hb2
  exact ⟨h0.sub (Hp.Sub.ins _ hb0), _, _, h1.ins_base hb1 _, h2.ins_base hb2 _, h3.ins_both b _⟩
theorem c_Award {σ : Hp} {x : GV} {g : Gnd} {lA : Option Addr} {ln lc : Nat} {l : List Pit} (hg : GRd σ x g) (hl : RdS sP σ lA ln l) (hch : (chkP g l).2 = 0) :
    FCalls Try.prog N_ground_Award #[x.v g, .slice lA ln lc] σ (NewS σ (awF g l).st 0) := by
  refine M_ground_Award_ok _ _ _ _ _ _ _ _ _ _ _ _ _ ?_
  unfold M_ground_Award
  have hln := hl.lenP
  obtain ⟨hok, h8, hp, h00⟩ := chkP_ok hch
  refine cl_of M_ground_empty_enter (c_empty hg hl) ?_
  rintro v σ2 (⟨hne, rfl, rfl⟩ | ⟨_, f, V, σ0, rfl, hs0, hfw⟩)
  · exact absurd hch hne
  refine ⟨_, _, _, rfl, bc_nd (fun h => absurd hch h) (fun _ => ⟨by omega, by omega, by omega, cut_intro fun J8 h8' => ?_⟩)⟩
  have hs2 : Hp.Sub σ σ2 := hs0.trans hfw.base
  have hF0 := fd0_ok hch
  refine ⟨fun m i xs τ => ∃ k : Nat, m = l.length - k ∧ i = k ∧ k ≤ l.length ∧ xs = ((List.range k).map fun i : Nat => (i : Int)) ++ List.replicate (l.length - k) 0 ∧ τ = σ2, ⟨_, 0, rfl, rfl, by omega, by simp [hln], rfl⟩, ?_⟩
  rintro m i xs τ ⟨k, rfl, rfl, hk, rfl, rfl⟩ _
  have hrepl : ((List.length (List.replicate (((ln : Nat) : Int) : Int).toNat 0 : List Int) : Nat) : Int) = l.length := by rw [List.length_replicate]; omega
  rw [hrepl]
  refine bc_d (fun hlt => ⟨by omega, ?_, lat_I (by omega) ?_ ?_⟩) (fun hlt => ?_)
  · simp; omega
  · simp; omega
  · refine wk_i (by omega) (bk_of _ ?_ ⟨k + 1, rfl, rfl, by omega, ?_, rfl⟩)
    · omega
    · simp only [Int.toNat_natCast]
      exact idK (by omega)
  have hkk : k = l.length := by omega
  rw [h8', hkk]
  intro _
  simp only [Nat.sub_self, List.replicate_zero, List.append_nil]
  intro b10 hb10 A12 l12 c12 σ13 o13
  have e10 : Hp.Sub τ (τ.ins b10 (.cells #[.slice lA ln lc] 25)) := Hp.Sub.ins _ hb10
  have hbx : Bx1 (τ.ins b10 (.cells #[.slice lA ln lc] 25)) (some ⟨b10, 0, none⟩) (.slice lA ln lc) := Bx1.ins
  have hlx := hl.sub (hs2.trans e10)
  have hyr : ∀ i, (h : i < l.length) → -1000000 ≤ l[i].2.2.2.1 ∧ l[i].2.2.2.1 ≤ 1000000 := by
    intro i hi
    have := of_decide_eq_true (hp i hi)
    omega
  have hcmp : CmpI (.func (.func N_ground_Award_1) #[] #[.pointer (some ⟨b10, 0, none⟩)]) (yearsC l) (fun a => 0 ≤ a ∧ a < l.length) (τ.ins b10 (.cells #[.slice lA ln lc] 25)) := by
    intro τ' hs a b ha hb K hK
    exact FFun.func M_ground_Award_1_enter ((c_Award_1 (hbx.sub hs) (hlx.sub hs) hyr ha hb).mono fun _ _ ⟨e1, e2⟩ => by subst e1; subst e2; exact ⟨_, rfl, hK⟩)
  have hall : AllI (fun a => 0 ≤ a ∧ a < l.length) ((List.range l.length).map fun i : Nat => (i : Int)) := by
    intro i hi
    rw [gt_nat hi]
    simp at hi ⊢
    omega
  have hlr : ((List.range l.length).map fun i : Nat => (i : Int)).length = l.length := by simp
  refine cl_of M_slices_SortStableFunc_int_enter (c_SortStable hcmp hall o13 (by omega)) fun v14 σ15 o15 => ?_
  rw [hlr] at o15
  refine adp_own o15 ?_
  have hfw1 := hfw.box hb10 (.cells #[.slice lA ln lc] 25)
  have hb0 := hfw.base.none hb10
  have hsσ : Hp.Sub σ (σ0.ins b10 (.cells #[.slice lA ln lc] 25)) := hs0.trans (Hp.Sub.ins _ hb0)
  have hbx0 : Bx1 (σ0.ins b10 (.cells #[.slice lA ln lc] 25)) (some ⟨b10, 0, none⟩) (.slice lA ln lc) := Bx1.ins
  generalize σ0.ins b10 (.cells #[.slice lA ln lc] 25) = σB at *
  generalize τ.ins b10 (.cells #[.slice lA ln lc] 25) = σ17 at *
  show cut _ _
  have hord : insA (yearsC l) (max l.length 1) (List.map (fun i : Nat => (i : Int)) (List.range l.length)) = order l := rfl
  rw [hord]
  have hoall : AllI (fun a => 0 ≤ a ∧ a < l.length) (order l) := AllI_insA hall _ (by rw [hlr]; omega)
  have holen : (order l).length = l.length := by unfold order; rw [insA_len, hlr]
  refine cut_intro fun J20 h20 => ?_
  refine ⟨fun m i σ' => ∃ k : Nat, m = (order l).length - k ∧ i = k ∧ k ≤ (order l).length ∧ FdW σB σ' f V (((order l).take k).foldl awStep (fd0 g l)), ⟨_, 0, rfl, rfl, by omega, hfw1⟩, ?_⟩
  rintro m i σ25 ⟨k, rfl, rfl, hk, hfk⟩ _
  refine bc_d (fun hlt => ?_) (fun hlt => ?_)
  · have hkl : k < (order l).length := by omega
    refine cut_intro fun J31 h31 => ⟨by omega, by omega, lat_I (by omega) (by omega) ?_⟩
    have hpr := hoall k hkl
    have k31 : ∀ σ', FdW σB σ' f V (awStep (((order l).take k).foldl awStep (fd0 g l)) (gt (order l) k)) → J31 σ' := by
      intro σ' h
      rw [h31]
      intro _
      refine wk_i (by omega) (bk_of _ (by omega) ⟨k + 1, rfl, rfl, by omega, ?_⟩)
      rw [take_fold hkl, ← gt_nat hkl]
      exact h
    obtain ⟨hFk, egk, elk⟩ := foldAw_ok hF0 ((order l).take k)
    generalize ((order l).take k).foldl awStep (fd0 g l) = F at *
    generalize gt (order l) k = p at *
    have eg : F.g = g := egk
    have el : F.l = l := elk
    refine cut_intro fun J38 h38 => ?_
    refine cl_of M_ground_field_where_enter c_where ?_
    rintro v54 σ55 ⟨c0, c1, rfl, hs55, hc0, hc1⟩
    refine ⟨_, rfl, ?_⟩
    intro b57 n57 b59 n59 b61 n61
    obtain ⟨d1, n59'⟩ := ins_eq_none n59
    obtain ⟨d3, n61'⟩ := ins_eq_none n61
    obtain ⟨d2, n61''⟩ := ins_eq_none n61'
    have hW : (pt F.l p).2.2.2.2 = (pt l p).2.2.2.2 := by rw [el]
    generalize hw : (pt l p).2.2.2.2 = w at *
    have k38 : ∀ lb r best found τ, AwN σ55 b57 b59 b61 lb → AwH σ55 b57 b59 b61 lb p r best found τ → (stA F p w (2 * F.g.C.length)).1 = best → (stA F p w (2 * F.g.C.length)).2.1 = found → J38 (some ⟨b57, 0, none⟩) (some ⟨b59, 0, none⟩) (some ⟨b61, 0, none⟩) τ := by
      rintro lb r best found τ hN hA rfl rfl
      have hfτ : FdW σB τ f V F := hfk.less (hs55.trans hA.sub)
      unfold awStep at k31
      rw [hW] at k31
      rw [h38]
      intro _
      refine dr_i (ldB_of (cells_get hA.h61 rfl) (bc_b (fun hfd => ?_) (fun hfd => ?_)))
      · rw [if_pos hfd] at k31
        refine dr_i (ldI_of (cells_get hA.h57 rfl) (dr_i (ldI_of (cells_get hA.h59 rfl) (ldB_of (cells_get hA.h59 rfl) ?_))))
        exact cl_of M_ground_field_put_enter (c_put (s := (stA F p w (2 * F.g.C.length)).1) hfτ hFk hpr.1 (by rw [el]; exact hpr.2)) fun v σ' h => k31 _ h
      · rw [if_neg (by rw [hfd]; simp)] at k31
        exact k31 _ hfτ
    intro lb Rec hlb hcall
    obtain ⟨d6, hlb'⟩ := ins_eq_none hlb
    obtain ⟨d5, hlb''⟩ := ins_eq_none hlb'
    obtain ⟨d4, hlb3⟩ := ins_eq_none hlb''
    have hN : AwN σ55 b57 b59 b61 lb := ⟨n57, n59', n61'', hlb3, d1.symm, d2.symm, d3.symm, d4, d5, d6⟩
    have hA0 : AwH σ55 b57 b59 b61 lb p (Rec .ready none) (-1, false) false ((((σ55.ins b57 (.cells #[.int .i64 p] 3)).ins b59 (.cells #[.int .i64 (-1), .bool false] 50)).ins b61 (.cells #[.bool false] 4)).ins lb (Rec .ready none)) := by
      refine ⟨((Hp.Sub.ins _ n57).trans (Hp.Sub.ins _ n59)).trans ((Hp.Sub.ins _ n61).trans (Hp.Sub.ins _ hlb)), ?_, ?_, ?_, Hp.ins_same ..⟩
      · rw [Hp.ins_ne _ d4.symm, Hp.ins_ne _ d2.symm, Hp.ins_ne _ d1.symm, Hp.ins_same]
      · rw [Hp.ins_ne _ d5.symm, Hp.ins_ne _ d3.symm, Hp.ins_same]
      · rw [Hp.ins_ne _ d6.symm, Hp.ins_same]
    have hf55 := hfk.r.sub hs55
    refine FEnt.of M_ground_field_where_1_enter (FCalls.mono (c_where_1 (y := .func (.yield lb) #[] #[]) (f := f) (V := V) (F := F) (p := p)
      (I := fun i τ => (stA F p w i).2.2 = false ∧ AwH σ55 b57 b59 b61 lb p (Rec .ready none) (stA F p w i).1 (stA F p w i).2.1 τ)
      (Q := fun τ => ∃ j, j ≤ 2 * F.g.C.length ∧ (stA F p w j).2.2 = true ∧ AwH σ55 b57 b59 b61 lb p (Rec .done (some (.exit 4))) (stA F p w j).1 (stA F p w j).2.1 τ)
      hFk hpr.1 (by rw [el]; exact hpr.2) (fun i τ h => ⟨hf55.sub h.2.sub, hc0.sub h.2.sub, hc1.sub h.2.sub⟩) (fun i τ hi h hfit => ?_) (fun i τ hi h hfit => ?_) ⟨rfl, hA0⟩) ?_)
    · have : stA F p w (i + 1) = stA F p w i := by rw [stA, if_neg (by rw [h.1]; simp), if_neg (by rw [hfit]; simp)]
      rw [this]
      exact h
    · obtain ⟨hd, hA⟩ := h
      refine hcall _ _ _ hA.hl ⟨(cand i).1, (cand i).2, rfl, fun _ => ⟨hA.hl, ?_⟩⟩
      have hA1 := hA.recs hN (Rec .busy none)
      generalize τ.ins lb (Rec .busy none) = τ1 at *
      have hsB : Hp.Sub σB τ1 := hfk.base.trans (hs55.trans hA1.sub)
      obtain ⟨bb, hbb, hcell⟩ := hbx0.sub hsB
      cases hbb
      have hlτ := hl.sub (hsσ.trans hsB)
      refine ldS_of hcell (ldI_of (cells_get hA1.h57 rfl) (pix4 hlτ hpr.1 hpr.2 ?_))
      rw [hw]
      refine cut_intro fun J81 h81 => ?_
      have k81 : ∀ t, t = decide ((cand i).1 = w ∨ (stA F p w i).2.1 = false) → J81 t τ1 := by
        rintro t rfl
        rw [h81]
        intro _
        refine bc_d (fun ht => ?_) (fun ht => ?_)
        · have e : stA F p w (i + 1) = (cand i, true, decide ((cand i).1 = w)) := by rw [stA, if_neg (by rw [hd]; simp), if_pos ⟨hfit, ht⟩]
          refine hA1.set hN (s := cand i) fun τ2 hA2 => bc_d (fun hcw => ⟨hA2.hl, false, rfl, fun h => by (cases h), fun _ => ⟨i + 1, by omega, ?_, ?_⟩⟩) (fun hcw => ⟨hA2.hl, true, rfl, fun _ => ⟨?_, ?_⟩, fun h => by (cases h)⟩)
          · rw [e]; exact decide_eq_true hcw
          · rw [e]; exact hA2.recs hN _
          · rw [e]; exact decide_eq_false hcw
          · rw [e]; exact hA2.recs hN _
        · have e : stA F p w (i + 1) = stA F p w i := by rw [stA, if_neg (by rw [hd]; simp), if_neg (fun h => ht h.2)]
          refine ⟨hA1.hl, true, rfl, fun _ => ?_, fun h => by (cases h)⟩
          rw [e]
          exact ⟨hd, hA1.recs hN _⟩
      refine bc_d (fun hcw => k81 _ ?_) (fun hcw => ldB_of (cells_get hA1.h61 rfl) (k81 _ ?_))
      · simp [hcw]
      · cases (stA F p w i).2.1 <;> simp [hcw]
    · rintro v σ' (⟨hd, hA⟩ | ⟨j, hj, hd, hA⟩)
      · exact ⟨.ready, none, hA.hl, rfl, k38 _ _ _ _ _ hN (hA.recs hN _) rfl rfl⟩
      · have e := stA_done hd (2 * F.g.C.length) hj
        exact ⟨.done, some (.exit 4), hA.hl, rfl, k38 _ _ _ _ _ hN (hA.recs hN _) (by rw [e]) (by rw [e])⟩
  · have : k = (order l).length := by omega
    subst this
    rw [List.take_length] at hfk
    rw [h20]
    intro _
    refine hfk.r.toFdB.dS ?_
    obtain ⟨_, s1, s2, o1, o2, o3⟩ := hfk
    obtain ⟨s1', q1, q2⟩ := o1.base hsσ
    exact rt_sub (q2.trans (o2.sub.trans o3)) ⟨_, _, _, rfl, q1⟩
end Go.Proofs.Ytmpkiaghkhhlhaa

/- Contracts of layer 4: works returns true. No conditions but those that each theorem names. -/
namespace Go.Proofs.Ytmpkiaghkhhlhaa
open Go.RowKit

/-! ### The example -/
def exG : Gnd := ⟨4, 3, [3, 0, 0, 0, 0, 1, 2, 0, 0, 0, 0, 3], List.replicate 12 0⟩
def exL : List Pit := [(2, 1, 0, 3, 9), (1, 1, 0, 5, 9)]
set_option maxRecDepth 100000 in
theorem ex_chk : (chkP exG exL).2 = 0 := by decide +kernel
set_option maxRecDepth 100000 in
theorem ex_award : (awF exG exL).st = [(1, false), (9, false)] := by decide +kernel
set_option maxRecDepth 100000 in
theorem ex_cable : cabS exG [] [] 0 11 = ([0, 1, 2, 3, 7, 11], 5, 0) := by decide +kernel
theorem c_works {σ : Hp} : FCalls Try.prog N_law04_works #[] σ fun v σ' => v = .bool true ∧ σ' = σ := by
  refine M_law04_works_ok _ _ ?_
  unfold M_law04_works
  refine cl_of (R := fun v σ' => ∃ x lA ln lc, v = .tuple #[GV.v x exG, .slice lA ln lc] ∧ Hp.Sub σ σ' ∧ GRd σ' x exG ∧ RdS sP σ' lA ln exL) M_law04_Example_enter ?_ ?_
  · refine M_law04_Example_ok _ _ ?_
    unfold M_law04_Example
    refine ⟨by omega, by omega, by omega, ?_⟩
    intro A1 l1 c1 σ2 o1 A3 l3 c3 σ4 o3 A5 l5 c5 σ6 o5
    exact rt_of ⟨⟨A1, l1, c1, A3, l3, c3⟩, _, _, _, rfl, o1.sub.trans (o3.sub.trans o5.sub), ⟨o1.rd.sub (o3.sub.trans o5.sub), o3.rd.sub o5.sub⟩, o5.rd⟩
  · rintro v σ2 ⟨x, lA, ln, lc, rfl, hs2, hg, hl⟩
    refine ⟨_, _, _, _, _, _, _, _, _, _, _, rfl, ?_⟩
    refine cl_of M_ground_Award_enter (c_Award (x := x) hg hl ex_chk) ?_
    rw [ex_award]
    rintro v σ9 ⟨A10, l10, c10, rfl, o10⟩
    refine ⟨_, _, _, _, rfl, ?_⟩
    refine cl_of M_ground_Cable_enter (c_ground_Cable (x := x) (l := []) (st := []) (a := 0) (b := 11) (hg.sub o10.sub) (lA := none) (ln := 0) (lc := 0) (sA := none) (sn := 0) (sc := 0) ⟨rfl, .inl rfl⟩ ⟨rfl, .inl rfl⟩) ?_
    rw [ex_cable]
    rintro v σ13 ⟨A14, l14, c14, rfl, o14⟩
    refine ⟨_, _, _, _, _, rfl, bc_d (fun _ => bc_d (fun _ => bc_d (fun _ => ?_) (fun h => absurd rfl h)) (fun h => absurd rfl h)) (fun h => absurd rfl h)⟩
    intro A17 l17 c17 σ18 o17
    have hr14 : RdS [.int .i64] σ18 A14 l14 ([0, 1, 2, 3, 7, 11] : List Int) := o14.rd.sub o17.sub
    refine clB M_law04_sameInts_enter (c_sameInts (b := [0, 1, 2, 3, 7, 11]) hr14 o17.rd (by simp)) ?_
    refine bc_d (fun _ => ?_) (fun h => absurd rfl h)
    intro A22 l22 c22 σ23 o22
    have hr10 : RdS sS σ23 A10 l10 ([(1, false), (9, false)] : List Sit) := o10.rd.sub (o14.sub.trans (o17.sub.trans o22.sub))
    refine clB M_law04_sameSites_enter (c_sameSites (b := [(1, false), (9, false)]) hr10 o22.rd (by simp)) ?_
    refine rt_sub (hs2.trans (o10.sub.trans (o14.sub.trans (o17.sub.trans o22.sub)))) ⟨?_, rfl⟩
    simp
end Go.Proofs.Ytmpkiaghkhhlhaa

/- J, part 1: from what a function does on a part of a heap to a row's claim: arguments opened, the claim shut. No program in sight. -/
namespace Go.Proofs.Ytmpkiaghkhhlhaa
open Go.RowKit Go.ChangeShapes Go.WideShapes Go.Deep Go.Joins

/-- all that a world holds, to be read -/
def whole (W : World) : Hp := fun b => (W.heap[b]?).map fun o => (o, false)
theorem sat_whole (W : World) : Sat W.heap.size W [] (whole W) W := by
  refine ⟨Below.refl _ _, Nat.le_refl _, fun m hm => (by cases hm), List.nodup_nil, fun b o rw h => ?_⟩
  unfold whole at h
  cases e : W.heap[b]? with
  | none => rw [e] at h; cases h
  | some x =>
    rw [e] at h
    cases h
    refine ⟨rfl, fun h => (by cases h), fun _ => ?_⟩
    exact (Array.getElem?_eq_some_iff.1 e).1
theorem whole_cell {W : World} {b : Nat} {c : Array Value} {e : TypeId} {f : Nat × Nat} (h : W.heap[b]? = some (.cells c e f)) : whole W b = some (.cells c e f, false) := by
  unfold whole
  rw [h]
  rfl
theorem calls_whole {P : Program} {n : FuncId} {args : Array Value} {W : World} (h : FCalls P n args (whole W) fun v _ => v = .bool true) :
    Calls P n args W fun e W' => e = .returned (.bool true) ∧ Below W.heap.size W W' :=
  (h.calls _ _ _ _ (sat_whole W)).mono fun e W' ⟨v, σ', he, ⟨_, _, hv⟩, hs⟩ => ⟨by rw [he, hv], hs.below⟩

section
variable {H : Type} {enc : TypeId × Value → H} {P : Program}
theorem post_of_below {f : Func} {s : ChangeSpec} {apart fresh handsOn again : Bool} {W W' : World} {args : Array Value} {v : Value} {ds gs : List (DataW H)} {before pa pv : List MemPlace}
    (hW : DataW.Whole enc P f.params.toList s.vars apart W args.toList ds gs before)
    (hres : ∀ (b : Nat) (sp : Nat → Bool) (hd : Bool), DataW.TrodAll enc P W' b sp hd f.resultTypes.toList (v.resultList f.resultTypes.size) (s.fn H (ds ++ gs)).results [])
    (hargs : ∀ sp : Nat → Bool, (∀ p ∈ before, sp p.block = true) → DataW.TrodAll enc P W' 0 sp true f.params.toList args.toList (s.fn H (ds ++ gs)).args pa)
    (hvars : ∀ sp : Nat → Bool, (∀ p ∈ before, sp p.block = true) → DataW.TrodVars enc P W' sp s.vars (s.fn H (ds ++ gs)).vars pv)
    (hps : before = pa ++ pv) (hb : Below W.heap.size W W')
    (hok : ∀ (j : Nat) (t : TypeId) (r : Value), f.resultTypes[j]? = some t → (v.resultList f.resultTypes.size)[j]? = some r → Value.okWide P W' .any 0 t r) :
    s.post enc P f apart fresh handsOn again W args v W' := by
  have hlt : ∀ p ∈ before, p.block < W.heap.size := fun p hp => hW.lt p hp
  have hold : ∀ p ∈ before, (fun b => decide (b < W.heap.size)) p.block = true := fun p hp => by simpa using hlt p hp
  refine ⟨ds, gs, before, [], pa, pv, hW, hres _ _ _, hargs _ hold, hvars _ hold, World.keptBut_mono (fun p hp => ⟨hp, ?_⟩) (hb.frame (· ∈ before)), fun _ => ?_⟩
  · rw [hps, List.mem_append] at hp
    exact Or.inr hp
  · obtain ⟨_, _, _, _, _, hz, hn⟩ := hW
    refine ⟨hok, _, _, ([] ++ pa) ++ pv, ⟨[] ++ pa, pv, trodAll_append (hargs _ (fun _ _ => rfl)) (hres _ _ _), hvars _ (fun _ _ => rfl), rfl, ?_, ?_⟩, ?_⟩
    · intro b off hp
      have hin : MemPlace.cell b off ∈ before := by rw [hps]; simpa using hp
      rw [hb.frozen (hlt _ hin)]
      exact hz b off hin
    · intro ha
      have := hn ha
      rw [hps] at this
      simpa using this
    · intro p hp _
      rw [hps]
      simpa using hp
theorem trodAll_below (hl : laidOutB P = true) {W W' : World} (hb : Below W.heap.size W W') {sp : Nat → Bool} : ∀ {ts : List TypeId} {vs : List Value} {ds : List (DataW H)} {p : List MemPlace},
    ts.all (fun t => P.readableRec t && decide (t < P.types.size)) = true → DataW.TrodAll enc P W 0 (fun _ => true) true ts vs ds p → (∀ x ∈ p, x.block < W.heap.size) → (∀ x ∈ p, sp x.block = true) → DataW.TrodAll enc P W' 0 sp true ts vs ds p
  | [], _, _, _, _, h, _, _ => by
    obtain ⟨rfl, rfl, rfl⟩ := trodAll_nil h
    exact trodAll_mk0
  | t :: ts, _, _, _, ht, h, hlt, hsp => by
    obtain ⟨v, vs, d, ds, p, q, rfl, rfl, rfl, h1, h2⟩ := trodAll_cons h
    simp only [List.all_cons, Bool.and_eq_true, decide_eq_true_eq] at ht
    exact ⟨p, q, WideElems.Trod_stays hl ht.1.1 ht.1.2 h1 (fun x hx => hb.same (hlt x (List.mem_append_left _ hx))) (fun x hx => hsp x (List.mem_append_left _ hx)), trodAll_below hl hb (by simpa using ht.2) h2 (fun x hx => hlt x (List.mem_append_right _ hx)) (fun x hx => hsp x (List.mem_append_right _ hx)), rfl⟩
/-- A law that hands back true and leaves what came in. -/
theorem law_shut {f : Func} {s : ChangeSpec} {n : FuncId} {W : World} {args : Array Value} {ds : List (DataW H)} {p : List MemPlace} {tb : TypeId}
    (hl : laidOutB P = true) (hr : f.params.toList.all (fun t => P.readableRec t && decide (t < P.types.size)) = true) (hres : f.resultTypes = #[tb]) (htb : P.underlying tb = some .bool)
    (hsv : s.vars = []) (hsp : s.fn H ds = { results := [.lit (.bool true)], args := ds })
    (hW : DataW.Whole enc P f.params.toList s.vars false W args.toList ds [] p) (hA : DataW.TrodAll enc P W 0 (fun _ => true) true f.params.toList args.toList ds p)
    (h : FCalls P n args (whole W) fun v _ => v = .bool true) : Calls P n args W fun e W' => ∃ v, e = .returned v ∧ s.post enc P f false true false false W args v W' := by
  refine (calls_whole h).mono fun e W' ⟨he, hb⟩ => ⟨_, he, ?_⟩
  refine post_of_below (pa := p) (pv := []) hW ?_ ?_ ?_ (by simp) hb ?_
  · intro b sp hd
    rw [hres, List.append_nil, hsp]
    exact trodAll_mk1 (shut_bool htb true)
  · intro sp hs
    rw [List.append_nil, hsp]
    exact trodAll_below hl hb hr hA (fun x hx => hW.lt x hx) hs
  · intro sp _
    rw [hsv, List.append_nil, hsp]
    rfl
  · exact ok_one hres rfl (okWide_bool_mk htb true)

/-! ### Slices opened -/
/-- an element's cells are of these kinds -/
def EltP (P : Program) (e : TypeId) (ss : List Sh) : Prop := ∀ (H : Type) (enc : TypeId × Value → H) (w : World) (b : Nat) (sp : Nat → Bool) (hd : Bool) (fuel : Nat) (cs : List Value) (y : DataW H × List MemPlace), DataW.trod enc P w b sp hd fuel e cs = some y → ∃ x : TyR ss, cs = encR ss x
theorem encC_of : ∀ (ss : List Sh) (s : Sh) (cs : List Value), cs.length = ss.length + 1 → (∀ (j : Nat) (t : Sh) (v : Value), (s :: ss)[j]? = some t → cs[j]? = some v → ∃ x, v = enc1 t x) → ∃ x : TyC ss s, cs = encC ss s x
  | [], s, cs, hl, h => by
    match cs, hl with
    | [v], _ =>
      obtain ⟨x, rfl⟩ := h 0 s v rfl rfl
      exact ⟨x, rfl⟩
  | t :: ss, s, cs, hl, h => by
    match cs, hl with
    | v :: us, hl =>
      obtain ⟨x, rfl⟩ := h 0 s v rfl rfl
      obtain ⟨y, rfl⟩ := encC_of ss t us (by simpa using hl) (fun j t' v hj hv => h (j + 1) t' v (by simpa using hj) (by simpa using hv))
      exact ⟨(x, y), rfl⟩
theorem encR_of (ss : List Sh) (cs : List Value) (hl : cs.length = ss.length) (h : ∀ (j : Nat) (t : Sh) (v : Value), ss[j]? = some t → cs[j]? = some v → ∃ x, v = enc1 t x) : ∃ x : TyR ss, cs = encR ss x := by
  cases ss with
  | nil =>
    match cs, hl with
    | [], _ => exact ⟨(), rfl⟩
  | cons s ss => exact encC_of ss s cs hl h
theorem EltP.int {e : TypeId} {k : IntKind} (he : P.underlying e = some (.int k)) : EltP P e [.int k] := by
  intro H enc w b sp hd fuel cs y h
  obtain ⟨n, rfl, _⟩ := DataW.trod_int he h
  exact ⟨n, rfl⟩
theorem EltP.bool {e : TypeId} (he : P.underlying e = some .bool) : EltP P e [.bool] := by
  intro H enc w b sp hd fuel cs y h
  obtain ⟨n, rfl, _⟩ := DataW.trod_bool he h
  exact ⟨n, rfl⟩
def okSh (P : Program) (t : TypeId) : Sh → Bool
  | .int k => match P.underlying t with
    | some (.int k') => sameK k k'
    | _ => false
  | .bool => match P.underlying t with
    | some .bool => true
    | _ => false
  | _ => false
def okShs (P : Program) (fs : Array Field) (ss : List Sh) : Bool := Nat.beq fs.size ss.length && (List.range ss.length).all fun i => match fs[i]?, ss[i]? with
  | some f, some s => okSh P f.type s
  | _, _ => false
theorem EltP.struct {e : TypeId} {fs : Array Field} {ss : List Sh} (he : P.underlying e = some (.struct fs)) (hone : oneCellFields P fs = true) (hC : P.cellsOf e = fs.size) (hs : okShs P fs ss = true) : EltP P e ss := by
  intro H enc w b sp hd fuel cs y h
  unfold okShs at hs
  simp only [Bool.and_eq_true] at hs
  have hlen := Nat.eq_of_beq_eq_true hs.1
  obtain ⟨xs, n, _, _, hcl, hxl, hg⟩ := DataW.trod_struct he h
  refine encR_of ss cs (by rw [hcl, hC, hlen]) fun j t v hj hv => ?_
  have hjl : j < ss.length := (List.getElem?_eq_some_iff.1 hj).1
  have h1 := List.all_eq_true.1 hs.2 j (List.mem_range.2 hjl)
  have hfj : fs[j]? = some fs[j] := Array.getElem?_eq_getElem (by omega)
  rw [hfj, hj] at h1
  simp only at h1
  obtain ⟨o, k⟩ := hone_of hone j _ hfj
  have h2 := hg j _ hfj
  rw [o, k] at h2
  have hvl : j < cs.length := by omega
  have hcv : cs[j] = v := by
    rw [List.getElem?_eq_getElem hvl] at hv
    exact Option.some.inj hv
  rw [List.drop_eq_getElem_cons hvl, hcv] at h2
  have hx : xs[j]? = some xs[j] := List.getElem?_eq_getElem (by omega)
  rw [hx] at h2
  have h3 : DataW.trod enc P w b sp hd n fs[j].type [v] = some xs[j] := h2
  unfold okSh at h1
  split at h1
  · split at h1
    · rename_i k' hu
      obtain rfl := sameK_eq h1
      obtain ⟨m, hm, _⟩ := DataW.trod_int hu h3
      cases hm
      exact ⟨m, rfl⟩
    · cases h1
  · split at h1
    · rename_i hu
      obtain ⟨m, hm, _⟩ := DataW.trod_bool hu h3
      cases hm
      exact ⟨m, rfl⟩
    · cases h1
  · cases h1
theorem add_none {a : Addr} (h : a.spot = none) (n : Nat) : a.add n = ⟨a.block, a.off + n, none⟩ := by
  obtain ⟨b, o, s⟩ := a
  cases h
  unfold Addr.add
  split
  · rename_i h0; subst h0; rfl
  · rfl
/-- a slice among the arguments reads as a list -/
theorem open_rows {W : World} {sp : Nat → Bool} {hd : Bool} {t e : TypeId} {ss : List Sh} {fuel : Nat} {v : Value} {y : DataW H × List MemPlace} (ht : P.underlying t = some (.slice e)) (he : EltP P e ss) (hC : P.cellsOf e = ss.length) (hpos : 0 < ss.length)
    (h : DataW.trod enc P W 0 sp hd fuel t [v] = some y) : ∃ A n c xs, v = .slice A n c ∧ n ≤ c ∧ RdS ss (whole W) A n xs := by
  rcases open_slice ht h with ⟨h0, _⟩ | ⟨a, len, cap, m, n, D, Pl, hcs, _, hlc, _, hm, _, hel⟩
  · cases h0
    exact ⟨none, 0, 0, [], rfl, Nat.le_refl _, rfl, .inl rfl⟩
  · cases hcs
    have hml : len ≤ m := by rw [hm]; split <;> omega
    have hx : ∀ i, i < len → ∃ x : TyR ss, W.cells? 0 (a.add (i * P.cellsOf e)) (P.cellsOf e) = some (encR ss x) := by
      intro i hi
      obtain ⟨cs', h1, h2⟩ := hel i (by omega)
      obtain ⟨x, rfl⟩ := he _ _ _ _ _ _ _ _ _ h2
      exact ⟨x, h1⟩
    cases len with
    | zero => exact ⟨_, _, _, [], rfl, Nat.zero_le _, rfl, .inl rfl⟩
    | succ len =>
      obtain ⟨x0, hx0⟩ := hx 0 (by omega)
      obtain ⟨X, hX⟩ := @choose_lt _ ⟨x0⟩ (len + 1) _ hx
      have hcell : ∀ i j, i < len + 1 → j < ss.length → W.cell? ((a.add (i * ss.length)).add j) = (encR ss (X i))[j]? := by
        intro i j hi hj
        have h1 := hX i hi
        rw [hC] at h1
        exact (World.cells?_some h1).2.2 j hj
      have hc0 := hcell 0 0 (by omega) hpos
      have e0 : (a.add (0 * ss.length)).add 0 = a := by
        rw [Nat.zero_mul]
        rfl
      rw [e0] at hc0
      have hs0 : (encR ss (X 0))[0]? = some ((encR ss (X 0))[0]'(by rw [encR_length]; exact hpos)) := List.getElem?_eq_getElem _
      rw [hs0] at hc0
      have hc1 := hc0
      unfold World.cell? at hc1
      split at hc1
      · rename_i c el f hb
        split at hc1
        · cases hc1
        · rename_i hspot
          have hsn : a.spot = none := by
            cases e : a.spot with
            | none => rfl
            | some _ => rw [e] at hspot; exact absurd rfl hspot
          refine ⟨some a, len + 1, cap, (List.range (len + 1)).map X, rfl, hlc, by simp, .inr ⟨a.block, a.off, c, el, f, false, ?_, whole_cell hb, ?_⟩⟩
          · obtain ⟨b, o, s⟩ := a
            cases hsn
            rfl
          · intro i j hi hj
            simp only [List.length_map, List.length_range] at hi
            have h1 := hcell i j hi hj
            rw [add_none hsn, add_none rfl] at h1
            unfold World.cell? at h1
            simp only [hb] at h1
            simp only [List.getElem_map, List.getElem_range]
            rw [← h1]
            simp [Nat.add_assoc]
      · cases hc1
end
end Go.Proofs.Ytmpkiaghkhhlhaa

/- J, part 2: the arguments of the laws of layer 4, opened. -/
namespace Go.Proofs.Ytmpkiaghkhhlhaa
open Go.RowKit Go.ChangeShapes Go.WideShapes Go.Deep Go.Joins

theorem Try.own : ownKnob Try.prog.godebug = none := by kernel_rfl
theorem Try.laidOut : laidOutB Try.prog = true := by kernel_rfl
theorem elt_int : EltP Try.prog 3 [.int .i64] := EltP.int Try.underlying3
theorem elt_pit : EltP Try.prog 52 sP := EltP.struct Try.underlying52 (by kernel_rfl) (by kernel_rfl) (by kernel_rfl)
theorem elt_sit : EltP Try.prog 50 sS := EltP.struct Try.underlying50 (by kernel_rfl) (by kernel_rfl) (by kernel_rfl)
section
variable {H : Type} {enc : TypeId × Value → H} {W : World} {sp : Nat → Bool} {hd : Bool}
set_option maxRecDepth 100000 in
theorem slice_trod {t e : TypeId} {v : Value} {d : DataW H} {p : List MemPlace} {b0 : Nat} (ht : Try.prog.underlying t = some (.slice e)) (hv : Value.okWide Try.prog W .any b0 t v) (h : DataW.Trod enc Try.prog W 0 sp hd t v d p) : ∃ n, DataW.trod enc Try.prog W 0 sp hd n t [v] = some (d, p) := by
  obtain ⟨a, len, cap, rfl⟩ := okWide_slice ht hv
  exact h
set_option maxRecDepth 100000 in
theorem open_ints1 {n : Nat} {v : Value} {y : DataW H × List MemPlace} (h : DataW.trod enc Try.prog W 0 sp hd n 22 [v] = some y) : ∃ A n c xs, v = .slice A n c ∧ n ≤ c ∧ RdS [.int .i64] (whole W) A n xs :=
  open_rows Try.underlying22 elt_int (by kernel_rfl) (by decide) h
set_option maxRecDepth 100000 in
theorem open_sits1 {n : Nat} {v : Value} {y : DataW H × List MemPlace} (h : DataW.trod enc Try.prog W 0 sp hd n 26 [v] = some y) : ∃ A n c xs, v = .slice A n c ∧ n ≤ c ∧ RdS sS (whole W) A n xs :=
  open_rows Try.underlying26 elt_sit (by kernel_rfl) (by decide) h
set_option maxRecDepth 100000 in
theorem open_pits {v : Value} {d : DataW H} {p : List MemPlace} {b0 : Nat} (hv : Value.okWide Try.prog W .any b0 25 v) (h : DataW.Trod enc Try.prog W 0 sp hd 25 v d p) : ∃ A n c xs, v = .slice A n c ∧ n ≤ c ∧ RdS sP (whole W) A n xs := by
  obtain ⟨n, h⟩ := slice_trod Try.underlying25 hv h
  exact open_rows Try.underlying25 elt_pit (by kernel_rfl) (by decide) h
set_option maxRecDepth 100000 in
theorem open_sits {v : Value} {d : DataW H} {p : List MemPlace} {b0 : Nat} (hv : Value.okWide Try.prog W .any b0 26 v) (h : DataW.Trod enc Try.prog W 0 sp hd 26 v d p) : ∃ A n c xs, v = .slice A n c ∧ n ≤ c ∧ RdS sS (whole W) A n xs := by
  obtain ⟨n, h⟩ := slice_trod Try.underlying26 hv h
  exact open_sits1 h
set_option maxRecDepth 100000 in
theorem open_ground {v : Value} {d : DataW H} {p : List MemPlace} {b0 : Nat} (hv : Value.okWide Try.prog W .any b0 24 v) (h : DataW.Trod enc Try.prog W 0 sp hd 24 v d p) : ∃ x g, v = GV.v x g ∧ GRd (whole W) x g := by
  obtain ⟨v0, v1, v2, v3, y0, y1, y2, y3, n, rfl, _, _, h0, h1, h2, h3⟩ := open_agg4 Try.underlying24 (by kernel_rfl) (by kernel_rfl) hv h
  obtain ⟨a, e0, _⟩ := DataW.trod_int Try.underlying3 h0
  obtain ⟨b, e1, _⟩ := DataW.trod_int Try.underlying3 h1
  obtain ⟨A2, n2, c2, C, rfl, _, hC⟩ := open_ints1 h2
  obtain ⟨A3, n3, c3, T, rfl, _, hT⟩ := open_ints1 h3
  cases e0
  cases e1
  exact ⟨⟨A2, n2, c2, A3, n3, c3⟩, ⟨a, b, C, T⟩, rfl, hC, hT⟩
set_option maxRecDepth 100000 in
theorem open_plan {v : Value} {d : DataW H} {p : List MemPlace} {b0 : Nat} (hv : Value.okWide Try.prog W .any b0 28 v) (h : DataW.Trod enc Try.prog W 0 sp hd 28 v d p) : ∃ A n c xs a b, v = .agg #[.slice A n c, .int .i64 a, .int .i64 b] ∧ n ≤ c ∧ RdS sS (whole W) A n xs := by
  obtain ⟨v0, v1, v2, y0, y1, y2, n, rfl, _, _, h0, h1, h2⟩ := open_agg3 Try.underlying28 (by kernel_rfl) (by kernel_rfl) hv h
  obtain ⟨A, n, c, xs, rfl, hn, hr⟩ := open_sits1 h0
  obtain ⟨a, e1, _⟩ := DataW.trod_int Try.underlying3 h1
  obtain ⟨b, e2, _⟩ := DataW.trod_int Try.underlying3 h2
  cases e1
  cases e2
  exact ⟨A, n, c, xs, a, b, rfl, hn, hr⟩
end


end Go.Proofs.Ytmpkiaghkhhlhaa

/- J, part 3: arguments of the laws of layer 4 with a crowd, or a way, opened. -/
namespace Go.Proofs.Ytmpkiaghkhhlhaa
open Go.RowKit Go.ChangeShapes Go.WideShapes Go.Deep Go.Joins

section
variable {H : Type} {enc : TypeId × Value → H} {W : World} {sp : Nat → Bool} {hd : Bool}
set_option maxRecDepth 100000 in
theorem open_run {v : Value} {d : DataW H} {p : List MemPlace} {b0 : Nat} (hv : Value.okWide Try.prog W .any b0 37 v) (h : DataW.Trod enc Try.prog W 0 sp hd 37 v d p) : ∃ A n c xs A' n' c' ws, v = .agg #[.slice A n c, .slice A' n' c'] ∧ n ≤ c ∧ RdS sS (whole W) A n xs ∧ RdS [.int .i64] (whole W) A' n' ws := by
  obtain ⟨v0, v1, y0, y1, n, rfl, _, _, h0, h1⟩ := open_agg2 Try.underlying37 (by kernel_rfl) (by kernel_rfl) hv h
  obtain ⟨A, n, c, xs, rfl, hn, hr⟩ := open_sits1 h0
  obtain ⟨A', n', c', ws, rfl, _, hw⟩ := open_ints1 h1
  exact ⟨A, n, c, xs, A', n', c', ws, rfl, hn, hr, hw⟩
set_option maxRecDepth 100000 in
theorem open_crowd {v : Value} {d : DataW H} {p : List MemPlace} {b0 : Nat} (hv : Value.okWide Try.prog W .any b0 62 v) (h : DataW.Trod enc Try.prog W 0 sp hd 62 v d p) : ∃ A n c xs A' n' c' ps m, v = .agg #[.slice A n c, .slice A' n' c', .int .i64 m] ∧ n ≤ c ∧ RdS sS (whole W) A n xs ∧ RdS [.int .i64] (whole W) A' n' ps := by
  obtain ⟨v0, v1, v2, y0, y1, y2, n, rfl, _, _, h0, h1, h2⟩ := open_agg3 Try.underlying62 (by kernel_rfl) (by kernel_rfl) hv h
  obtain ⟨A, n, c, xs, rfl, hn, hr⟩ := open_sits1 h0
  obtain ⟨A', n', c', ps, rfl, _, hw⟩ := open_ints1 h1
  obtain ⟨m, e2, _⟩ := DataW.trod_int Try.underlying3 h2
  cases e2
  exact ⟨A, n, c, xs, A', n', c', ps, m, rfl, hn, hr, hw⟩
end
end Go.Proofs.Ytmpkiaghkhhlhaa

