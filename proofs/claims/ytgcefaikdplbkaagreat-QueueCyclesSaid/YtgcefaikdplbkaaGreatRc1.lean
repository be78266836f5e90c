/- Contracts of layer 7: Lines and Waits, of the program and of the reference. -/
import Derived.Test.YtgcefaikdplbkaaGreatB20
import Derived.Test.YtgcefaikdplbkaaGreatQ7
namespace Go.Proofs.YtgcefaikdplbkaaGreat
open Go.RowKit

/-- for how long all guests stood, and how many they were -/
def wS (G : List Grp) (V : List Vis) : Int := sumI (V.map fun v => if v.on = true then (gd G v.1).size * (v.left - v.came) else 0)
def wG (G : List Grp) (V : List Vis) : Int := sumI (V.map fun v => if v.on = true then (gd G v.1).size else 0)
theorem wS_perm {G : List Grp} {V V' : List Vis} (h : V.Perm V') : wS G V = wS G V' := by
  unfold wS
  induction h with
  | nil => rfl
  | cons _ _ ih => simp only [List.map_cons, sumI, ih]
  | swap _ _ _ => simp only [List.map_cons, sumI]; omega
  | trans _ _ h1 h2 => exact h1.trans h2
theorem wG_perm {G : List Grp} {V V' : List Vis} (h : V.Perm V') : wG G V = wG G V' := by
  unfold wG
  induction h with
  | nil => rfl
  | cons _ _ ih => simp only [List.map_cons, sumI, ih]
  | swap _ _ _ => simp only [List.map_cons, sumI]; omega
  | trans _ _ h1 h2 => exact h1.trans h2
theorem wS_snoc {G : List Grp} {V : List Vis} {v : Vis} : wS G (V ++ [v]) = wS G V + if v.on = true then (gd G v.1).size * (v.left - v.came) else 0 := by
  unfold wS
  rw [List.map_append, sumI_app]
  simp [sumI]
theorem wG_snoc {G : List Grp} {V : List Vis} {v : Vis} : wG G (V ++ [v]) = wG G V + if v.on = true then (gd G v.1).size else 0 := by
  unfold wG
  rw [List.map_append, sumI_app]
  simp [sumI]
/-- what is known of visits whose waits are summed -/
structure WOk (G : List Grp) (V : List Vis) : Prop where
  l : V.length ≤ 600
  g : ∀ v ∈ V, (0 ≤ v.1 ∧ v.1 < G.length) ∧ (1 ≤ (gd G v.1).size ∧ (gd G v.1).size ≤ 40) ∧ (-10000 ≤ v.came ∧ v.came ≤ 10000) ∧ (-10000 ≤ v.left ∧ v.left ≤ 10000) ∧ (0 ≤ v.left - v.came ∧ v.left - v.came ≤ 10000)
theorem WOk.m {G : List Grp} {V : List Vis} (h : WOk G V) : ∀ v ∈ V, 0 ≤ (gd G v.1).size * (v.left - v.came) ∧ (gd G v.1).size * (v.left - v.came) ≤ 400000 := fun v hv => by
  obtain ⟨_, a, _, _, b⟩ := h.g v hv
  refine ⟨Int.mul_nonneg (by omega) b.1, ?_⟩
  exact Int.le_trans (Int.mul_le_mul a.2 b.2 b.1 (by omega)) (by omega)
theorem WOk.inS {G : List Grp} {V : List Vis} (h : WOk G V) (k : Nat) : 0 ≤ wS G (V.take k) ∧ wS G (V.take k) ≤ 240000000 := by
  have q := sumI_le (xs := (V.take k).map fun v => if v.on = true then (gd G v.1).size * (v.left - v.came) else 0) (m := 400000) fun x hx => by
    obtain ⟨v, hv, rfl⟩ := List.mem_map.1 hx
    have := h.m v (List.mem_of_mem_take hv)
    split <;> omega
  rw [List.length_map, List.length_take] at q
  have := h.l
  unfold wS
  omega
theorem WOk.inG {G : List Grp} {V : List Vis} (h : WOk G V) (k : Nat) : 0 ≤ wG G (V.take k) ∧ wG G (V.take k) ≤ 24000 := by
  have q := sumI_le (xs := (V.take k).map fun v => if v.on = true then (gd G v.1).size else 0) (m := 40) fun x hx => by
    obtain ⟨v, hv, rfl⟩ := List.mem_map.1 hx
    have := (h.g v (List.mem_of_mem_take hv)).2.1
    split <;> omega
  rw [List.length_map, List.length_take] at q
  have := h.l
  unfold wG
  omega
theorem WOk.perm {G : List Grp} {V V' : List Vis} (h : WOk G V) (p : V'.Perm V) : WOk G V' := ⟨by rw [p.length_eq]; exact h.l, fun v hv => h.g v (p.mem_iff.1 hv)⟩
theorem filt_len {p : Vis → Bool} : ∀ {V : List Vis}, V.length = (V.filter p).length + (V.filter fun v => !p v).length
  | [] => rfl
  | v :: V => by
    have ih := filt_len (p := p) (V := V)
    rw [List.filter_cons, List.filter_cons]
    cases p v <;> simp <;> omega
theorem len_groups {c : Nat} : ∀ (n : Nat) (V : List Vis), (∀ v ∈ V, 0 ≤ v.1 ∧ v.1 < (n : Int)) → (∀ g : Int, 0 ≤ g → g < n → (hv V g).length ≤ c) → V.length ≤ n * c
  | 0, V, h, _ => by
    cases V with
    | nil => simp
    | cons v V => have := h v (List.mem_cons_self ..); omega
  | n + 1, V, h, hc => by
    have h1 := filt_len (p := fun v => decide (v.1 = (n : Int))) (V := V)
    have h2 := hc n (by omega) (by omega)
    unfold hv at h2
    have h3 := len_groups n (V.filter fun v => !decide (v.1 = (n : Int))) (fun v hv => by
      obtain ⟨a, b⟩ := List.mem_filter.1 hv
      have := h v a
      have b : ¬ v.1 = (n : Int) := by simpa using b
      omega) fun g g0 g1 => by
      refine Nat.le_trans ?_ (hc g g0 (by omega))
      unfold hv
      exact (List.filter_sublist.filter _).length_le
    rw [Nat.add_mul]
    omega
/-- at most so many visits as groups have wishes -/
theorem Dn.few {w : Int} {B : List BthG} {G : List Grp} {V : List Vis} {hm : List Int} (hv' : Val w B G) (D : Dn w B G V hm) : V.length ≤ 600 := by
  have h := len_groups (c := 10) G.length V (fun v hv => (D.vi v hv).1) fun g g0 g1 => by
    have hc := (D.ch g g0 g1).1
    have hw := (hv'.gr g0 g1).2.2.2.1
    rcases Nat.eq_zero_or_pos (hv V g).length with h | h
    · omega
    · have hj : (hv V g).length - 1 < (hv V g).length := by omega
      have h1 := (hc.c _ hj).1
      obtain ⟨m1, m2⟩ := List.mem_filter.1 (List.getElem_mem hj)
      have e : ((hv V g)[(hv V g).length - 1]).1 = g := by simpa using m2
      have h2 := (D.vi _ m1).2.1.2
      rw [e] at h2
      rw [h1] at h2
      omega
  have := hv'.n
  omega
theorem WOk.of {w : Int} {B : List BthG} {G : List Grp} {V : List Vis} {hm : List Int} (hv : Val w B G) (D : Dn w B G V hm) : WOk G V := ⟨D.few hv, fun v h => by
  obtain ⟨a, _, _, t, _, p, l, l0⟩ := D.vi v h
  have hg := hv.gr a.1 a.2
  exact ⟨a, hg.2.1, by omega, by omega, by omega, by omega⟩⟩
section
variable {σ : Hp} {w : Int} {r l : SL} {B : List BthG} {ws : Nat → SL} {G : List Grp}
theorem e_lines (τ σ1 : Hp) (W : NW) (N : Ngt) (g : Int) (h : NightR W σ1 τ N) (hg : g.toNat < N.rides.length) : cl Tryz.prog (.func (.func N_queue_Lines_1) #[] #[]) #[.pointer (some ⟨W.rb g, 0, none⟩)] τ fun v τ' => v = .int .i64 (N.bo g).line ∧ τ' = τ := by
  refine FFun.func M_queue_Lines_1_enter ?_
  refine M_queue_Lines_1_ok _ _ _ ?_
  unfold M_queue_Lines_1
  obtain ⟨o, q, hb, _⟩ := h.rblk hg
  exact dr_i (bldI hb rfl (rt_of ⟨rfl, rfl⟩))
theorem c_Lines (hr : EvR σ r B l ws G) : FCalls Tryz.prog N_queue_Lines #[.agg #[r.v, .int .i64 w], l.v] σ (OfI σ (chkQ w B G) ((Ngt.played w B G).rides.map Bth.line)) := by
  refine M_queue_Lines_ok _ _ _ _ _ _ _ _ _ ?_
  unfold M_queue_Lines
  refine cl_of M_queue_of__queue_booth_enter (c_of_booth hr rfl e_rides e_lines) ?_
  rintro v σ2 ⟨s, rfl, ho⟩
  exact ⟨_, _, _, _, rfl, rt_of ⟨s, rfl, ho⟩⟩
theorem c_refLines (hr : EvR σ r B l ws G) (hB : B.length ≤ 4294967296) (hG : G.length ≤ 4294967296) (hW : ∀ k, (h : k < G.length) → G[k].wants.length ≤ 4294967296) : FCalls Tryz.prog N_ref07_Lines #[.agg #[r.v, .int .i64 w], l.v] σ (OfR σ (chkQ w B G) ((Ngt.played w B G).rides.map Bth.line)) := by
  refine M_ref07_Lines_ok _ _ _ _ _ _ _ _ _ ?_
  unfold M_ref07_Lines
  refine clI M_ref07_Check_enter (c_refCheck hr hB hG hW) (bc_b (fun hc => ?_) (fun hc => ?_))
  · exact rt_of (OfR.err (by simpa using hc))
  · have hc : chkQ w B G = 0 := by simpa using hc
    have hv := chkQ_val hc
    obtain ⟨S, sm, _, hpl⟩ := c_played_ex hr hv
    refine cl_of M_ref07_played_enter hpl ?_
    rintro _ τ ⟨W, rfl, hS, ht⟩
    obtain ⟨v, hb⟩ := ht.pblk
    refine ⟨_, rfl, dr_i (bldS hb rfl (rt_of ⟨W.li, by rw [hc]; rfl, ht.sub, ?_⟩))⟩
    rw [ofL_ok hc, ← sm.2.2.2.1]
    exact ht.ird.2.2.2.1
theorem c_waits {W : NW} {σ0 : Hp} {N : Ngt} {nr : Nat} (hS : NSt W σ0 nr G) (hN : N.stat nr G) (h : NightR W σ0 σ N) (hw : WOk G N.visits) : FCalls Tryz.prog N_queue_night_waits #[.pointer (some ⟨W.nb, 0, none⟩)] σ fun v σ' => v = .tuple #[.int .i64 (wS G N.visits), .int .i64 (wG G N.visits)] ∧ σ' = σ := by
  refine M_queue_night_waits_ok _ _ _ ?_
  unfold M_queue_night_waits
  obtain ⟨v, hnb, hrd⟩ := h.nblk
  have hvn : v.n = N.visits.length := hrd.1
  have hS' := hS.sub h.sub
  have hl := hw.l
  refine cut_intro fun J3 h3 => ?_
  refine dr_i (bldS hnb rfl ?_)
  refine ⟨fun m a b i τ => ∃ k : Nat, m = N.visits.length - k ∧ a = wS G (N.visits.take k) ∧ b = wG G (N.visits.take k) ∧ i = k ∧ k ≤ N.visits.length ∧ τ = σ, ⟨_, 0, rfl, rfl, rfl, rfl, by omega, rfl⟩, ?_⟩
  rintro m a b i τ ⟨k, rfl, rfl, rfl, rfl, hk, rfl⟩ _
  refine bc_d (fun hlt => ?_) (fun hlt => ?_)
  · have hkl : k < N.visits.length := by omega
    refine cut_intro fun J18 h18 => ?_
    have k18 : J18 (wS G (N.visits.take (k + 1))) (wG G (N.visits.take (k + 1))) τ := by
      rw [h18]
      intro _
      exact wk_i (by omega) (bk_of _ (by omega) ⟨k + 1, rfl, rfl, rfl, by omega, by omega, rfl⟩)
    have b1 := hw.inS k
    have b2 := hw.inG k
    have b3 := hw.inS (k + 1)
    have b4 := hw.inG (k + 1)
    have hmem := List.getElem_mem hkl
    have hq := hw.g _ hmem
    have hm := hw.m _ hmem
    have eT : N.visits.take (k + 1) = N.visits.take k ++ [N.visits[k]] := List.take_succ_eq_append_getElem hkl
    rw [eT] at k18 b3 b4
    rw [wS_snoc, wG_snoc] at k18
    rw [wS_snoc] at b3
    rw [wG_snoc] at b4
    refine hrd.vix hkl rfl fun b o c0 c1 c2 c3 c4 c5 => ldI_of c0 (ldI_of c1 (ldI_of c2 (ldB_of c3 (ldI_of c4 (ldI_of c5 ?_)))))
    clear hlt eT
    generalize N.visits[k] = u at *
    obtain ⟨⟨g0, g1⟩, hsz, hc, hlf, hd⟩ := hq
    refine bc_b (fun e => ?_) (fun e => ?_)
    · have e' : u.on = true := e
      rw [if_pos e', if_pos e'] at k18
      rw [if_pos e'] at b3 b4
      have hg : u.1.toNat < N.parties.length := by rw [hN.len]; omega
      refine dr_i (bldS hnb rfl (hS'.pix hN g0 hg (dr_i (bldI (h.pblk hg) rfl ?_))))
      have es : (N.pa u.1).g.size = (gd G u.1).size := by
        have e2 : (N.parties.map Pty.g).getD u.1.toNat Grp.d = (N.pa u.1).g := by simp [Ngt.pa, List.getD, hg]
        rw [← e2, hN.2]
        rfl
      rw [es]
      have hc : -10000 ≤ u.2.2.2.2.1 ∧ u.2.2.2.2.1 ≤ 10000 := hc
      have hlf : -10000 ≤ u.2.2.2.2.2 ∧ u.2.2.2.2.2 ≤ 10000 := hlf
      have hm : 0 ≤ (gd G u.1).size * (u.2.2.2.2.2 - u.2.2.2.2.1) ∧ (gd G u.1).size * (u.2.2.2.2.2 - u.2.2.2.2.1) ≤ 400000 := hm
      exact wk_i (by omega) (wk_i (by omega) (wk_i (by omega) (wk_i (by omega) k18)))
    · have e' : ¬ u.on = true := by rw [show u.on = u.2.2.2.1 from rfl, e]; simp
      rw [if_neg e', if_neg e', Int.add_zero, Int.add_zero] at k18
      exact k18
  · have : k = N.visits.length := by omega
    subst this
    rw [List.take_length, h3]
    intro _
    exact rt_of ⟨rfl, rfl⟩
/-- two sums, and an error -/
def WaR (σ : Hp) (c s g : Int) : Value → Hp → Prop := fun v σ' => v = .tuple #[.int .i64 (if c = 0 then s else 0), .int .i64 (if c = 0 then g else 0), .int .i64 c] ∧ Hp.Sub σ σ'
theorem WaR.err {c s g : Int} (h : ¬ c = 0) : WaR σ c s g (.tuple #[.int .i64 0, .int .i64 0, .int .i64 c]) σ := ⟨by rw [if_neg h, if_neg h], Hp.Sub.refl _⟩
theorem c_Waits_of {N : Ngt} (hr : EvR σ r B l ws G) (h : Val w B G → N.stat B.length G ∧ WOk G N.visits ∧ FCalls Tryz.prog N_queue_play #[.agg #[r.v, .int .i64 w], l.v] σ (NewN σ B.length G N)) :
    FCalls Tryz.prog N_queue_Waits #[.agg #[r.v, .int .i64 w], l.v] σ (WaR σ (chkQ w B G) (wS G N.visits) (wG G N.visits)) := by
  refine M_queue_Waits_ok _ _ _ _ _ _ _ _ _ ?_
  unfold M_queue_Waits
  refine clI M_queue_Check_enter (c_Check hr) (bc_b (fun hc => ?_) (fun hc => ?_))
  · exact rt_of (WaR.err (by simpa using hc))
  · have hc : chkQ w B G = 0 := by simpa using hc
    obtain ⟨hst, hwo, hpl⟩ := h (chkQ_val hc)
    rw [hc]
    refine cl_of M_queue_play_enter hpl ?_
    rintro _ τ ⟨W, σ1, rfl, hs, hS, ht⟩
    refine ⟨_, rfl, cl_of M_queue_night_waits_enter (c_waits hS hst ht hwo) ?_⟩
    rintro _ _ ⟨rfl, rfl⟩
    exact ⟨_, _, rfl, rt_of ⟨rfl, hs.trans ht.sub⟩⟩
theorem c_Waits (hr : EvR σ r B l ws G) : FCalls Tryz.prog N_queue_Waits #[.agg #[r.v, .int .i64 w], l.v] σ (WaR σ (chkQ w B G) (wS G (Ngt.played w B G).visits) (wG G (Ngt.played w B G).visits)) :=
  c_Waits_of hr fun hv => ⟨played_stat w B G, WOk.of hv (played_done hv), c_play_val hr hv⟩
/-- the waits of an evening that the reference plays -/
theorem c_refwaits (hr : EvR σ r B l ws G) (hv : Val w B G) : FCalls Tryz.prog N_ref07_waits #[.agg #[r.v, .int .i64 w], l.v] σ fun v σ' => v = .tuple #[.int .i64 (wS G (Ngt.played w B G).visits), .int .i64 (wG G (Ngt.played w B G).visits)] ∧ Hp.Sub σ σ' := by
  refine M_ref07_waits_ok _ _ _ _ _ _ _ _ _ ?_
  unfold M_ref07_waits
  obtain ⟨S, sm, _, hpl⟩ := c_played_ex hr hv
  have hwo := WOk.of hv (played_done hv)
  rw [played_visits] at hwo ⊢
  rw [← sm.2.2.2.2] at hwo ⊢
  clear sm
  have hp : (vsort S.visits).Perm S.visits := sortB_perm vle S.visits
  rw [wS_perm hp, wG_perm hp]
  have hwo := hwo.perm hp.symm
  refine cl_of M_ref07_played_enter hpl ?_
  rintro _ τ ⟨W, rfl, hS, ht⟩
  obtain ⟨v, hb⟩ := ht.pblk
  obtain ⟨v', σ1, hb', ho, hs1⟩ := ht.visR
  have ev : v' = v := by
    have e := hb'.symm.trans hb
    injection e with e
    injection e with e _
    injection e with e _ _
    have e2 := congrArg (fun a : Array Value => a[8]?) e
    injection e2 with e2
    injection e2 with q1 q2 q3
    obtain ⟨a, b, c⟩ := v
    obtain ⟨a', b', c'⟩ := v'
    subst q1 q2 q3
    rfl
  subst ev
  have hrd := ho.rd
  have hτ := hr.sub ht.sub
  generalize S.visits = V at *
  have hvn : v'.n = V.length := hrd.1
  have hl := hwo.l
  have hln := hr.lenL
  refine ⟨_, rfl, dr_i (bldS hb rfl ?_)⟩
  refine cut_intro fun J9 h9 => ?_
  refine ⟨fun m a b i τ' => ∃ k : Nat, m = V.length - k ∧ a = wS G (V.take k) ∧ b = wG G (V.take k) ∧ i = k ∧ k ≤ V.length ∧ τ' = τ, ⟨_, 0, rfl, rfl, rfl, rfl, by omega, rfl⟩, ?_⟩
  rintro m a b i τ' ⟨k, rfl, rfl, rfl, rfl, hk, rfl⟩ _
  refine bc_d (fun hlt => ?_) (fun hlt => ?_)
  · have hkl : k < V.length := by omega
    refine cut_intro fun J21 h21 => ?_
    have k21 : J21 (wS G (V.take (k + 1))) (wG G (V.take (k + 1))) τ' := by
      rw [h21]
      intro _
      exact wk_i (by omega) (bk_of _ (by omega) ⟨k + 1, rfl, rfl, rfl, by omega, by omega, rfl⟩)
    have b1 := hwo.inS k
    have b2 := hwo.inG k
    have b3 := hwo.inS (k + 1)
    have b4 := hwo.inG (k + 1)
    have hmem := List.getElem_mem hkl
    have hq := hwo.g _ hmem
    have hm := hwo.m _ hmem
    have eT : V.take (k + 1) = V.take k ++ [V[k]] := List.take_succ_eq_append_getElem hkl
    rw [eT] at k21 b3 b4
    rw [wS_snoc, wG_snoc] at k21
    rw [wS_snoc] at b3
    rw [wG_snoc] at b4
    obtain ⟨u, hu⟩ : ∃ u, V[k] = u := ⟨_, rfl⟩
    rw [hu] at k21 b3 b4 hq hm
    obtain ⟨⟨g0, g1⟩, hsz, hc, hlf, hd⟩ := hq
    refine hrd.vix hkl hu fun b o _ _ _ c3 _ _ => ldB_of c3 (bc_b (fun e => ?_) (fun e => ?_))
    · have e' : u.on = true := e
      rw [if_pos e', if_pos e'] at k21
      rw [if_pos e'] at b3 b4
      have hc : -10000 ≤ u.2.2.2.2.1 ∧ u.2.2.2.2.1 ≤ 10000 := hc
      have hlf : -10000 ≤ u.2.2.2.2.2 ∧ u.2.2.2.2.2 ≤ 10000 := hlf
      have hm : 0 ≤ (gd G u.1).size * (u.2.2.2.2.2 - u.2.2.2.2.1) ∧ (gd G u.1).size * (u.2.2.2.2.2 - u.2.2.2.2.1) ≤ 400000 := hm
      have k21 : J21 (wS G (V.take k) + (gd G u.1).size * (u.2.2.2.2.2 - u.2.2.2.2.1)) (wG G (V.take k) + (gd G u.1).size) τ' := k21
      rw [Int.mul_comm] at k21 hm
      refine hrd.vix hkl hu fun b o _ _ _ _ _ c5 => ldI_of c5 ?_
      refine hrd.vix hkl hu fun b o _ _ _ _ c4 _ => ldI_of c4 (wk_i (by omega) ?_)
      refine hrd.vix hkl hu fun b o c0 _ _ _ _ _ => ldI_of c0 ?_
      refine hτ.gix g0 g1 fun b a _ d1 _ _ _ => ldI_of d1 (wk_i (by omega) (wk_i (by omega) ?_))
      refine hrd.vix hkl hu fun b o c0 _ _ _ _ _ => ldI_of c0 ?_
      exact hτ.gix g0 g1 fun b a _ d1 _ _ _ => ldI_of d1 (wk_i (by omega) k21)
    · have e' : ¬ u.on = true := by rw [show u.on = u.2.2.2.1 from rfl, e]; simp
      rw [if_neg e', if_neg e', Int.add_zero, Int.add_zero] at k21
      exact k21
  · have : k = V.length := by omega
    subst this
    rw [List.take_length, h9]
    intro _
    exact rt_of ⟨rfl, ht.sub⟩
theorem c_refWaits_of {s g : Int} (hr : EvR σ r B l ws G) (hB : B.length ≤ 4294967296) (hG : G.length ≤ 4294967296) (hW : ∀ k, (h : k < G.length) → G[k].wants.length ≤ 4294967296)
    (h : Val w B G → FCalls Tryz.prog N_ref07_waits #[.agg #[r.v, .int .i64 w], l.v] σ fun v σ' => v = .tuple #[.int .i64 s, .int .i64 g] ∧ Hp.Sub σ σ') : FCalls Tryz.prog N_ref07_Waits #[.agg #[r.v, .int .i64 w], l.v] σ (WaR σ (chkQ w B G) s g) := by
  refine M_ref07_Waits_ok _ _ _ _ _ _ _ _ _ ?_
  unfold M_ref07_Waits
  refine clI M_ref07_Check_enter (c_refCheck hr hB hG hW) (bc_b (fun hc => ?_) (fun hc => ?_))
  · exact rt_of (WaR.err (by simpa using hc))
  · have hc : chkQ w B G = 0 := by simpa using hc
    have hrw := h (chkQ_val hc)
    rw [hc]
    refine cl_of M_ref07_waits_enter hrw ?_
    rintro _ τ ⟨rfl, hs⟩
    exact ⟨_, _, rfl, rt_of ⟨rfl, hs⟩⟩
theorem c_refWaits (hr : EvR σ r B l ws G) (hB : B.length ≤ 4294967296) (hG : G.length ≤ 4294967296) (hW : ∀ k, (h : k < G.length) → G[k].wants.length ≤ 4294967296) : FCalls Tryz.prog N_ref07_Waits #[.agg #[r.v, .int .i64 w], l.v] σ (WaR σ (chkQ w B G) (wS G (Ngt.played w B G).visits) (wG G (Ngt.played w B G).visits)) :=
  c_refWaits_of hr hB hG hW fun hv => c_refwaits hr hv
end
end Go.Proofs.YtgcefaikdplbkaaGreat
