/- Trimmed by wip/trim.py to what this claim rests on. -/
import Derived.Test.YtecodlefcmjihaaGreatWTd2
import Derived.Test.YtecodlefcmjihaaGreatWTk5
import Derived.Test.YtecodlefcmjihaaGreatWQLTopTokens
namespace Go.Proofs.YtecodlefcmjihaaGreat
open Go.RowKit Go.ChangeShapes Go.WideShapes Go.Deep Go.Joins
theorem l_sum {σ : Hp} {A : Option Addr} {n c : Nat} {xs : List Int} {K : Int → Hp → Prop} (h : RdS [.int .i64] σ A n xs) (hl : xs.length ≤ 4294967296) (hb : ∀ k : Nat, -1000000000000 ≤ sumI (xs.take k) ∧ sumI (xs.take k) ≤ 1000000000000) (hk : K (sumI xs) σ) :
    cl Tryz.prog (.func (.func N_top_sum) #[] #[]) #[.slice A n c] σ fun v σ' => ∃ n : Int, (v = .int .i64 n ∧ (Hp.Sub σ σ' ∧ K n σ')) := by
  have hs : FCalls Tryz.prog N_top_sum #[.slice A n c] σ fun v σ' => v = .int .i64 (sumI xs) ∧ σ' = σ := by
    refine M_top_sum_ok _ _ _ _ _ ?_
    unfold M_top_sum
    have hn : n = xs.length := h.1
    refine cut_intro fun J3 h3 => ?_
    refine ⟨fun m t i τ => ∃ k : Nat, m = xs.length - k ∧ t = sumI (xs.take k) ∧ i = k ∧ k ≤ xs.length ∧ τ = σ, ⟨_, 0, rfl, by simp [sumI], rfl, by omega, rfl⟩, ?_⟩
    rintro m t i τ ⟨k, rfl, rfl, rfl, hk, rfl⟩ _
    refine bc_d (fun hlt => ?_) (fun _ => ?_)
    · have hkl : k < xs.length := by omega
      have e : sumI (xs.take (k + 1)) = sumI (xs.take k) + gt xs k := by
        rw [List.take_succ_eq_append_getElem hkl, sumI_app, gt_nat hkl]
        simp [sumI]
      have := hb (k + 1)
      refine gixg h (by omega) (by omega) (wk_i (by omega) (wk_i (by omega) (bk_of _ (by omega) ⟨k + 1, rfl, e.symm, by omega, by omega, rfl⟩)))
    · have : k = xs.length := by omega
      subst this
      rw [List.take_length, h3]
      intro _
      exact rt_of ⟨rfl, rfl⟩
  refine cl_of M_top_sum_enter hs ?_
  rintro _ _ ⟨rfl, rfl⟩
  exact ⟨_, rfl, Hp.Sub.refl _, hk⟩
def DlR (σ0 : Hp) (A : Option Addr) (n c : Nat) (D : List Dl) (σ : Hp) : Prop := OwnSl 45 s5 σ0 A n c D σ
theorem DlR.sub {σ0 σ : Hp} {A : Option Addr} {n c : Nat} {D : List Dl} (h : DlR σ0 A n c D σ) : Hp.Sub σ0 σ := OwnSl.sub h
theorem DlR.add {σ0 σ : Hp} {A : Option Addr} {n c : Nat} {D : List Dl} (h : DlR σ0 A n c D σ) (hl : D.length ≤ 3000000) (d : Dl) {K : Option Addr → Nat → Nat → Hp → Prop} (hk : ∀ A n c τ, DlR σ0 A n c (D ++ [d]) τ → K A n c τ) :
    adp 45 [.int .i64, .int .i64, .int .i64, .int .i64, .int .i64] A n c σ (fun (xs : List (Int × Int × Int × Int × Int)) σ' => roomy (List.length xs + List.length ([d] : List (Int × Int × Int × Int × Int))) (exl 45 [.int .i64, .int .i64, .int .i64, .int .i64, .int .i64] (xs ++ ([d] : List (Int × Int × Int × Int × Int))) σ' K)) := by
  refine adp_own (ss := s5) (xs := D) h ?_
  refine roomy_i ?_ fun A n c σ' ho => hk A n c σ' ho
  show D.length + 1 ≤ _
  omega
theorem salB_len {i : Int} {t : Nat} : ∀ k, (salB i t k).length ≤ k
  | 0 => Nat.le_refl _
  | k + 1 => by
    unfold salB
    rw [List.length_append]
    have := salB_len (i := i) (t := t) k
    split
    · simp only [List.length_cons, List.length_nil]; omega
    · simp only [List.length_nil]; omega
theorem sal_len {G : List Grp} : ∀ k, (sal G k).length ≤ 6 * k
  | 0 => Nat.le_refl _
  | k + 1 => by
    unfold sal
    rw [List.length_append]
    have := sal_len (G := G) k
    have := salB_len (i := (k : Int)) (t := (gd G k).tokens.toNat) 6
    omega
theorem rid_len {B : List BthG} {G : List Grp} : ∀ {V : List Vis}, (rid B G V).length ≤ V.length
  | [] => Nat.le_refl _
  | v :: V => by
    rw [rid_cons]
    have := rid_len (B := B) (G := G) (V := V)
    split <;> (simp only [List.length_cons]; omega)
theorem sumI_takeG {xs : List Int} {k : Nat} (h : k < xs.length) : sumI (xs.take (k + 1)) = sumI (xs.take k) + gt xs k := by
  rw [List.take_succ_eq_append_getElem h, sumI_app, gt_nat h]
  simp [sumI]
set_option maxRecDepth 20000 in
theorem law_Tokens {σ : Hp} {w : Int} {r l : SL} {B : List BthG} {ws : Nat → SL} {G : List Grp} (he : EvR σ r B l ws G) : FCalls Tryz.prog N_top_TopTokens #[.agg #[r.v, .int .i64 w], l.v] σ fun v _ => v = .bool true := by
  refine M_top_TopTokens_ok _ _ _ _ _ _ _ _ _ ?_
  unfold M_top_TopTokens
  refine cut_intro fun J3 h3 => cut_intro fun J243 h243 => ?_
  have k243 : ∀ t : Bool, (t = false → farB B G = false ∧ G.length ≤ 12) → J243 t σ := by
    intro t ht
    rw [h243]
    intro _
    refine bc_b (fun _ => l_buys (rt_of rfl)) (fun hf => ?_)
    obtain ⟨hf, hG12⟩ := ht hf
    obtain ⟨f1, f2, f3⟩ := far_no hf
    have fw : ∀ k, (h : k < G.length) → G[k].wants.length ≤ 4294967296 := fun k hk => by have := f3 k hk; omega
    rw [h3]
    intro _
    clear h3 h243 ht
    obtain ⟨V, tk, hd, hD, hpl⟩ := topMoney_ex w B G
    refine cl_of M_ref07_Copy_enter (c_Copy he (by omega)) ?_
    rintro v σ5 ⟨r', rfl, ho⟩
    refine ⟨_, _, _, _, rfl, ?_⟩
    have he5 := he.sub ho.sub
    refine cl_of M_ref07_CopyGroups_enter (c_CopyGroups he5 (by omega) fw) ?_
    rintro v σ9 ⟨l', ws', rfl, hs9, hl', hw'⟩
    refine ⟨_, _, _, rfl, ?_⟩
    have he' : EvR σ9 r' B l' ws' G := ⟨ho.rd.sub hs9, hl', hw'⟩
    refine cl_of M_queue_Play_enter ((hpl σ9 r' l' ws' he').1) ?_
    rintro v σ12 ⟨s, rfl, hs12, hrd⟩
    refine ⟨_, _, _, _, rfl, bc_nd (fun _ => l_buys (rt_of rfl)) (fun hc => ?_)⟩
    have hv := chkQ_val hc
    rw [vsL_ok hc] at hrd
    obtain ⟨⟨hm, D⟩, M, Mg⟩ := hD hv
    have he12 := (he5.sub hs9).sub hs12
    clear he' hD
    intro A18 l18 c18 σ19 o19 A20 l20 c20 σ21 o21
    have hs21 : Hp.Sub σ12 σ21 := o19.sub.trans o21.sub
    have he21 := he12.sub hs21
    have hr21 := hrd.sub hs21
    have hst : RdS [.int .i64] σ21 A18 l18 ([100000] : List Int) := o19.rd.sub o21.sub
    have hca : RdS [.int .i64] σ21 A20 l20 ([0] : List Int) := o21.rd
    clear o19 o21 hs21 hrd
    have hrn := he21.lenR
    have hln := he21.lenL
    have hsn : s.n = V.length := hr21.1
    have hVl := D.len
    have ht0 : ∀ i : Nat, i < G.length → 0 ≤ (gd G i).tokens ∧ (gd G i).tokens ≤ 10000 := fun i hi => (hv.gr (g := (i : Int)) (by omega) (by omega)).2.2.1
    have bT : ∀ k, 0 ≤ sumI ((G.map Grp.tokens).take k) ∧ sumI ((G.map Grp.tokens).take k) ≤ 10000 * (((G.map Grp.tokens).take k).length : Nat) := fun k => sumI_le fun x hx => by
      obtain ⟨g, hg, rfl⟩ := List.mem_map.1 (List.mem_of_mem_take hx)
      exact (hv.g g hg).2.2.1
    have bH : ∀ k, 0 ≤ sumI (hd.take k) ∧ sumI (hd.take k) ≤ 10000 * ((hd.take k).length : Nat) := fun k => sumI_le fun x hx => by
      obtain ⟨i, hi, rfl⟩ := List.getElem_of_mem (List.mem_of_mem_take hx)
      have := M.h i (by omega) (by have := M.lh; omega)
      rwa [gt_nat hi] at this
    have bK : ∀ k, 0 ≤ sumI (tk.take k) ∧ sumI (tk.take k) ≤ 10000000000 * ((tk.take k).length : Nat) := fun k => sumI_le fun x hx => by
      obtain ⟨i, hi, rfl⟩ := List.getElem_of_mem (List.mem_of_mem_take hx)
      have := M.t i (by omega) (by have := M.lt; omega)
      rwa [gt_nat hi] at this
    refine cut_intro fun J24 h24 => ?_
    have k24 : J24 (G.length : Int) (B.length : Int) A18 l18 c18 A20 l20 c20 exP 10 0 1 σ21 := by
      rw [h24]
      intro _
      refine cut_intro fun J35 h35 => ?_
      have k35 : ∀ A n c τ, DlR σ21 A n c (sal G G.length) τ → (∀ i : Nat, i < G.length → (gd G i).tokens ≤ 63) → J35 A n c (sumI (G.map Grp.tokens)) τ := by
        intro A n c τ hA ht
        rw [h35]
        intro _
        refine cut_intro fun J40 h40 => ?_
        have k40 : ∀ A n c τ, DlR σ21 A n c (sal G G.length ++ rid B G V) τ → (∀ v ∈ V, v.on = true → v.left ≤ 1440) → J40 A n c τ := by
          intro A n c τ hA hleft
          rw [h40]
          intro _
          have T := tokD hv D M Mg hG12 ht hleft
          have hn : n = (sal G G.length ++ rid B G V).length := OwnSl.len hA
          refine bc_d (fun _ => l_buys (rt_of rfl)) (fun hle => ?_)
          intro A45 l45 c45 σ46 o46
          have hs46 : Hp.Sub σ21 σ46 := hA.sub.trans o46.sub
          have hW : FaiR ⟨⟨A18, l18, c18⟩, ⟨A20, l20, c20⟩, ⟨A45, l45, c45⟩⟩ σ46 (topF G.length B.length) := ⟨hst.sub hs46, hca.sub hs46, o46.rd⟩
          have e1 : (#[.int .i64 (G.length : Int), .int .i64 (B.length : Int), .slice A18 l18 c18, .slice A20 l20 c20, .slice A45 l45 c45, .int .i64 10, .int .i64 0, .int .i64 1] : Array Value) = fcells ⟨⟨A18, l18, c18⟩, ⟨A20, l20, c20⟩, ⟨A45, l45, c45⟩⟩ (topF G.length B.length) := rfl
          rw [e1]
          have hDr : RdS s5 σ46 A n (sal G G.length ++ rid B G V) := (OwnSl.rd hA).sub o46.sub
          refine cl_of M_tokens_Play_enter (ct_PlayF (l := ⟨A, n, c⟩) hW T.ok hDr (by omega) T.pos) ?_
          rintro _ σ48 ⟨N, rfl, hN⟩
          refine ⟨_, _, _, _, _, _, _, _, _, _, _, _, _, _, rfl, ?_⟩
          refine cl_of M_tokens_Account_enter (ct_Account (l := ⟨A, n, c⟩) (hW.sub hN.sub) T.ok (hDr.sub hN.sub) (by omega) T.pos) ?_
          rintro _ σ56 ⟨hs56, rfl⟩
          refine ⟨_, _, _, _, _, _, _, rfl, ?_⟩
          obtain ⟨_, _, hNp, hNb⟩ := hN.rd
          have hlp := T.lp
          have hNn : N.p.n = G.length := hNp.1.trans ((List.length_map ..).trans T.lp)
          have hp4 : ∀ τ : Hp, Hp.Sub σ48 τ → ∀ k : Nat, k < G.length → ∀ K : Int → Prop, K (gt hd k) → ix N.p.A N.p.n k 2 fun b a => ldI τ .i64 b a K := fun τ hτ k hk K hK =>
            (FairR.pix ⟨hN.m.up hτ, hN.f⟩ (i := (k : Int)) (by omega) (by omega) fun b o c0 _ => ldI_of c0 (by rw [T.p k hk]; exact hK))
          rw [T.b] at hNb
          rw [T.so, T.ta, T.he, T.i]
          have he56 := he21.sub ((hs46.trans hN.sub).trans hs56)
          have hp5 := fun τ (hτ : Hp.Sub σ56 τ) => hp4 τ (hs56.trans hτ)
          have hNb := hNb.sub hs56
          clear T hDr e1 hW hNp hN hp4
          refine cl_of M_ref07_Copy_enter (c_Copy he56 (by omega)) ?_
          rintro v σ65 ⟨r1, rfl, ho1⟩
          refine ⟨_, _, _, _, rfl, ?_⟩
          have he65 := he56.sub ho1.sub
          refine cl_of M_ref07_CopyGroups_enter (c_CopyGroups he65 (by omega) fw) ?_
          rintro v σ69 ⟨l1, ws1, rfl, hs69, hl1, hw1⟩
          refine ⟨_, _, _, rfl, ?_⟩
          have he1 : EvR σ69 r1 B l1 ws1 G := ⟨ho1.rd.sub hs69, hl1, hw1⟩
          refine cl_of M_queue_Held_enter ((hpl σ69 r1 l1 ws1 he1).2.2) ?_
          rintro v σ72 ⟨sd, rfl, hod⟩
          refine ⟨_, _, _, _, rfl, ?_⟩
          rw [ofL_ok hc] at hod
          have he72 := (he65.sub hs69).sub hod.sub
          refine cl_of M_ref07_Copy_enter (c_Copy he72 (by omega)) ?_
          rintro v σ76 ⟨r2, rfl, ho2⟩
          refine ⟨_, _, _, _, rfl, ?_⟩
          have he76 := he72.sub ho2.sub
          refine cl_of M_ref07_CopyGroups_enter (c_CopyGroups he76 (by omega) fw) ?_
          rintro v σ80 ⟨l2, ws2, rfl, hs80, hl2, hw2⟩
          refine ⟨_, _, _, rfl, ?_⟩
          have he2 : EvR σ80 r2 B l2 ws2 G := ⟨ho2.rd.sub hs80, hl2, hw2⟩
          refine cl_of M_queue_Takes_enter ((hpl σ80 r2 l2 ws2 he2).2.1) ?_
          rintro v σ83 ⟨st, rfl, hot⟩
          refine ⟨_, _, _, _, rfl, ?_⟩
          rw [ofL_ok hc] at hot
          have q1 : Hp.Sub σ72 σ83 := (ho2.sub.trans hs80).trans hot.sub
          have hs83 : Hp.Sub σ56 σ83 := (((ho1.sub.trans hs69).trans hod.sub).trans q1)
          have hdR : RdS [.int .i64] σ83 sd.A sd.n hd := hod.rd.sub q1
          have tkR : RdS [.int .i64] σ83 st.A st.n tk := hot.rd
          have hNb := hNb.sub hs83
          have hp5 := hp5 σ83 hs83
          clear hod hot he1 he2 ho1 ho2 hl1 hl2 hw1 hw2 he65 he72 he76 he56 q1 hs83
          have hdn : sd.n = hd.length := hdR.lenI
          have htn : st.n = tk.length := tkR.lenI
          have hlt := M.lt
          have hlh := M.lh
          have hgl : (G.map Grp.tokens).length = G.length := List.length_map ..
          refine cut_intro fun J88 h88 => ?_
          have k88 : J88 σ83 := by
            rw [h88]
            intro _
            refine cut_intro fun J91 h91 => ?_
            have k91 : J91 σ83 := by
              rw [h91]
              intro _
              have b0 := bT (G.map Grp.tokens).length
              rw [List.take_length] at b0
              refine wk_i (by omega) (l_sum tkR (by omega) (fun k => ?_) (l_sum hdR (by omega) (fun k => ?_) ?_))
              · have := bK k
                have e : (tk.take k).length ≤ 10 := by rw [List.length_take]; omega
                omega
              · have := bH k
                have e : (hd.take k).length ≤ 12 := by rw [List.length_take]; omega
                omega
              · simp only [decide_true, Bool.and_true]
                exact bc_t (l_buys (rt_of rfl))
            refine ⟨fun n i τ => ∃ k : Nat, n = G.length - k ∧ i = k ∧ k ≤ G.length ∧ τ = σ83, ⟨_, 0, rfl, rfl, by omega, rfl⟩, ?_⟩
            rintro n i τ ⟨k, rfl, rfl, hk, rfl⟩ _
            refine bc_d (fun hlt' => ?_) (fun _ => k91)
            have hkl : k < G.length := by omega
            refine hp5 k hkl _ (gixg hdR (by omega) (by omega) (bc_nd (fun h => absurd rfl h) (fun _ => wk_i (by omega) (bk_of _ (by omega) ⟨k + 1, rfl, by omega, by omega, rfl⟩))))
          refine cut_intro fun J118 h118 => ?_
          have k118 : J118 false σ83 := by
            rw [h118]
            intro _
            exact k88
          refine bc_nd (fun h => absurd rfl h) (fun _ => bc_nd (fun h => absurd rfl h) (fun _ => bc_nd (fun h => absurd hc h) (fun _ => bc_nd (fun h => absurd hc h) (fun _ => ?_))))
          refine bc_nd (fun h => absurd (by omega) h) (fun _ => bc_nd (fun h => absurd (by omega) h) (fun _ => ?_))
          refine clB M_top_sameInts_enter (ct_sameInts hNb tkR (by omega)) ?_
          rw [decide_eq_true rfl]
          exact k118
        refine ⟨fun m A n c i τ => ∃ t : Nat, m = V.length - t ∧ i = t ∧ t ≤ V.length ∧ DlR σ21 A n c (sal G G.length ++ rid B G (V.take t)) τ ∧ ∀ v ∈ V.take t, v.on = true → v.left ≤ 1440, ⟨_, 0, rfl, rfl, by omega, ?_, fun v hv => by cases hv⟩, ?_⟩
        · have e : sal G G.length ++ rid B G (V.take 0) = sal G G.length := List.append_nil _
          rw [e]
          exact hA
        rintro m A n c i τ ⟨t, rfl, rfl, htl, hA, hleft⟩ _
        refine bc_d (fun hlt => ?_) (fun hlt => ?_)
        · have htl : t < V.length := by omega
          have eT : V.take (t + 1) = V.take t ++ [V[t]] := List.take_succ_eq_append_getElem htl
          refine cut_intro fun J131 h131 => ?_
          have k131 : ∀ A n c τ, DlR σ21 A n c (sal G G.length ++ rid B G (V.take (t + 1))) τ → (V[t].on = true → V[t].left ≤ 1440) → J131 A n c τ := by
            intro A n c τ hA hl
            rw [h131]
            intro _
            refine wk_i (by omega) (bk_of _ (by omega) ⟨t + 1, rfl, by omega, by omega, hA, fun v hv hon => ?_⟩)
            rw [eT] at hv
            rcases List.mem_append.1 hv with h | h
            · exact hleft v h hon
            · rw [List.mem_singleton] at h
              subst h
              exact hl hon
          have hmem := List.getElem_mem htl
          rw [eT, rid_app, ← List.append_assoc] at k131
          have lenD : (sal G G.length ++ rid B G (V.take t)).length ≤ 3000000 := by
            rw [List.length_append]
            have h1 := sal_len (G := G) G.length
            have h2 := rid_len (B := B) (G := G) (V := V.take t)
            rw [List.length_take] at h2
            omega
          have heτ := he21.sub hA.sub
          refine (hr21.sub hA.sub).vix htl rfl fun b o c0 c1 c2 c3 c4 c5 => ldI_of c0 (ldI_of c1 (ldI_of c2 (ldB_of c3 (ldI_of c4 (ldI_of c5 ?_)))))
          clear c0 c1 c2 c3 c4 c5 hlt eT
          generalize V[t] = v at *
          obtain ⟨⟨g0, g1⟩, ⟨w0, w1⟩, hr, _⟩ : (0 ≤ v.1 ∧ v.1 < G.length) ∧ (0 ≤ v.2.1 ∧ v.2.1 < (gd G v.1).wants.length) ∧ v.2.2.1 = gt (gd G v.1).wants v.2.1 ∧ True := by
            obtain ⟨a, b, c, _⟩ := D.vi v hmem
            exact ⟨a, b, c, trivial⟩
          have hrr : 0 ≤ v.2.2.1 ∧ v.2.2.1 < B.length := by rw [hr]; exact hv.want w0 w1
          have hbt := (hv.bt hrr.1 hrr.2).2.1
          have hgs := (hv.gr g0 g1).2.1
          have hpm : 0 ≤ (bd B v.2.2.1).price * (gd G v.1).size ∧ (bd B v.2.2.1).price * (gd G v.1).size ≤ 4000 := by
            refine ⟨Int.mul_nonneg hbt.1 (by omega), ?_⟩
            exact Int.le_trans (Int.mul_le_mul hbt.2 hgs.2 (by omega) (by omega)) (by omega)
          refine cut_intro fun J146 h146 => ?_
          have k146 : J146 τ := by
            rw [h146]
            intro _
            refine cut_intro fun J149 h149 => ?_
            have k149 : (v.2.2.2.1 = true → v.2.2.2.2.2 ≤ 1440) → J149 τ := by
              intro hl
              rw [h149]
              intro _
              refine bc_b (fun hon => ?_) (fun hon => ?_)
              · refine heτ.rix hrr.1 hrr.2 fun b a _ d1 _ _ _ => ldI_of d1 ?_
                refine heτ.gix g0 g1 fun b a _ d1 _ _ _ => ldI_of d1 (wk_i (by omega) ?_)
                refine hA.add lenD _ fun A n c τ' h' => k131 A n c τ' ?_ hl
                · have e : rid B G [v] = [ridD B G v] := by rw [rid_cons, if_pos (show v.on = true from hon)]; rfl
                  rw [e]
                  exact h'
              · refine k131 A n c τ ?_ hl
                have e : rid B G [v] = [] := by rw [rid_cons, if_neg (by rw [show v.on = false from hon]; simp)]; rfl
                rw [e, List.append_nil]
                exact hA
            refine cut_intro fun J163 h163 => ?_
            have k163 : ∀ b : Bool, (b = false → v.2.2.2.1 = true → v.2.2.2.2.2 ≤ 1440) → J163 b τ := by
              intro b hb
              rw [h163]
              intro _
              exact bc_b (fun _ => l_buys (rt_of rfl)) (fun e => k149 (hb e))
            refine bc_b (fun hon => k163 _ fun e _ => ?_) (fun hon => k163 _ fun _ e => ?_)
            · have := of_decide_eq_false e
              omega
            · rw [hon] at e; cases e
          refine cut_intro fun J170 h170 => ?_
          have k170 : J170 false τ := by
            rw [h170]
            intro _
            exact k146
          refine bc_d (fun h => absurd h (by omega)) (fun _ => ?_)
          refine bc_d (fun h => absurd h (by omega)) (fun _ => ?_)
          refine bc_d (fun h => absurd h (by omega)) (fun _ => ?_)
          rw [decide_eq_false (by omega)]
          exact k170
        · have : t = V.length := by omega
          subst this
          rw [List.take_length] at hA hleft
          exact k40 A n c τ hA hleft
      refine ⟨fun m A n c a i τ => ∃ k : Nat, m = G.length - k ∧ i = k ∧ k ≤ G.length ∧ a = sumI ((G.map Grp.tokens).take k) ∧ DlR σ21 A n c (sal G k) τ ∧ ∀ i : Nat, i < k → (gd G i).tokens ≤ 63, ⟨_, 0, rfl, rfl, by omega, rfl, OwnSl.nil _ _ _, fun i hi => absurd hi (by omega)⟩, ?_⟩
      rintro m A n c a i τ ⟨k, rfl, rfl, hk, rfl, hA, h63⟩ _
      refine bc_d (fun hlt => ?_) (fun hlt => ?_)
      · have hkl : k < G.length := by omega
        have heτ := he21.sub hA.sub
        refine cut_intro fun J181 h181 => ?_
        have eg : G[k].tokens = (gd G k).tokens := by simp [gd, List.getD, hkl]
        have b1 := bT (k + 1)
        have l1 : ((G.map Grp.tokens).take (k + 1)).length ≤ 12 := by rw [List.length_take]; omega
        have es := sumI_takeG (xs := G.map Grp.tokens) (k := k) (by rw [List.length_map]; exact hkl)
        have eg2 : gt (G.map Grp.tokens) k = (gd G k).tokens := by simp [gt, gd, List.getD, hkl]
        rw [eg2] at es
        obtain ⟨t0, t1⟩ := ht0 k hkl
        refine heτ.group hkl fun b o _ _ d2 _ _ => ldI_of d2 ?_
        rw [eg]
        refine bc_d (fun _ => l_buys (rt_of rfl)) (fun h6 => ?_)
        refine heτ.group hkl fun b o _ _ d2 _ _ => ldI_of d2 ?_
        rw [eg]
        have k181 : ∀ A n c τ, DlR σ21 A n c (sal G (k + 1)) τ → J181 A n c (sumI ((G.map Grp.tokens).take k) + (gd G k).tokens) τ := by
          intro A n c τ hA
          rw [h181]
          intro _
          refine wk_i (by omega) (bk_of _ (by omega) ⟨k + 1, rfl, by omega, by omega, es.symm, hA, fun i hi => ?_⟩)
          by_cases c : i = k
          · subst c; omega
          · exact h63 i (by omega)
        clear d2
        obtain ⟨q, hq⟩ := Int.eq_ofNat_of_zero_le t0
        have hq2 : (gd G k).tokens.toNat = q := by omega
        have hsk : sal G (k + 1) = sal G k ++ salB k q 6 := by
          show sal G k ++ salB k (gd G k).tokens.toNat 6 = _
          rw [hq2]
        rw [hsk] at k181
        refine wk_i (by omega) ?_
        refine ⟨fun m A n c b τ => ∃ j : Nat, m = 6 - j ∧ b = j ∧ j ≤ 6 ∧ DlR σ21 A n c (sal G k ++ salB k q j) τ, ⟨_, 0, rfl, rfl, by omega, ?_⟩, ?_⟩
        · have e : sal G k ++ salB k q 0 = sal G k := List.append_nil _
          rw [e]
          exact hA
        rintro m A n c i τ ⟨j, rfl, rfl, hj, hA⟩ _
        refine bc_d (fun hlt6 => ?_) (fun hlt6 => ?_)
        · have hj6 : j < 6 := by omega
          have heτ := he21.sub hA.sub
          refine cut_intro fun J205 h205 => ?_
          have k205 : ∀ A n c τ, DlR σ21 A n c (sal G k ++ salB k q (j + 1)) τ → J205 A n c τ := by
            intro A n c τ hA
            rw [h205]
            intro _
            exact wk_i (by omega) (bk_of _ (by omega) ⟨j + 1, rfl, by omega, by omega, hA⟩)
          refine heτ.group hkl fun b o _ _ d2 _ _ => ldI_of d2 (wk_u (by omega) ⟨by omega, ?_⟩)
          rw [eg, hq, bit_eq q (by omega) j hj6]
          have hb2 : q / 2 ^ j % 2 < 2 := Nat.mod_lt _ (by omega)
          have hln : (sal G k ++ salB k q j).length ≤ 3000000 := by
            rw [List.length_append]
            have := sal_len (G := G) k
            have := salB_len (i := (k : Int)) (t := q) j
            omega
          refine wk_i (by omega) (bc_d (fun h1 => ?_) (fun h1 => k205 A n c τ ?_))
          · refine hA.add hln _ fun A n c τ' h' => k205 A n c τ' ?_
            have e : salB k q (j + 1) = salB k q j ++ [(((0 : Int), (1 : Int), (0 : Int), (k : Int), (j : Int)) : Dl)] := by
              show _ ++ (if _ then _ else _) = _
              rw [if_pos (by omega)]
            rw [e, ← List.append_assoc]
            exact h'
          · have e : salB k q (j + 1) = salB k q j := by
              show _ ++ (if _ then _ else _) = _
              rw [if_neg (by omega), List.append_nil]
            rw [e]
            exact hA
        · have : j = 6 := by omega
          subst this
          exact k181 A n c τ hA
      · have : k = G.length := by omega
        subst this
        have e : (G.map Grp.tokens).take G.length = G.map Grp.tokens := List.take_of_length_le (by rw [List.length_map]; exact Nat.le_refl _)
        rw [e]
        exact k35 A n c τ hA h63
    refine ⟨fun m i n26 n27 A n c A' n' c' xs a b d τ => ∃ k : Nat, m = 6 - k ∧ i = k ∧ k ≤ 6 ∧ n26 = (G.length : Int) ∧ n27 = (B.length : Int) ∧ A = A18 ∧ n = l18 ∧ c = c18 ∧ A' = A20 ∧ n' = l20 ∧ c' = c20 ∧ xs = exP.take k ∧ a = 10 ∧ b = 0 ∧ d = 1 ∧ τ = σ21, ⟨_, adp_nil.2 ⟨0, rfl, rfl, by omega, by rw [hln], by rw [hrn], rfl, rfl, rfl, rfl, rfl, rfl, rfl, rfl, rfl, rfl, rfl⟩⟩, ?_⟩
    rintro m i n26 n27 A n c A' n' c' xs a b d τ ⟨k, rfl, rfl, hk, rfl, rfl, rfl, rfl, rfl, rfl, rfl, rfl, rfl, rfl, rfl, rfl, rfl⟩ _
    refine bc_d (fun hlt => ?_) (fun hlt => ?_)
    · have hk6 : k < 6 := by omega
      have hw := exP_wk k hk6
      refine wk_u (by omega) ⟨by omega, wk_i (by omega) (wk_u (by omega) ⟨by omega, wk_i (by omega) (roomy_i ?_ (wk_i (by omega) (bk_of _ (by omega) ⟨k + 1, rfl, by omega, by omega, rfl, rfl, rfl, rfl, rfl, rfl, rfl, rfl, exP_snoc k hk6, rfl, rfl, rfl, rfl⟩)))⟩)⟩
      rw [List.length_take]
      show min k 6 + 1 ≤ _
      omega
    · have : k = 6 := by omega
      subst this
      exact k24
  refine clB M_law07_Far_enter (c_Far he) (bc_b (fun _ => k243 true fun h => by cases h) (fun hf => k243 _ fun h => ⟨hf, ?_⟩))
  have h := of_decide_eq_false h
  have := he.lenL
  omega
set_option maxRecDepth 100000 in
theorem lifted_Tokens (os : Os) (started : os.Started) (H : Type) (enc : TypeId × Value → H) :
    ReturnsInHanded {} Tryz.checked os N_top_TopTokens .any (Rows.topTokensSpec.pre6 enc Tryz.prog Tryz.f3 Rows.topTokensRow.domain false) (Rows.topTokensSpec.post enc Tryz.prog Tryz.f3 false true false false) := by
  refine returnsInHanded_of_change (C := Tryz.checked) Tryz.own started (by kernel_rfl) Tryz.func3
    (ChangeSpec.witness6 (enc := enc) (C := Tryz.checked) false ⟨#[], #[.agg #[.slice none 0 0, .int .i64 0], .slice none 0 0], []⟩ 8 (by kernel_rfl) (by kernel_rfl) (by kernel_rfl) (by kernel_rfl)) ?_
  intro W base args ds gs before hval0 hW _ _
  have hval : ∀ (j : Nat) t v, Tryz.f3.params[j]? = some t → args[j]? = some v → Value.okWide Tryz.prog W .any base t v := hval0
  have hW' := hW
  obtain ⟨p, q, hA0, hV, rfl, hfz, hnd⟩ := hW
  have hA : DataW.TrodAll enc Tryz.prog W 0 (fun _ => true) true Tryz.f3.params.toList args.toList ds p := hA0
  have hA1 := hA
  rw [Tryz.params3] at hA hval
  obtain ⟨v0, v1, d0, d1, p0, p1, rfl, rfl, rfl, h0, h1⟩ := trodAll_two hA
  obtain ⟨rfl, rfl⟩ := trodVars_none hV
  obtain ⟨r, w, B, rfl, hr⟩ := open_evening (hval 0 24 v0 rfl rfl) h0
  obtain ⟨l, ws, G, rfl, hl, hw⟩ := open_groups (hval 1 25 v1 rfl rfl) h1
  simp only [List.append_nil] at hW' hA1
  exact law_shut Tryz.laidOut (by kernel_rfl) rfl Tryz.underlying4 rfl rfl hW' hA1 (law_Tokens ⟨hr, hl, hw⟩)
theorem topTokens_holds : Rows.TopTokensSaid :=
  OpenClaim.holds_of_wide N_top_TopTokens Tryz.f3 rfl rfl rfl rfl rfl rfl rfl ⟨rfl, rfl, rfl, rfl, rfl⟩ rfl rfl rfl rfl rfl (by kernel_rfl) Tryz.func3 (by kernel_rfl)
    (of_decide_eq_true (by kernel_rfl)) (by unfold Func.isWrapper; rw [if_neg (of_decide_eq_false (by kernel_rfl))]; exact ⟨rfl, rfl⟩)
    (fun os started H enc _ => lifted_Tokens os started H enc)
end Go.Proofs.YtecodlefcmjihaaGreat
