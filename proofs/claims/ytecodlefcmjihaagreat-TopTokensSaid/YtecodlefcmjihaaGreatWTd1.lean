/- Trimmed by wip/trim.py to what this claim rests on. -/
import Derived.Test.YtecodlefcmjihaaGreatWTk6
import Derived.Test.YtecodlefcmjihaaGreatWSb2
namespace Go.Proofs.YtecodlefcmjihaaGreat
open Go.RowKit
def sm (f : Dl → Int) (D : List Dl) : Int := sumI (D.map f)
theorem sm_nil {f : Dl → Int} : sm f [] = 0 := rfl
theorem sm_cons {f : Dl → Int} {d : Dl} {D : List Dl} : sm f (d :: D) = f d + sm f D := rfl
theorem sm_app {f : Dl → Int} {D E : List Dl} : sm f (D ++ E) = sm f D + sm f E := by
  unfold sm
  rw [List.map_append, sumI_app]
theorem sm_pos {f : Dl → Int} : ∀ {D : List Dl}, (∀ d ∈ D, 0 ≤ f d) → 0 ≤ sm f D
  | [], _ => by rw [sm_nil]; omega
  | d :: D, h => by
    rw [sm_cons]
    have := h d (List.mem_cons_self ..)
    have := sm_pos fun d hd => h d (List.mem_cons_of_mem _ hd)
    omega
theorem sm_neg {f : Dl → Int} : ∀ {D : List Dl}, (∀ d ∈ D, f d ≤ 0) → sm f D ≤ 0
  | [], _ => by rw [sm_nil]; omega
  | d :: D, h => by
    rw [sm_cons]
    have := h d (List.mem_cons_self ..)
    have := sm_neg fun d hd => h d (List.mem_cons_of_mem _ hd)
    omega
def pcd (F : Fai) (g : Int) (d : Dl) : Int := if d.2.1 = 1 then (if d.2.2.2.1 = g then (bu F d.2.2.2.2).1 else 0) else (if d.2.2.1 = g then -d.2.2.2.2 else 0)
def bxd (r : Int) (d : Dl) : Int := if d.2.1 = 1 then 0 else if d.2.2.2.1 = r then d.2.2.2.2 else 0
def sld (F : Fai) (d : Dl) : Int := if d.2.1 = 1 then (bu F d.2.2.2.2).1 else 0
def tkd (d : Dl) : Int := if d.2.1 = 1 then 0 else d.2.2.2.2
def ind (F : Fai) (d : Dl) : Int := if d.2.1 = 1 then (bu F d.2.2.2.2).2 else 0
structure SaleD (F : Fai) (d : Dl) : Prop where
  t : d.1 = 0
  k : d.2.1 = 1
  a : d.2.2.1 = 0
  b : 0 ≤ d.2.2.2.1 ∧ d.2.2.2.1 < F.purses
  n : 0 ≤ d.2.2.2.2 ∧ d.2.2.2.2 < F.bundles.length
structure RideD (F : Fai) (d : Dl) : Prop where
  t : 0 ≤ d.1 ∧ d.1 ≤ 1440
  k : d.2.1 = 2
  a : 0 ≤ d.2.2.1 ∧ d.2.2.1 < F.purses
  b : 0 ≤ d.2.2.2.1 ∧ d.2.2.2.1 < F.boxes
  n : 0 ≤ d.2.2.2.2 ∧ d.2.2.2.2 ≤ 1000
def wfD (F : Fai) (d : Dl) : Prop := SaleD F d ∨ RideD F d
structure SumF (F : Fai) (S T : Fno) (D : List Dl) : Prop where
  ls : T.stock.length = 1
  lc : T.cash.length = 1
  lp : T.purses.length = F.purses.toNat
  lb : T.boxes.length = F.boxes.toNat
  s : gt T.stock 0 = gt S.stock 0 - sm (sld F) D
  c : gt T.cash 0 = gt S.cash 0 + sm (ind F) D
  p : ∀ g : Int, 0 ≤ g → g < F.purses → gt T.purses g = gt S.purses g + sm (pcd F g) D
  b : ∀ r : Int, 0 ≤ r → r < F.boxes → gt T.boxes r = gt S.boxes r + sm (bxd r) D
  so : T.sold = S.sold + sm (sld F) D
  ta : T.taken = S.taken + sm tkd D
  i : T.inc = S.inc + sm (ind F) D
structure OneT (F : Fai) (S : Fno) : Prop where
  ls : S.stock.length = 1
  lc : S.cash.length = 1
  lp : S.purses.length = F.purses.toNat
  lb : S.boxes.length = F.boxes.toNat
theorem gt_setI {xs : List Int} {i k v : Int} (i0 : 0 ≤ i) (i1 : i < xs.length) (k0 : 0 ≤ k) : gt (xs.set i.toNat v) k = if i = k then v else gt xs k := by
  rw [gt_set_nat (by omega) k0]
  by_cases e : i = k
  · rw [if_pos (by omega), if_pos e]
  · rw [if_neg (by omega), if_neg e]
theorem SumF.step {F : Fai} {S : Fno} (h : OneT F S) {d : Dl} (hd : wfD F d) : SumF F S (stepD F S d) [d] := by
  have one : ∀ f : Dl → Int, sm f [d] = f d := fun f => by rw [sm_cons, sm_nil, Int.add_zero]
  unfold stepD
  rcases hd with hd | hd
  · have hk := hd.k
    have ha := hd.a
    have hb := hd.b
    rw [if_pos hk]
    have e0 : d.2.2.1.toNat = 0 := by rw [ha]; rfl
    have hbl : d.2.2.2.1 < (S.purses.length : Int) := by rw [h.lp]; omega
    refine ⟨by rw [← h.ls]; exact List.length_set .., by rw [← h.lc]; exact List.length_set .., by rw [← h.lp]; exact List.length_set .., h.lb, ?_, ?_, fun g g0 g1 => ?_, fun r r0 r1 => ?_, ?_, ?_, ?_⟩
    · show gt (S.stock.set d.2.2.1.toNat (gt S.stock d.2.2.1 - (bu F d.2.2.2.2).1)) 0 = _
      rw [one, e0, ha, gt_set_nat (by rw [h.ls]; omega) (by omega), if_pos (show (0 : Int) = ((0 : Nat) : Int) from rfl), sld, if_pos hk]
    · show gt (S.cash.set d.2.2.1.toNat (gt S.cash d.2.2.1 + (bu F d.2.2.2.2).2)) 0 = _
      rw [one, e0, ha, gt_set_nat (by rw [h.lc]; omega) (by omega), if_pos (show (0 : Int) = ((0 : Nat) : Int) from rfl), ind, if_pos hk]
    · show gt (S.purses.set d.2.2.2.1.toNat (gt S.purses d.2.2.2.1 + (bu F d.2.2.2.2).1)) g = _
      rw [one, pcd, if_pos hk, gt_setI hb.1 hbl g0]
      split
      · rename_i e; rw [e]
      · omega
    · show gt S.boxes r = _
      rw [one, bxd, if_pos hk, Int.add_zero]
    · show S.sold + _ = _
      rw [one, sld, if_pos hk]
    · show S.taken = _
      rw [one, tkd, if_pos hk, Int.add_zero]
    · show S.inc + _ = _
      rw [one, ind, if_pos hk]
  · have hk := hd.k
    have hk' : ¬ d.2.1 = 1 := by omega
    have ha := hd.a
    have hb := hd.b
    rw [if_neg hk']
    have hal : d.2.2.1 < (S.purses.length : Int) := by rw [h.lp]; omega
    have hbl : d.2.2.2.1 < (S.boxes.length : Int) := by rw [h.lb]; omega
    refine ⟨h.ls, h.lc, by rw [← h.lp]; exact List.length_set .., by rw [← h.lb]; exact List.length_set .., ?_, ?_, fun g g0 g1 => ?_, fun r r0 r1 => ?_, ?_, ?_, ?_⟩
    · show gt S.stock 0 = _
      rw [one, sld, if_neg hk', Int.sub_zero]
    · show gt S.cash 0 = _
      rw [one, ind, if_neg hk', Int.add_zero]
    · show gt (S.purses.set d.2.2.1.toNat (gt S.purses d.2.2.1 - d.2.2.2.2)) g = _
      rw [one, pcd, if_neg hk', gt_setI ha.1 hal g0]
      split
      · rename_i e; rw [e, Int.sub_eq_add_neg]
      · omega
    · show gt (S.boxes.set d.2.2.2.1.toNat (gt S.boxes d.2.2.2.1 + d.2.2.2.2)) r = _
      rw [one, bxd, if_neg hk', gt_setI hb.1 hbl r0]
      split
      · rename_i e; rw [e]
      · omega
    · show S.sold = _
      rw [one, sld, if_neg hk', Int.add_zero]
    · show S.taken + _ = _
      rw [one, tkd, if_neg hk']
    · show S.inc = _
      rw [one, ind, if_neg hk', Int.add_zero]
theorem SumF.one {F : Fai} {S T : Fno} {D : List Dl} (h : SumF F S T D) : OneT F T := ⟨h.ls, h.lc, h.lp, h.lb⟩
theorem SumF.fold {F : Fai} : ∀ (D : List Dl) {S : Fno}, OneT F S → (∀ d ∈ D, wfD F d) → SumF F S (D.foldl (stepD F) S) D
  | [], S, h, _ => ⟨h.ls, h.lc, h.lp, h.lb, by rw [sm_nil, Int.sub_zero]; rfl, by rw [sm_nil, Int.add_zero]; rfl, fun g _ _ => by rw [sm_nil, Int.add_zero]; rfl, fun r _ _ => by rw [sm_nil, Int.add_zero]; rfl, by rw [sm_nil, Int.add_zero]; rfl, by rw [sm_nil, Int.add_zero]; rfl, by rw [sm_nil, Int.add_zero]; rfl⟩
  | d :: D, S, h, hd => by
    have h1 := SumF.step h (hd d (List.mem_cons_self ..))
    have h2 := SumF.fold D h1.one fun x hx => hd x (List.mem_cons_of_mem _ hx)
    rw [List.foldl_cons]
    have e : ∀ f : Dl → Int, sm f (d :: D) = sm f [d] + sm f D := fun f => by rw [sm_cons, sm_cons, sm_nil, Int.add_zero]
    refine ⟨h2.ls, h2.lc, h2.lp, h2.lb, ?_, ?_, fun g g0 g1 => ?_, fun r r0 r1 => ?_, ?_, ?_, ?_⟩
    · rw [h2.s, h1.s, e]; omega
    · rw [h2.c, h1.c, e]; omega
    · rw [h2.p g g0 g1, h1.p g g0 g1, e]; omega
    · rw [h2.b r r0 r1, h1.b r r0 r1, e]; omega
    · rw [h2.so, h1.so, e]; omega
    · rw [h2.ta, h1.ta, e]; omega
    · rw [h2.i, h1.i, e]; omega
theorem last_fold {F : Fai} {t : Int} : ∀ (D : List Dl) {S : Fno}, S.last ≤ t → (∀ d ∈ D, d.1 ≤ t) → (D.foldl (stepD F) S).last ≤ t
  | [], _, h, _ => h
  | d :: D, S, h, hd => by
    rw [List.foldl_cons]
    refine last_fold D ?_ fun x hx => hd x (List.mem_cons_of_mem _ hx)
    have e : (stepD F S d).last = d.1 := by unfold stepD; split <;> rfl
    rw [e]
    exact hd d (List.mem_cons_self ..)
structure Right (F : Fai) (D E : List Dl) : Prop where
  s : F.stock.length = 1
  c : F.cash.length = 1
  p : 0 ≤ F.purses
  u : ∀ n : Int, 0 ≤ n → n < F.bundles.length → 0 ≤ (bu F n).1
  d : ∀ d ∈ D, SaleD F d
  e : ∀ d ∈ E, RideD F d
  o : E.Pairwise fun a b => a.1 ≤ b.1
  st : sm (sld F) D ≤ gt F.stock 0
  en : ∀ g : Int, 0 ≤ g → g < F.purses → 0 ≤ sm (pcd F g) (D ++ E)
section
variable {F : Fai} {D E : List Dl}
theorem Right.wf (h : Right F D E) : ∀ d ∈ D ++ E, wfD F d := fun d hd => (List.mem_append.1 hd).imp (h.d d) (h.e d)
theorem Right.ini (h : Right F D E) : OneT F (iniF F) := ⟨h.s, h.c, List.length_replicate .., List.length_replicate ..⟩
theorem Right.run (h : Right F D E) (k : Nat) : SumF F (iniF F) (runD F ((D ++ E).take k)) ((D ++ E).take k) := SumF.fold _ h.ini fun d hd => h.wf d (List.mem_of_mem_take hd)
theorem Right.sorted (h : Right F D E) : (D ++ E).Pairwise fun a b => a.1 ≤ b.1 := by
  rw [List.pairwise_append]
  refine ⟨?_, h.o, fun a ha b hb => ?_⟩
  · rw [List.pairwise_iff_forall_sublist]
    intro a b hab
    have ha : a ∈ D := hab.subset (List.mem_cons_self ..)
    have hb : b ∈ D := hab.subset (List.mem_cons_of_mem _ (List.mem_cons_self ..))
    rw [(h.d a ha).t, (h.d b hb).t]
    exact Int.le_refl _
  · rw [(h.d a ha).t]
    exact (h.e b hb).t.1
theorem ini_p {g : Int} (g0 : 0 ≤ g) (g1 : g < F.purses) : gt (iniF F).purses g = 0 := by
  show gt (List.replicate F.purses.toNat 0) g = 0
  exact gt_rep g0 (by omega)
theorem ini_b {g : Int} (g0 : 0 ≤ g) (g1 : g < F.boxes) : gt (iniF F).boxes g = 0 := by
  show gt (List.replicate F.boxes.toNat 0) g = 0
  exact gt_rep g0 (by omega)
theorem Right.pos (h : Right F D E) : posAll F (D ++ E) := by
  intro k hk
  have hr := h.run k
  have hs := h.sorted
  have hl : (runD F ((D ++ E).take k)).last ≤ (D ++ E)[k].1 := by
    refine last_fold _ ?_ fun d hd => ?_
    · show (0 : Int) ≤ _
      rcases h.wf _ (List.getElem_mem hk) with q | q
      · rw [q.t]; exact Int.le_refl _
      · exact q.t.1
    · obtain ⟨i, hi, rfl⟩ := List.getElem_of_mem hd
      rw [List.length_take] at hi
      rw [List.getElem_take]
      exact List.pairwise_iff_getElem.1 hs i k (by omega) hk (by omega)
  have hsp : ∀ f : Dl → Int, sm f (D ++ E) = sm f ((D ++ E).take k) + (f (D ++ E)[k] + sm f ((D ++ E).drop (k + 1))) := fun f => by
    have e : D ++ E = (D ++ E).take k ++ ((D ++ E)[k] :: (D ++ E).drop (k + 1)) := by
      rw [← List.drop_eq_getElem_cons hk, List.take_append_drop]
    conv => lhs; rw [e]
    rw [sm_app, sm_cons]
  rcases h.wf _ (List.getElem_mem hk) with q | q
  · have q1 := q.t
    refine ⟨⟨hl, by omega⟩, .inl ⟨q.k, ?_, ?_, q.n, ?_⟩⟩
    · rw [q.a, hr.ls]; omega
    · have := q.b
      rw [hr.lp]; omega
    · have hpos : ∀ d ∈ D ++ E, 0 ≤ sld F d := fun d hd => by
        unfold sld
        split
        · rename_i e
          rcases h.wf d hd with q | q
          · exact h.u _ q.n.1 q.n.2
          · have := q.k; omega
        · omega
      have h1 := hsp (sld F)
      have h2 : sm (sld F) E ≤ 0 := sm_neg fun d hd => by
        unfold sld
        rw [if_neg (by have := (h.e d hd).k; omega)]
        omega
      have h3 := sm_pos (D := (D ++ E).drop (k + 1)) fun d hd => hpos d (List.mem_of_mem_drop hd)
      have h4 : sld F (D ++ E)[k] = (bu F (D ++ E)[k].2.2.2.2).1 := by unfold sld; rw [if_pos q.k]
      rw [q.a, hr.s]
      show _ ≤ gt F.stock 0 - _
      rw [sm_app, h4] at h1
      have h5 := h.st
      omega
  · refine ⟨⟨hl, q.t.2⟩, .inr ⟨q.k, ?_, ?_, q.n, ?_⟩⟩
    · have := q.a
      rw [hr.lp]; omega
    · have := q.b
      rw [hr.lb]; omega
    · have h1 := hsp (pcd F (D ++ E)[k].2.2.1)
      have h2 := h.en _ q.a.1 q.a.2
      have h4 : pcd F (D ++ E)[k].2.2.1 (D ++ E)[k] = -(D ++ E)[k].2.2.2.2 := by
        unfold pcd
        rw [if_neg (by have := q.k; omega), if_pos rfl]
      have hkD : D.length ≤ k := by
        rcases Nat.lt_or_ge k D.length with c | c
        · exfalso
          have e : (D ++ E)[k] = D[k] := List.getElem_append_left c
          have := (h.d _ (List.getElem_mem c)).k
          rw [← e, q.k] at this
          omega
        · exact c
      have h3 : sm (pcd F (D ++ E)[k].2.2.1) ((D ++ E).drop (k + 1)) ≤ 0 := sm_neg fun d hd => by
        have e : (D ++ E).drop (k + 1) = E.drop (k + 1 - D.length) := by
          rw [List.drop_append, List.drop_eq_nil_of_le (by omega), List.nil_append]
        rw [e] at hd
        have q' := h.e d (List.mem_of_mem_drop hd)
        have := q'.k
        have := q'.n
        unfold pcd
        rw [if_neg (by omega)]
        split <;> omega
      rw [hr.p _ q.a.1 q.a.2, ini_p q.a.1 q.a.2]
      omega
structure Left (F : Fai) (S : Fno) (D : List Dl) : Prop where
  lp : S.purses.length = F.purses.toNat
  lb : S.boxes.length = F.boxes.toNat
  c : gt S.cash 0 = gt F.cash 0 + sm (ind F) D
  lc : S.cash.length = 1
  p : ∀ g : Int, 0 ≤ g → g < F.purses → gt S.purses g = sm (pcd F g) D
  b : ∀ r : Int, 0 ≤ r → r < F.boxes → gt S.boxes r = sm (bxd r) D
  so : S.sold = sm (sld F) D
  ta : S.taken = sm tkd D
  i : S.inc = sm (ind F) D
theorem Right.left (h : Right F D E) : Left F (runD F (D ++ E)) (D ++ E) := by
  have hr := h.run (D ++ E).length
  rw [List.take_length] at hr
  refine ⟨hr.lp, hr.lb, hr.c, hr.lc, fun g g0 g1 => ?_, fun r r0 r1 => ?_, ?_, ?_, ?_⟩
  · rw [hr.p g g0 g1, ini_p g0 g1, Int.zero_add]
  · rw [hr.b r r0 r1, ini_b r0 r1, Int.zero_add]
  · rw [hr.so]; exact Int.zero_add _
  · rw [hr.ta]; exact Int.zero_add _
  · rw [hr.i]; exact Int.zero_add _
end
end Go.Proofs.YtecodlefcmjihaaGreat
