/- An evening with one more group, who has not come yet: nothing else is changed. No program in sight. -/
import Derived.Test.YtgcefaikdplbkaaSb1
namespace Go.Proofs.Ytgcefaikdplbkaa
open Go.RowKit

/-- the same with one more group, who is away -/
def Pl.ext (S : Pl) (m : Grp) : Pl := { S with G := S.G ++ [m], guests := S.guests ++ [⟨0, -1, 0, m.tokens⟩], homes := S.homes ++ [-1] }
section
variable {S T : Pl} {c : Nat} {g : Int} {m : Grp}
theorem ext_gu (hg : g.toNat < S.guests.length) : (S.ext m).gu g = S.gu g := by
  show (S.guests ++ [_]).getD _ _ = S.guests.getD _ _
  simp only [List.getD]
  rw [List.getElem?_append_left hg]
theorem ext_gr (hg : g.toNat < S.G.length) : (S.ext m).gr g = S.gr g := by
  show (S.G ++ [_]).getD _ _ = S.G.getD _ _
  simp only [List.getD]
  rw [List.getElem?_append_left hg]
theorem ext_last (hl : S.guests.length = S.G.length) : (S.ext m).gu (S.G.length : Int) = ⟨0, -1, 0, m.tokens⟩ ∧ (S.ext m).gr (S.G.length : Int) = m := by
  refine ⟨?_, ?_⟩
  · show (S.guests ++ [_]).getD _ _ = _
    simp [List.getD, ← hl]
  · show (S.G ++ [_]).getD _ _ = _
    simp [List.getD]
theorem ext_setG (hg : g.toNat < S.guests.length) (x : Gs) : (S.ext m).setG g x = (S.setG g x).ext m := by
  unfold Pl.setG Pl.ext
  simp only
  rw [List.set_append_left _ _ hg]
theorem ext_setH (hg : g.toNat < S.homes.length) (t : Int) : (S.ext m).setH g t = (S.setH g t).ext m := by
  unfold Pl.setH Pl.ext
  simp only
  rw [List.set_append_left _ _ hg]
/-- a group that is there -/
structure In (S : Pl) (k : Int) : Prop where
  g : k.toNat < S.guests.length
  h : k.toNat < S.homes.length
  G : k.toNat < S.G.length
theorem In.of (ok : S.Ok c) (g0 : 0 ≤ g) (g1 : g < S.G.length) : In S g := ⟨by rw [ok.lg]; omega, by rw [ok.lh]; omega, by omega⟩
theorem In.setG (h : In S g) (k : Int) (x : Gs) : In (S.setG k x) g := ⟨by show _ < (S.guests.set _ _).length; rw [List.length_set]; exact h.g, h.h, h.G⟩
theorem ext_stand (h : In S g) : (S.ext m).stand g = (S.stand g).ext m := by
  unfold Pl.stand
  rw [ext_gu h.g, ext_gr h.G]
  have e : (S.ext m).setG g { S.gu g with st := 2, since := (S.ext m).now } = (S.setG g { S.gu g with st := 2, since := S.now }).ext m := ext_setG h.g _
  rw [e]
  rfl
theorem ext_on (h : In S g) : (S.ext m).on g = (S.on g).ext m := by
  unfold Pl.on
  rw [ext_gu h.g, ext_gr h.G]
  have e : ∀ n : Int, (S.ext m).setG g { S.gu g with want := (S.gu g).want + 1, since := (S.ext m).now, st := n } = (S.setG g { S.gu g with want := (S.gu g).want + 1, since := S.now, st := n }).ext m := fun n => ext_setG h.g _
  rw [e, e]
  show (if _ then (Pl.ext _ m).setH g S.now else if S.walk = 0 then _ else _) = _
  split
  · exact ext_setH (S := S.setG g _) h.h _
  · split
    · exact ext_stand (h.setG g _)
    · rfl
theorem ext_unq (h : In S g) (b : Bool) : (S.ext m).unq g b = (S.unq g b).ext m := by
  unfold Pl.unq
  rw [ext_gu h.g, ext_gr h.G]
  rfl
theorem ext_leave (h : In S g) (b : Bool) : (S.ext m).leave g b = (S.leave g b).ext m := by
  unfold Pl.leave
  have ep : (S.ext m).price g = S.price g := by
    unfold Pl.price
    rw [ext_gu h.g, ext_gr h.G]
    rfl
  rw [ext_unq h, ext_unq h, ep, ext_gu h.g, ext_gr h.G]
  have hu : ∀ b, In (S.unq g b) g := fun b => ⟨h.g, h.h, h.G⟩
  have e : ((S.unq g true).ext m).setG g { S.gu g with st := 3, since := (S.ext m).now, tokens := (S.gu g).tokens - S.price g } = ((S.unq g true).setG g { S.gu g with st := 3, since := S.now, tokens := (S.gu g).tokens - S.price g }).ext m := ext_setG (hu true).g _
  rw [e, ext_on (hu false)]
  split
  · rfl
  · rfl
theorem ext_endK (k : Nat) : (S.ext m).endK k = (S.endK k).ext m := rfl
theorem ext_fold {f : Pl → Int → Pl} {d : Nat} (ok : S.Ok c) : ∀ n : Nat, n ≤ S.G.length → (∀ (T : Pl) (c' : Nat), T.Ok c' → S.Sm T → ∀ k : Nat, k < n → (f T k).Ok (c' + d) ∧ T.Sm (f T k)) → (∀ (T : Pl) (c' : Nat), T.Ok c' → S.Sm T → ∀ k : Nat, k < n → f (T.ext m) k = (f T k).ext m) → (ints n).foldl f (S.ext m) = ((ints n).foldl f S).ext m
  | 0, _, _, _ => rfl
  | n + 1, hn, h1, h2 => by
    obtain ⟨a, b⟩ := fold_ok ok n fun T c' t1 t2 k hk => h1 T c' t1 t2 k (by omega)
    rw [fold_succ, fold_succ, ext_fold ok n (by omega) (fun T c' t1 t2 k hk => h1 T c' t1 t2 k (by omega)) fun T c' t1 t2 k hk => h2 T c' t1 t2 k (by omega)]
    exact h2 _ _ a b n (by omega)
theorem ext_end (ok : S.Ok c) : (S.ext m).end_ = S.end_.ext m := by
  rw [Pl.end_eq, Pl.end_eq]
  have hl : (S.ext m).G.length = S.G.length + 1 := by show (S.G ++ [m]).length = _; simp
  rw [hl, fold_succ]
  show Pl.off1 ((ints S.G.length).foldl Pl.off1 ((S.endK S.B.length).ext m)) _ = _
  rw [ext_fold (f := Pl.off1) (d := 0) (ok.endK S.B.length) S.G.length (Nat.le_refl _) (fun T c' t1 t2 k hk => t1.off2 (by omega) (by rw [t2.g]; show (k : Int) < (S.G.length : Int); omega)) fun T c' t1 t2 k hk => ?_]
  · obtain ⟨ok5, sm5⟩ := ok.endF (Nat.le_refl _)
    generalize (ints S.G.length).foldl Pl.off1 (S.endK S.B.length) = T at *
    rw [← sm5.g]
    obtain ⟨e1, _⟩ := ext_last (m := m) ok5.lg
    unfold Pl.off1 Pl.off
    rw [e1, if_neg (by simp)]
  · have hi : In T k := In.of t1 (by omega) (by rw [t2.g]; show (k : Int) < (S.G.length : Int); omega)
    have e : (T.ext m).off k = T.off k := by
      unfold Pl.off
      rw [ext_gu hi.g, ext_gr hi.G]
      rfl
    unfold Pl.off1
    rw [e, ext_on hi]
    split <;> rfl
theorem ext_come (ok : S.Ok c) (hm : S.now < m.came) : (S.ext m).come = S.come.ext m := by
  unfold Pl.come
  have hl : (S.ext m).G.length = S.G.length + 1 := by show (S.G ++ [m]).length = _; simp
  rw [hl, fold_succ]
  rw [ext_fold (f := Pl.come1) (d := 0) ok S.G.length (Nat.le_refl _) (fun T c' t1 t2 k hk => ⟨t1.come1 (by omega) (by rw [t2.g]; omega), Pl.Sm.come1 T k⟩) fun T c' t1 t2 k hk => ?_]
  · obtain ⟨ok5, sm5⟩ := ok.comeF (Nat.le_refl _)
    generalize (ints S.G.length).foldl Pl.come1 S = T at *
    rw [← sm5.g]
    obtain ⟨e1, e2⟩ := ext_last (m := m) ok5.lg
    have hn : ¬ m.came = (T.ext m).now := by
      show ¬ m.came = T.now
      rw [sm5.n]; omega
    unfold Pl.come1 Pl.comeA Pl.comeB
    rw [e1, e2, if_neg (by simp [hn]), if_neg (by simp)]
  · have hi : In T k := In.of t1 (by omega) (by rw [t2.g]; omega)
    have eA : (T.ext m).comeA k = T.comeA k := by
      unfold Pl.comeA
      rw [ext_gu hi.g, ext_gr hi.G]
      rfl
    have eB : (T.ext m).comeB k = T.comeB k := by
      unfold Pl.comeB
      rw [ext_gu hi.g]
      rfl
    unfold Pl.come1
    rw [eA, eB, ext_on hi, ext_stand hi]
    split
    · rfl
    · split <;> rfl
theorem ext_leaves (ok : S.Ok c) : (S.ext m).leaves = S.leaves.ext m := by
  rw [Pl.leaves_eq, Pl.leaves_eq]
  have hl : (S.ext m).G.length = S.G.length + 1 := by show (S.G ++ [m]).length = _; simp
  rw [hl, fold_succ]
  rw [ext_fold (f := Pl.quit1) (d := 1) ok S.G.length (Nat.le_refl _) (fun T c' t1 t2 k hk => t1.quit2 (by omega) (by rw [t2.g]; omega)) fun T c' t1 t2 k hk => ?_]
  · obtain ⟨ok5, sm5⟩ := ok.quitF (Nat.le_refl _)
    generalize (ints S.G.length).foldl Pl.quit1 S = T at *
    rw [← sm5.g]
    obtain ⟨e1, _⟩ := ext_last (m := m) ok5.lg
    unfold Pl.quit1 Pl.quits
    rw [e1, if_neg (by simp)]
  · have hi : In T k := In.of t1 (by omega) (by rw [t2.g]; omega)
    have e : (T.ext m).quits k = T.quits k := by
      unfold Pl.quits
      rw [ext_gu hi.g, ext_gr hi.G]
      rfl
    unfold Pl.quit1 Pl.quit
    rw [e, ext_leave hi]
    split <;> rfl
theorem ext_fill {r : Int} (q : List Int) : ∀ (left : Int) (T : Pl) (c : Nat), FlOk T r q c → fillR r q left (T.ext m) = ((fillR r q left T).1.ext m, (fillR r q left T).2) := by
  induction q with
  | nil => exact fun left T c _ => rfl
  | cons g q ih =>
    intro left T c fo
    obtain ⟨g0, g1, gs, gw⟩ := fo.el g (List.mem_cons_self ..)
    have hi : In T g := In.of fo.ok g0 g1
    have eb : (T.ext m).bad r g = T.bad r g := by
      unfold Pl.bad
      rw [ext_gu hi.g, ext_gr hi.G]
      rfl
    have et : (T.ext m).bt r = T.bt r := rfl
    rw [fillR_cons, fillR_cons, eb, ext_gr hi.G, et, ext_leave hi, ext_leave hi]
    by_cases hbad : T.bad r g = true
    · rw [if_pos hbad, if_pos hbad]
      exact ih left _ (c + 1) (fo.leave fun e => by cases e)
    · rw [if_neg hbad, if_neg hbad]
      by_cases hsz : (T.gr g).size ≤ left
      · rw [if_pos hsz, if_pos hsz]
        exact ih (left - (T.gr g).size) _ (c + 1) (fo.leave fun _ => by simpa using hbad)
      · rw [if_neg hsz, if_neg hsz]
        by_cases hf : (T.bt r).fill = true
        · rw [if_pos hf, if_pos hf]
          exact ih left T (c + 1) fo.skip
        · rw [if_neg hf, if_neg hf]
theorem ext_begin (ok : S.Ok c) {r : Int} (r0 : 0 ≤ r) (r1 : r < S.B.length) : (S.ext m).begin r = (S.begin r).ext m := by
  unfold Pl.begin
  have eg : (S.ext m).goesOn r = S.goesOn r := rfl
  have eq : (S.ext m).qu r = S.qu r := rfl
  have et : (S.ext m).bt r = S.bt r := rfl
  rw [eg, eq, et, ext_fill (S.qu r) (S.bt r).seats S c (FlOk.of ok r0 r1)]
  split
  · rfl
  · simp only
    split <;> rfl
theorem ext_begins (ok : S.Ok c) : ∀ n : Nat, n ≤ S.B.length → (S.ext m).begins n = (S.begins n).ext m
  | 0, _ => rfl
  | n + 1, hn => by
    obtain ⟨h1, h2⟩ := ok.beginF n (by omega)
    rw [Pl.begins_succ, Pl.begins_succ, ext_begins ok n (by omega)]
    exact ext_begin h1 (by omega) (by rw [h2.b]; omega)
theorem ext_line (ok : S.Ok c) (k : Nat) : (S.ext m).lineK k = (S.lineK k).ext m := by
  have e : ∀ i : Nat, i < S.lines.length → (S.ext m).guests1 i = S.guests1 i := fun i hi => by
    unfold Pl.guests1
    congr 1
    apply List.map_congr_left
    intro g hg
    obtain ⟨a, b, _⟩ := ok.qs i (by omega) (by rw [← ok.ll]; omega) g hg
    rw [ext_gr (by omega)]
  have e2 : (List.range S.lines.length).map (fun i : Nat => if i < k then (if gt S.lines i < (S.ext m).guests1 i then (S.ext m).guests1 i else gt S.lines i) else gt S.lines i) = (List.range S.lines.length).map fun i : Nat => if i < k then (if gt S.lines i < S.guests1 i then S.guests1 i else gt S.lines i) else gt S.lines i := by
    apply List.map_congr_left
    intro i hi
    rw [e i (List.mem_range.1 hi)]
  show ({ S.ext m with lines := (List.range S.lines.length).map (fun i : Nat => if i < k then (if gt S.lines i < (S.ext m).guests1 i then (S.ext m).guests1 i else gt S.lines i) else gt S.lines i) } : Pl) = _
  rw [e2]
  rfl
theorem ext_tick (ok : S.Ok c) (hm : S.now < m.came) : (S.ext m).tick = S.tick.ext m := by
  obtain ⟨ok5, sm5⟩ : S.end_.Ok c ∧ S.Sm S.end_ := ok.endF (Nat.le_refl _)
  obtain ⟨ok8, sm8⟩ : S.end_.come.Ok c ∧ S.end_.Sm S.end_.come := ok5.comeF (Nat.le_refl _)
  obtain ⟨okr, smr⟩ := ok.rest
  have er : (S.ext m).rest = S.rest.ext m := by
    unfold Pl.rest
    rw [ext_end ok, ext_come ok5 (by rw [sm5.n]; exact hm), ext_leaves ok8]
  unfold Pl.tick
  rw [er]
  show ((S.rest.ext m).begins S.B.length).lineK S.B.length = _
  rw [ext_begins okr S.B.length (by rw [smr.b]; exact Nat.le_refl _)]
  exact ext_line (okr.beginF S.B.length (by rw [smr.b]; exact Nat.le_refl _)).1 _
end
section
variable {w : Int} {B : List BthG} {G : List Grp} {m : Grp}
theorem run_ext (hv : Val w B G) : ∀ k : Nat, k ≤ 4001 → (k : Int) ≤ m.came → Pl.run w B (G ++ [m]) k = (Pl.run w B G k).ext m
  | 0, _, _ => by
    show Pl.init w B (G ++ [m]) = (Pl.init w B G).ext m
    unfold Pl.init Pl.ext
    simp only [List.map_append, List.map_cons, List.map_nil, List.length_append, List.length_singleton, List.replicate_succ']
  | k + 1, hk, hm => by
    obtain ⟨ok, h2, h3, h4⟩ := run_ok2 hv k (by omega)
    show (Pl.run w B (G ++ [m]) k).tick.later ((k : Int) + 1) = _
    rw [run_ext hv k (by omega) (by omega), ext_tick ok (by rw [h2]; omega)]
    rfl

/-! ### Visits are only added, and at their time -/
def Apn (S T : Pl) : Prop := ∃ W, T.visits = S.visits ++ W ∧ ∀ v ∈ W, v.left = S.now
theorem Apn.refl (S : Pl) : Apn S S := ⟨[], by simp, fun v hv => by simp at hv⟩
theorem Apn.same {S T : Pl} (h : T.visits = S.visits) : Apn S T := ⟨[], by simp [h], fun v hv => by simp at hv⟩
theorem Apn.trans {S T U : Pl} (h : Apn S T) (e : T.now = S.now) (h' : Apn T U) : Apn S U := by
  obtain ⟨W, h1, h2⟩ := h
  obtain ⟨X, h3, h4⟩ := h'
  refine ⟨W ++ X, by rw [h3, h1, List.append_assoc], fun v hv => ?_⟩
  rcases List.mem_append.1 hv with hv | hv
  · exact h2 v hv
  · rw [h4 v hv, e]
theorem on_visits (S : Pl) (g : Int) : (S.on g).visits = S.visits := by
  unfold Pl.on
  split
  · rfl
  · split <;> rfl
theorem Apn.leave (S : Pl) (g : Int) (b : Bool) : Apn S (S.leave g b) := by
  unfold Pl.leave
  split
  · exact ⟨[_], rfl, fun v hv => by rw [List.mem_singleton] at hv; subst hv; rfl⟩
  · exact ⟨[_], by rw [on_visits]; rfl, fun v hv => by rw [List.mem_singleton] at hv; subst hv; rfl⟩
theorem Apn.fold {f : Pl → Int → Pl} (h : ∀ T k, Apn T (f T k)) (hs : ∀ T k, (f T k).now = T.now) : ∀ (l : List Int) (S : Pl), Apn S (l.foldl f S) ∧ (l.foldl f S).now = S.now
  | [], S => ⟨Apn.refl S, rfl⟩
  | x :: l, S => by
    obtain ⟨a, b⟩ := Apn.fold h hs l (f S x)
    exact ⟨(h S x).trans (hs S x) a, b.trans (hs S x)⟩
theorem Apn.fill {r : Int} : ∀ (q : List Int) (left : Int) (T : Pl), Apn T (fillR r q left T).1 ∧ (fillR r q left T).1.now = T.now
  | [], _, T => ⟨Apn.refl T, rfl⟩
  | g :: q, left, T => by
    have hn : ∀ b, (T.leave g b).now = T.now := fun b => (Pl.Sm.leave T g b).n
    rw [fillR_cons]
    split
    · obtain ⟨a, b⟩ := Apn.fill (r := r) q left (T.leave g false)
      exact ⟨(Apn.leave T g false).trans (hn _) a, b.trans (hn _)⟩
    · split
      · obtain ⟨a, b⟩ := Apn.fill (r := r) q (left - (T.gr g).size) (T.leave g true)
        exact ⟨(Apn.leave T g true).trans (hn _) a, b.trans (hn _)⟩
      · split
        · exact Apn.fill q left T
        · exact ⟨Apn.refl T, rfl⟩
theorem Apn.begin (S : Pl) (r : Int) : Apn S (S.begin r) ∧ (S.begin r).now = S.now := by
  unfold Pl.begin
  split
  · exact ⟨Apn.refl S, rfl⟩
  · have h := Apn.fill (r := r) (S.qu r) (S.bt r).seats S
    split
    · exact h
    · exact h
theorem Apn.begins (S : Pl) : ∀ n : Nat, Apn S (S.begins n) ∧ (S.begins n).now = S.now
  | 0 => ⟨Apn.refl S, rfl⟩
  | n + 1 => by
    obtain ⟨a, b⟩ := Apn.begins S n
    rw [Pl.begins_succ]
    obtain ⟨a', b'⟩ := Apn.begin (S.begins n) n
    exact ⟨a.trans b a', b'.trans b⟩
theorem Apn.tick (S : Pl) : Apn S S.tick ∧ S.tick.now = S.now := by
  have h1 : Apn S S.end_ ∧ S.end_.now = S.now := by
    rw [Pl.end_eq]
    refine Apn.fold (f := Pl.off1) (fun T k => ?_) (fun T k => ?_) _ (S.endK S.B.length)
    · unfold Pl.off1
      split
      · exact Apn.same (on_visits T k)
      · exact Apn.refl T
    · unfold Pl.off1
      split
      · exact (T.on_same k).2.2.1
      · rfl
  have h2 : Apn S.end_ S.end_.come ∧ S.end_.come.now = S.end_.now := by
    refine Apn.fold (f := Pl.come1) (fun T k => ?_) (fun T k => (Pl.Sm.come1 T k).n) _ S.end_
    unfold Pl.come1
    split
    · exact Apn.same (on_visits T k)
    · split
      · exact Apn.same rfl
      · exact Apn.refl T
  have h3 : Apn S.end_.come S.rest ∧ S.rest.now = S.end_.come.now := by
    refine Apn.fold (f := Pl.quit1) (fun T k => ?_) (fun T k => ?_) _ S.end_.come
    · unfold Pl.quit1
      split
      · exact Apn.leave T k false
      · exact Apn.refl T
    · unfold Pl.quit1
      split
      · exact (Pl.Sm.leave T k false).n
      · rfl
  have h4 := Apn.begins S.rest S.B.length
  have e3 := h3.2.trans (h2.2.trans h1.2)
  have a3 := (h1.1.trans h1.2 h2.1).trans (h2.2.trans h1.2) h3.1
  exact ⟨(a3.trans e3 h4.1).trans (h4.2.trans e3) (Apn.same rfl), h4.2.trans e3⟩
theorem run_now (w : Int) (B : List BthG) (G : List Grp) : ∀ k : Nat, (Pl.run w B G k).now = k
  | 0 => rfl
  | k + 1 => rfl
theorem run_app {w : Int} {B : List BthG} {G : List Grp} (k : Nat) : ∀ n : Nat, ∃ W, (Pl.run w B G (k + n)).visits = (Pl.run w B G k).visits ++ W ∧ ∀ v ∈ W, (k : Int) ≤ v.left
  | 0 => ⟨[], by simp, fun v hv => by simp at hv⟩
  | n + 1 => by
    obtain ⟨W, h1, h2⟩ := run_app (w := w) (B := B) (G := G) k n
    obtain ⟨⟨X, h3, h4⟩, _⟩ := Apn.tick (Pl.run w B G (k + n))
    refine ⟨W ++ X, ?_, fun v hv => ?_⟩
    · show (Pl.run w B G (k + n)).tick.visits = _
      rw [h3, h1, List.append_assoc]
    · rcases List.mem_append.1 hv with hv | hv
      · exact h2 v hv
      · rw [h4 v hv, run_now]
        omega
/-- sorted visits, of which some come before the others -/
theorem vsort_app {V W : List Vis} (hu : ∀ x ∈ V ++ W, ∀ y ∈ V ++ W, x.1 = y.1 → x.2.1 = y.2.1 → x = y) {t : Int} (h1 : ∀ v ∈ V, v.left < t) (h2 : ∀ v ∈ W, t ≤ v.left) : vsort (V ++ W) = vsort V ++ vsort W := by
  have pV : (vsort V).Perm V := sortB_perm vle V
  have pW : (vsort W).Perm W := sortB_perm vle W
  refine perm_sorted_eq (R := fun a b => vle a b = true) ((sortB_perm vle (V ++ W)).trans (pV.append pW).symm) (sortB_sorted vle_trans vle_total (V ++ W)) ?_ fun a ha b hb a1 a2 => ?_
  · rw [List.pairwise_append]
    refine ⟨sortB_sorted vle_trans vle_total V, sortB_sorted vle_trans vle_total W, fun a ha b hb => ?_⟩
    have ha := h1 a (pV.mem_iff.1 ha)
    have hb := h2 b (pW.mem_iff.1 hb)
    rw [vle_iff]
    omega
  · rw [vle_iff] at a1 a2
    have hp := sortB_perm vle (V ++ W)
    exact hu a (hp.mem_iff.1 ha) b (hp.mem_iff.1 hb) (by omega) (by omega)
/-- what has been done before one more group comes is as it was -/
theorem later_same (hv : Val w B G) (hv' : Val w B (G ++ [m])) : ∃ A W W', (Ngt.played w B G).visits = A ++ W ∧ (Ngt.played w B (G ++ [m])).visits = A ++ W' ∧ (∀ v ∈ A, v.left < m.came) ∧ (∀ v ∈ W, m.came ≤ v.left) ∧ ∀ v ∈ W', m.came ≤ v.left := by
  have hm := (hv'.g m (by simp)).1
  obtain ⟨k, hk⟩ : ∃ k : Nat, (k : Int) = m.came := ⟨m.came.toNat, by omega⟩
  have hext := run_ext (m := m) hv k (by omega) (by omega)
  have hy := run_hy hv k (by omega)
  have hvo := run_vis hv
  have hvo' := run_vis hv'
  obtain ⟨_, _, _, _, s5⟩ := run_same hv
  obtain ⟨_, _, _, _, s5'⟩ := run_same hv'
  rw [played_visits, played_visits]
  rw [← s5] at hvo ⊢
  rw [← s5'] at hvo' ⊢
  obtain ⟨W, h1, h2⟩ := run_app (w := w) (B := B) (G := G) k (4001 - k)
  obtain ⟨W', h1', h2'⟩ := run_app (w := w) (B := B) (G := G ++ [m]) k (4001 - k)
  have e : k + (4001 - k) = 4001 := by omega
  rw [e] at h1 h1'
  have ev : (Pl.run w B (G ++ [m]) k).visits = (Pl.run w B G k).visits := by rw [hext]; rfl
  rw [ev] at h1'
  rw [h1] at hvo ⊢
  rw [h1'] at hvo' ⊢
  have hl : ∀ v ∈ (Pl.run w B G k).visits, v.left < m.came := fun v hv => by
    have q : v.left ≤ (Pl.run w B G k).now - 1 := (hy.vi v hv).n
    rw [run_now] at q
    omega
  rw [hk] at h2 h2'
  have pA : ∀ V : List Vis, (vsort V).Perm V := fun V => sortB_perm vle V
  exact ⟨_, _, _, vsort_app hvo.u hl h2, vsort_app hvo'.u hl h2', fun v hv => hl v ((pA _).mem_iff.1 hv), fun v hv => h2 v ((pA _).mem_iff.1 hv), fun v hv => h2' v ((pA _).mem_iff.1 hv)⟩
end
end Go.Proofs.Ytgcefaikdplbkaa
