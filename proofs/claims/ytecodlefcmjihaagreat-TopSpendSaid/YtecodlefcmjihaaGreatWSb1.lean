/- Trimmed by wip/trim.py to what this claim rests on. -/
import Derived.Test.YtecodlefcmjihaaGreatWB20
import Derived.Test.YtecodlefcmjihaaGreatWTk6
namespace Go.Proofs.YtecodlefcmjihaaGreat
open Go.RowKit
def pd (B : List BthG) (G : List Grp) (V : List Vis) (r : Int) : Int := AB (V.map fun v => if v.on = true ∧ v.ride = r then (bd B r).price * (gd G v.1).size else 0)
theorem SI {B : List BthG} {G : List Grp} {V : List Vis} {r : Int} {v : Vis} : pd B G (V ++ [v]) r = pd B G V r + if v.on = true ∧ v.ride = r then (bd B r).price * (gd G v.1).size else 0 := by
  unfold pd
  rw [List.map_append, Cn]
  simp [AB]
theorem VL {B : List BthG} {G : List Grp} {r : Int} {V V' : List Vis} (h : V.Perm V') : pd B G V r = pd B G V' r := by
  unfold pd
  induction h with
  | nil => rfl
  | cons _ _ ih => simp only [List.map_cons, AB, ih]
  | swap _ _ _ => simp only [List.map_cons, AB]; omega
  | trans _ _ h1 h2 => exact h1.trans h2
theorem Mx : ∀ {xs : List Int} {i : Nat} {v : Int}, i < xs.length → AB (xs.set i v) = AB xs - xs.getD i 0 + v
  | x :: xs, 0, v, _ => by simp [AB]; omega
  | x :: xs, i + 1, v, h => by
    have ih := Mx (xs := xs) (i := i) (v := v) (by simpa using h)
    rw [List.set_cons_succ, AB, AB, ih]
    have : (x :: xs).getD (i + 1) 0 = xs.getD i 0 := rfl
    rw [this]
    omega
def Pl.tks (S : Pl) : List Int := S.guests.map Gs.tokens
structure Pl.Mn (S : Pl) : Prop where
  t : ∀ r : Int, 0 ≤ r → r < S.B.length → gt S.takes r = pd S.B S.G S.visits r
  s : AB S.tks + AB S.takes = AB (S.G.map Grp.tokens)
section
variable {S T : Pl} {c : Nat} {g : Int}
theorem Pl.Mn.congr (h : S.Mn) (sm : S.Sm T) (e1 : T.takes = S.takes) (e2 : T.visits = S.visits) (e3 : T.tks = S.tks) : T.Mn := by
  refine ⟨?_, ?_⟩
  · rw [sm.b, sm.g, e1, e2]; exact h.t
  · rw [e3, e1, sm.g]; exact h.s
theorem NE {x : Gs} (hg : g.toNat < S.guests.length) (h : x.tokens = (S.gu g).tokens) : (S.setG g x).tks = S.tks := by
  show (S.guests.set g.toNat x).map Gs.tokens = S.guests.map Gs.tokens
  apply List.ext_getElem
  · simp
  · intro i h1 h2
    simp only [List.getElem_map, List.getElem_set]
    split
    · rename_i e
      subst e
      rw [h]
      simp [Pl.gu, List.getD, hg]
    · rfl
theorem Qf (hg : g.toNat < S.guests.length) : (S.on g).takes = S.takes ∧ (S.on g).visits = S.visits ∧ (S.on g).tks = S.tks := by
  rw [Pl.on_eq S hg]
  exact ⟨rfl, rfl, NE (x := S.onx g) hg rfl⟩
theorem Pl.Mn.on (h : S.Mn) (hg : g.toNat < S.guests.length) : (S.on g).Mn := by
  obtain ⟨a, b, d⟩ := Qf hg
  exact h.congr (Pl.Sm.on S g) a b d
theorem Pl.Mn.stand (h : S.Mn) (hg : g.toNat < S.guests.length) : (S.stand g).Mn :=
  h.congr (Pl.Sm.stand S g) rfl rfl (NE (x := { S.gu g with st := 2, since := S.now }) hg rfl)
theorem Pl.Mn.leave (h : S.Mn) (ok : S.Ok c) (g0 : 0 ≤ g) (g1 : g < S.G.length) (hs : (S.gu g).st = 2) (b : Bool) : (S.leave g b).Mn := by
  have hg := ok.gs g g0 g1
  have hw := hg.w3 (by omega)
  have hw1 := hg.w2 (by omega)
  obtain ⟨q0, q1⟩ := ok.want hw hw1
  have hgl : g.toNat < S.guests.length := by rw [ok.lg]; omega
  have hrl : (gt (S.gr g).wants (S.gu g).want).toNat < S.takes.length := by rw [ok.lt]; omega
  unfold Pl.leave
  split
  · refine ⟨fun r r0 r1 => ?_, ?_⟩
    · show gt (S.takes.set _ _) r = pd S.B S.G (S.visits ++ [_]) r
      rw [SI]
      by_cases e : r = gt (S.gr g).wants (S.gu g).want
      · subst e
        rw [Ga hrl, h.t _ q0 q1, if_pos ⟨rfl, rfl⟩]
        rfl
      · rw [Jr q0 r0 e, h.t r r0 r1, if_neg (fun h' => e h'.2.symm), Int.add_zero]
    · have hs := h.s
      have e1 : (((S.unq g true).setG g { S.gu g with st := 3, since := S.now, tokens := (S.gu g).tokens - S.price g }).setT (gt (S.gr g).wants (S.gu g).want) (gt S.takes (gt (S.gr g).wants (S.gu g).want) + S.price g)).tks = S.tks.set g.toNat ((S.gu g).tokens - S.price g) := List.map_set ..
      rw [e1]
      show _ + AB (S.takes.set _ _) = _
      have e2 : S.tks.getD g.toNat 0 = (S.gu g).tokens := by simp [Pl.tks, Pl.gu, List.getD, hgl]
      have e3 : S.takes.getD (gt (S.gr g).wants (S.gu g).want).toNat 0 = gt S.takes (gt (S.gr g).wants (S.gu g).want) := rfl
      rw [Mx (by unfold Pl.tks; rw [List.length_map]; exact hgl), Mx hrl, e2, e3]
      show _ = AB (S.G.map Grp.tokens)
      omega
  · have hu : (S.unq g false).Mn := by
      refine ⟨fun r r0 r1 => ?_, h.s⟩
      show gt S.takes r = pd S.B S.G (S.visits ++ [_]) r
      rw [SI, if_neg (by intro h'; cases h'.1), Int.add_zero]
      exact h.t r r0 r1
    exact hu.on hgl
theorem Pl.Mn.fold {f : Pl → Int → Pl} {d : Nat} (h : S.Mn) (ok : S.Ok c) : ∀ n : Nat, (∀ (T : Pl) (c' : Nat), T.Ok c' → S.Sm T → ∀ k : Nat, k < n → (f T k).Ok (c' + d) ∧ T.Sm (f T k)) → (∀ (T : Pl) (c' : Nat), T.Ok c' → S.Sm T → T.Mn → ∀ k : Nat, k < n → (f T k).Mn) → ((AY n).foldl f S).Mn
  | 0, _, _ => h
  | n + 1, h1, h2 => by
    obtain ⟨a, b⟩ := Hl ok n fun T c' t1 t2 k hk => h1 T c' t1 t2 k (by omega)
    rw [GM]
    exact h2 _ _ a b (h.fold ok n (fun T c' t1 t2 k hk => h1 T c' t1 t2 k (by omega)) fun T c' t1 t2 t3 k hk => h2 T c' t1 t2 t3 k (by omega)) n (by omega)
theorem Pl.Mn.fill {r : Int} (q : List Int) : ∀ (left : Int) (T : Pl) (c : Nat), JD T r q c → T.Mn → (Bz r q left T).1.Mn := by
  induction q with
  | nil => exact fun left T c _ h => h
  | cons g q ih =>
    intro left T c fo h
    obtain ⟨g0, g1, gs, gw⟩ := fo.el g (List.mem_cons_self ..)
    rw [Hg]
    split
    · exact ih left _ (c + 1) (fo.leave fun e => by cases e) (h.leave fo.ok g0 g1 gs false)
    · rename_i hbad
      split
      · exact ih (left - (T.gr g).size) _ (c + 1) (fo.leave fun _ => by simpa using hbad) (h.leave fo.ok g0 g1 gs true)
      · split
        · exact ih left T (c + 1) fo.skip h
        · exact h
theorem Pl.Mn.begin (h : S.Mn) (ok : S.Ok c) {r : Int} (r0 : 0 ≤ r) (r1 : r < S.B.length) : (S.begin r).Mn := by
  unfold Pl.begin
  split
  · exact h
  have h2 := Pl.Mn.fill (r := r) (S.qu r) (S.bt r).seats S c (JD.of ok r0 r1) h
  split
  · exact h2.congr (Pl.Sm.setB _ _ _) rfl rfl rfl
  · exact h2
theorem Pl.Mn.begins (h : S.Mn) (ok : S.Ok c) : ∀ n : Nat, n ≤ S.B.length → (S.begins n).Mn
  | 0, _ => h
  | n + 1, hn => by
    obtain ⟨h1, h2⟩ := ok.beginF n (by omega)
    rw [Pl.begins_succ]
    exact (h.begins ok n (by omega)).begin h1 (by omega) (by rw [h2.b]; omega)
theorem Pl.Mn.tick (h : S.Mn) (ok : S.Ok c) : S.tick.Mn := by
  have glen : ∀ {T U : Pl} {c' : Nat}, T.Ok c' → U.Sm T → ∀ k : Nat, k < U.G.length → ((k : Nat) : Int).toNat < T.guests.length := fun t1 t2 k hk => by rw [t1.lg, t2.g]; omega
  have h1 : (S.endK S.B.length).Mn := h.congr (Pl.Sm.endK S _) rfl rfl rfl
  obtain ⟨ok5, sm5⟩ : S.end_.Ok c ∧ S.Sm S.end_ := ok.endF (Nat.le_refl _)
  have h2 : S.end_.Mn := h1.fold (f := Pl.off1) (d := 0) (ok.endK S.B.length) S.G.length (fun T c' t1 t2 k hk => t1.off2 (by omega) (by rw [t2.g]; show (k : Int) < (S.G.length : Int); omega)) fun T c' t1 t2 t3 k hk => by
    unfold Pl.off1
    split
    · exact t3.on (glen t1 t2 k hk)
    · exact t3
  obtain ⟨ok8, sm8⟩ : S.end_.come.Ok c ∧ S.end_.Sm S.end_.come := ok5.comeF (Nat.le_refl _)
  have h3 : S.end_.come.Mn := h2.fold (f := Pl.come1) (d := 0) ok5 S.end_.G.length (fun T c' t1 t2 k hk => ⟨t1.come1 (by omega) (by rw [t2.g]; omega), Pl.Sm.come1 T k⟩) fun T c' t1 t2 t3 k hk => by
    unfold Pl.come1
    split
    · exact t3.on (glen t1 t2 k hk)
    · split
      · exact t3.stand (glen t1 t2 k hk)
      · exact t3
  have h4 : S.rest.Mn := h3.fold (f := Pl.quit1) (d := 1) ok8 S.end_.come.G.length (fun T c' t1 t2 k hk => t1.quit2 (by omega) (by rw [t2.g]; omega)) fun T c' t1 t2 t3 k hk => by
    unfold Pl.quit1
    split
    · rename_i e
      unfold Pl.quits at e
      simp only [Bool.and_eq_true, decide_eq_true_eq] at e
      exact t3.leave t1 (by omega) (by rw [t2.g]; omega) e.1 false
    · exact t3
  obtain ⟨okr, smr⟩ := ok.rest
  have h5 := h4.begins okr S.B.length (by rw [smr.b]; exact Nat.le_refl _)
  exact h5.congr (Pl.Sm.lineK _ _) rfl rfl rfl
end
section
variable {w : Int} {B : List BthG} {G : List Grp}
theorem Pa : ∀ n : Nat, AB (List.replicate n 0) = 0
  | 0 => rfl
  | n + 1 => by rw [List.replicate_succ, AB, Pa n]; rfl
theorem VK : (Pl.init w B G).Mn := by
  refine ⟨fun r r0 r1 => ?_, ?_⟩
  · show gt (List.replicate B.length 0) r = 0
    have r1 : r < B.length := r1
    have : r.toNat < B.length := by omega
    unfold gt
    simp [List.getD, this]
  · show AB ((G.map fun g => (⟨0, -1, 0, g.tokens⟩ : Gs)).map Gs.tokens) + AB (List.replicate B.length 0) = _
    rw [List.map_map, Pa, Int.add_zero]
    rfl
theorem Vc (hv : Val w B G) : ∀ k : Nat, k ≤ 4001 → (Pl.run w B G k).Mn
  | 0, _ => VK
  | k + 1, hk => by
    obtain ⟨ok, h2, h3, h4⟩ := HJ hv k (by omega)
    have h := (Vc hv k (by omega)).tick ok
    exact ⟨h.t, h.s⟩
structure MnD (B : List BthG) (G : List Grp) (V : List Vis) (tk hd : List Int) : Prop where
  lt : tk.length = B.length
  lh : hd.length = G.length
  p : ∀ r : Int, 0 ≤ r → r < B.length → gt tk r = pd B G V r
  s : AB hd + AB tk = AB (G.map Grp.tokens)
  h : ∀ g : Int, 0 ≤ g → g < G.length → 0 ≤ gt hd g ∧ gt hd g ≤ 10000
  t : ∀ r : Int, 0 ≤ r → r < B.length → 0 ≤ gt tk r ∧ gt tk r ≤ 10000000000
theorem Pl.Mn.done {S : Pl} {c : Nat} (h : S.Mn) (ok : S.Ok c) (hc : c ≤ 2200000) (e2 : S.B = B) (e3 : S.G = G) : MnD B G (IX S.visits) S.takes (S.guests.map Gs.tokens) := by
  subst e2 e3
  refine ⟨ok.lt, by rw [List.length_map]; exact ok.lg, fun r r0 r1 => ?_, h.s, fun g g0 g1 => ?_, fun r r0 r1 => ?_⟩
  · rw [h.t r r0 r1]
    exact (VL (BY vle S.visits)).symm
  · have hg : g.toNat < S.guests.length := by rw [ok.lg]; omega
    have e : gt (S.guests.map Gs.tokens) g = (S.gu g).tokens := by simp [gt, Pl.gu, List.getD, hg]
    rw [e]
    exact (ok.gs g g0 g1).t
  · have := ok.tk r r0 r1
    omega
theorem PB (hv : Val w B G) : MnD B G (Ngt.played w B G).visits ((Ngt.played w B G).rides.map Bth.takes) ((Ngt.played w B G).parties.map Pty.purse) := by
  obtain ⟨ok, _, e2, e3⟩ := HJ hv 4001 (Nat.le_refl _)
  have h := Vc hv 4001 (Nat.le_refl _)
  obtain ⟨_, s2, s3, _, s5⟩ := NB hv
  rw [GE, ← s2, ← s3, ← s5]
  generalize Pl.run w B G 4001 = S at *
  exact h.done ok (by omega) e2 e3
end
end Go.Proofs.YtecodlefcmjihaaGreat
namespace Go.Proofs.YtecodlefcmjihaaGreat
open Go.RowKit
def pg (B : List BthG) (G : List Grp) (V : List Vis) (g : Int) : Int := AB (V.map fun v => if v.on = true ∧ v.1 = g then (bd B v.ride).price * (gd G v.1).size else 0)
theorem S9 {B : List BthG} {G : List Grp} {V : List Vis} {g : Int} {v : Vis} : pg B G (V ++ [v]) g = pg B G V g + if v.on = true ∧ v.1 = g then (bd B v.ride).price * (gd G v.1).size else 0 := by
  unfold pg
  rw [List.map_append, Cn]
  simp [AB]
theorem V5 {B : List BthG} {G : List Grp} {g : Int} {V V' : List Vis} (h : V.Perm V') : pg B G V g = pg B G V' g := by
  unfold pg
  induction h with
  | nil => rfl
  | cons _ _ ih => simp only [List.map_cons, AB, ih]
  | swap _ _ _ => simp only [List.map_cons, AB]; omega
  | trans _ _ h1 h2 => exact h1.trans h2
def Pl.Mg (S : Pl) : Prop := ∀ g : Int, 0 ≤ g → g < S.G.length → gt S.tks g + pg S.B S.G S.visits g = (S.gr g).tokens
section
variable {S T : Pl} {c : Nat} {g : Int}
theorem Pl.Mg.congr (h : S.Mg) (sm : S.Sm T) (e2 : T.visits = S.visits) (e3 : T.tks = S.tks) : T.Mg := fun g g0 g1 => by
  unfold Pl.gr
  rw [sm.g] at g1 ⊢
  rw [e3, e2, sm.b]
  exact h g g0 g1
theorem Pl.Mg.on (h : S.Mg) (hg : g.toNat < S.guests.length) : (S.on g).Mg := by
  obtain ⟨_, b, d⟩ := Qf hg
  exact h.congr (Pl.Sm.on S g) b d
theorem Pl.Mg.stand (h : S.Mg) (hg : g.toNat < S.guests.length) : (S.stand g).Mg :=
  h.congr (Pl.Sm.stand S g) rfl (NE (x := { S.gu g with st := 2, since := S.now }) hg rfl)
theorem Pl.Mg.leave (h : S.Mg) (ok : S.Ok c) (g0 : 0 ≤ g) (g1 : g < S.G.length) (hs : (S.gu g).st = 2) (b : Bool) : (S.leave g b).Mg := by
  have hg := ok.gs g g0 g1
  have hw := hg.w3 (by omega)
  have hw1 := hg.w2 (by omega)
  obtain ⟨q0, q1⟩ := ok.want hw hw1
  have hgl : g.toNat < S.guests.length := by rw [ok.lg]; omega
  have hrl : (gt (S.gr g).wants (S.gu g).want).toNat < S.takes.length := by rw [ok.lt]; omega
  unfold Pl.leave
  split
  · intro k k0 k1
    have k1 : k < (S.G.length : Int) := k1
    have e1 : (((S.unq g true).setG g { S.gu g with st := 3, since := S.now, tokens := (S.gu g).tokens - S.price g }).setT (gt (S.gr g).wants (S.gu g).want) (gt S.takes (gt (S.gr g).wants (S.gu g).want) + S.price g)).tks = S.tks.set g.toNat ((S.gu g).tokens - S.price g) := by
      show (S.guests.set g.toNat _).map Gs.tokens = _
      rw [List.map_set]
      rfl
    rw [e1]
    show gt (S.tks.set _ _) k + pg S.B S.G (S.visits ++ [_]) k = (gd S.G k).tokens
    have htl : g.toNat < S.tks.length := by unfold Pl.tks; rw [List.length_map]; exact hgl
    have e2 : gt S.tks g = (S.gu g).tokens := by simp [gt, Pl.tks, Pl.gu, List.getD, hgl]
    rw [S9]
    by_cases e : k = g
    · subst e
      have hk : gt S.tks k + pg S.B S.G S.visits k = (gd S.G k).tokens := h k k0 k1
      rw [Ga htl, if_pos ⟨rfl, rfl⟩]
      show (S.gu k).tokens - S.price k + (pg S.B S.G S.visits k + S.price k) = _
      omega
    · rw [Jr g0 k0 e, if_neg (fun h' => e h'.2.symm), Int.add_zero]
      exact h k k0 k1
  · have hu : (S.unq g false).Mg := by
      intro k k0 k1
      show gt S.tks k + pg S.B S.G (S.visits ++ [_]) k = (gd S.G k).tokens
      rw [S9, if_neg (by intro h'; cases h'.1), Int.add_zero]
      exact h k k0 k1
    exact hu.on hgl
theorem Pl.Mg.fold {f : Pl → Int → Pl} {d : Nat} (h : S.Mg) (ok : S.Ok c) : ∀ n : Nat, (∀ (T : Pl) (c' : Nat), T.Ok c' → S.Sm T → ∀ k : Nat, k < n → (f T k).Ok (c' + d) ∧ T.Sm (f T k)) → (∀ (T : Pl) (c' : Nat), T.Ok c' → S.Sm T → T.Mg → ∀ k : Nat, k < n → (f T k).Mg) → ((AY n).foldl f S).Mg
  | 0, _, _ => h
  | n + 1, h1, h2 => by
    obtain ⟨a, b⟩ := Hl ok n fun T c' t1 t2 k hk => h1 T c' t1 t2 k (by omega)
    rw [GM]
    exact h2 _ _ a b (h.fold ok n (fun T c' t1 t2 k hk => h1 T c' t1 t2 k (by omega)) fun T c' t1 t2 t3 k hk => h2 T c' t1 t2 t3 k (by omega)) n (by omega)
theorem Pl.Mg.fill {r : Int} (q : List Int) : ∀ (left : Int) (T : Pl) (c : Nat), JD T r q c → T.Mg → (Bz r q left T).1.Mg := by
  induction q with
  | nil => exact fun left T c _ h => h
  | cons g q ih =>
    intro left T c fo h
    obtain ⟨g0, g1, gs, gw⟩ := fo.el g (List.mem_cons_self ..)
    rw [Hg]
    split
    · exact ih left _ (c + 1) (fo.leave fun e => by cases e) (h.leave fo.ok g0 g1 gs false)
    · rename_i hbad
      split
      · exact ih (left - (T.gr g).size) _ (c + 1) (fo.leave fun _ => by simpa using hbad) (h.leave fo.ok g0 g1 gs true)
      · split
        · exact ih left T (c + 1) fo.skip h
        · exact h
theorem Pl.Mg.begin (h : S.Mg) (ok : S.Ok c) {r : Int} (r0 : 0 ≤ r) (r1 : r < S.B.length) : (S.begin r).Mg := by
  unfold Pl.begin
  split
  · exact h
  have h2 := Pl.Mg.fill (r := r) (S.qu r) (S.bt r).seats S c (JD.of ok r0 r1) h
  split
  · exact h2.congr (Pl.Sm.setB _ _ _) rfl rfl
  · exact h2
theorem Pl.Mg.begins (h : S.Mg) (ok : S.Ok c) : ∀ n : Nat, n ≤ S.B.length → (S.begins n).Mg
  | 0, _ => h
  | n + 1, hn => by
    obtain ⟨h1, h2⟩ := ok.beginF n (by omega)
    rw [Pl.begins_succ]
    exact (h.begins ok n (by omega)).begin h1 (by omega) (by rw [h2.b]; omega)
theorem Pl.Mg.tick (h : S.Mg) (ok : S.Ok c) : S.tick.Mg := by
  have glen : ∀ {T U : Pl} {c' : Nat}, T.Ok c' → U.Sm T → ∀ k : Nat, k < U.G.length → ((k : Nat) : Int).toNat < T.guests.length := fun t1 t2 k hk => by rw [t1.lg, t2.g]; omega
  have h1 : (S.endK S.B.length).Mg := h.congr (Pl.Sm.endK S _) rfl rfl
  obtain ⟨ok5, sm5⟩ : S.end_.Ok c ∧ S.Sm S.end_ := ok.endF (Nat.le_refl _)
  have h2 : S.end_.Mg := h1.fold (f := Pl.off1) (d := 0) (ok.endK S.B.length) S.G.length (fun T c' t1 t2 k hk => t1.off2 (by omega) (by rw [t2.g]; show (k : Int) < (S.G.length : Int); omega)) fun T c' t1 t2 t3 k hk => by
    unfold Pl.off1
    split
    · exact t3.on (glen t1 t2 k hk)
    · exact t3
  obtain ⟨ok8, sm8⟩ : S.end_.come.Ok c ∧ S.end_.Sm S.end_.come := ok5.comeF (Nat.le_refl _)
  have h3 : S.end_.come.Mg := h2.fold (f := Pl.come1) (d := 0) ok5 S.end_.G.length (fun T c' t1 t2 k hk => ⟨t1.come1 (by omega) (by rw [t2.g]; omega), Pl.Sm.come1 T k⟩) fun T c' t1 t2 t3 k hk => by
    unfold Pl.come1
    split
    · exact t3.on (glen t1 t2 k hk)
    · split
      · exact t3.stand (glen t1 t2 k hk)
      · exact t3
  have h4 : S.rest.Mg := h3.fold (f := Pl.quit1) (d := 1) ok8 S.end_.come.G.length (fun T c' t1 t2 k hk => t1.quit2 (by omega) (by rw [t2.g]; omega)) fun T c' t1 t2 t3 k hk => by
    unfold Pl.quit1
    split
    · rename_i e
      unfold Pl.quits at e
      simp only [Bool.and_eq_true, decide_eq_true_eq] at e
      exact t3.leave t1 (by omega) (by rw [t2.g]; omega) e.1 false
    · exact t3
  obtain ⟨okr, smr⟩ := ok.rest
  have h5 := h4.begins okr S.B.length (by rw [smr.b]; exact Nat.le_refl _)
  exact h5.congr (Pl.Sm.lineK _ _) rfl rfl
end
section
variable {w : Int} {B : List BthG} {G : List Grp}
theorem VJ : (Pl.init w B G).Mg := by
  intro g g0 g1
  have g1 : g < (G.length : Int) := g1
  have hg : g.toNat < G.length := by omega
  show gt ((G.map fun g => (⟨0, -1, 0, g.tokens⟩ : Gs)).map Gs.tokens) g + 0 = (gd G g).tokens
  simp [gt, gd, List.getD, hg]
theorem UV (hv : Val w B G) : ∀ k : Nat, k ≤ 4001 → (Pl.run w B G k).Mg
  | 0, _ => VJ
  | k + 1, hk => by
    obtain ⟨ok, _⟩ := HJ hv k (by omega)
    have h := (UV hv k (by omega)).tick ok
    exact fun g g0 g1 => h g g0 g1
structure MgD (B : List BthG) (G : List Grp) (V : List Vis) (hd : List Int) : Prop where
  g : ∀ g : Int, 0 ≤ g → g < G.length → gt hd g + pg B G V g = (gd G g).tokens
  s : V.Pairwise fun u v => u.left ≤ v.left
theorem OK (hv : Val w B G) : MgD B G (Ngt.played w B G).visits ((Ngt.played w B G).parties.map Pty.purse) := by
  obtain ⟨_, _, e2, e3⟩ := HJ hv 4001 (Nat.le_refl _)
  have h := UV hv 4001 (Nat.le_refl _)
  obtain ⟨_, s2, _, _, s5⟩ := NB hv
  rw [GE, ← s2, ← s5]
  generalize Pl.run w B G 4001 = S at *
  subst e2 e3
  refine ⟨fun g g0 g1 => ?_, ?_⟩
  · have := h g g0 g1
    have e : pg S.B S.G (IX S.visits) g = pg S.B S.G S.visits g := V5 (BY vle S.visits)
    rw [e]
    exact this
  · refine (CO Mi L0 S.visits).imp ?_
    intro u v huv
    rw [Hw] at huv
    omega
theorem QQ (w : Int) (B : List BthG) (G : List Grp) : ∃ (V : List Vis) (tk hd : List Int), (Val w B G → (∃ hm, Dn w B G V hm) ∧ MnD B G V tk hd ∧ MgD B G V hd) ∧ ∀ (σ : Hp) (r l : SL) (ws : Nat → SL), EvR σ r B l ws G →
    Al Tryz.prog Lv #[.agg #[r.v, .int .i64 w], l.v] σ (VsR σ (L4 w B G) V) ∧
    Al Tryz.prog JU #[.agg #[r.v, .int .i64 w], l.v] σ (OfI σ (L4 w B G) tk) ∧ Al Tryz.prog K4 #[.agg #[r.v, .int .i64 w], l.v] σ (OfI σ (L4 w B G) hd) :=
  ⟨_, _, _, fun hv => ⟨⟨_, QK hv⟩, PB hv, OK hv⟩, fun _ _ _ _ he => ⟨Xo he, Wr he, Xl he⟩⟩
end
end Go.Proofs.YtecodlefcmjihaaGreat
namespace Go.Proofs.YtecodlefcmjihaaGreat
open Go.RowKit
def sm (f : Dl → Int) (D : List Dl) : Int := AB (D.map f)
theorem Fe {f : Dl → Int} : sm f [] = 0 := rfl
theorem Gf {f : Dl → Int} {d : Dl} {D : List Dl} : sm f (d :: D) = f d + sm f D := rfl
theorem LZ {f : Dl → Int} {D E : List Dl} : sm f (D ++ E) = sm f D + sm f E := by
  unfold sm
  rw [List.map_append, Cn]
theorem Rx {f : Dl → Int} : ∀ {D : List Dl}, (∀ d ∈ D, 0 ≤ f d) → 0 ≤ sm f D
  | [], _ => by rw [Fe]; omega
  | d :: D, h => by
    rw [Gf]
    have := h d (List.mem_cons_self ..)
    have := Rx fun d hd => h d (List.mem_cons_of_mem _ hd)
    omega
theorem P4 {f : Dl → Int} : ∀ {D : List Dl}, (∀ d ∈ D, f d ≤ 0) → sm f D ≤ 0
  | [], _ => by rw [Fe]; omega
  | d :: D, h => by
    rw [Gf]
    have := h d (List.mem_cons_self ..)
    have := P4 fun d hd => h d (List.mem_cons_of_mem _ hd)
    omega
def pcd (F : Fai) (g : Int) (d : Dl) : Int := if d.2.1 = 1 then (if d.2.2.2.1 = g then (bu F d.2.2.2.2).1 else 0) else (if d.2.2.1 = g then -d.2.2.2.2 else 0)
def bxd (r : Int) (d : Dl) : Int := if d.2.1 = 1 then 0 else if d.2.2.2.1 = r then d.2.2.2.2 else 0
def sld (F : Fai) (d : Dl) : Int := if d.2.1 = 1 then (bu F d.2.2.2.2).1 else 0
def tkd (d : Dl) : Int := if d.2.1 = 1 then 0 else d.2.2.2.2
def ind (F : Fai) (d : Dl) : Int := if d.2.1 = 1 then (bu F d.2.2.2.2).2 else 0
structure WC (F : Fai) (d : Dl) : Prop where
  t : d.1 = 0
  k : d.2.1 = 1
  a : d.2.2.1 = 0
  b : 0 ≤ d.2.2.2.1 ∧ d.2.2.2.1 < F.purses
  n : 0 ≤ d.2.2.2.2 ∧ d.2.2.2.2 < F.bundles.length
structure Wz (F : Fai) (d : Dl) : Prop where
  t : 0 ≤ d.1 ∧ d.1 ≤ 1440
  k : d.2.1 = 2
  a : 0 ≤ d.2.2.1 ∧ d.2.2.1 < F.purses
  b : 0 ≤ d.2.2.2.1 ∧ d.2.2.2.1 < F.boxes
  n : 0 ≤ d.2.2.2.2 ∧ d.2.2.2.2 ≤ 1000
def wfD (F : Fai) (d : Dl) : Prop := WC F d ∨ Wz F d
structure Ox (F : Fai) (S T : Fno) (D : List Dl) : Prop where
  ls : T.stock.length = 1
  lc : T.cash.length = 1
  lp : T.purses.length = F.purses.toNat
  lb : T.boxes.length = F.boxes.toNat
  s : gt T.stock 0 = gt S.stock 0 - sm (sld F) D
  c : gt T.cash 0 = gt S.cash 0 + sm (ind F) D
  p : ∀ g : Int, 0 ≤ g → g < F.purses → gt T.purses g = gt S.purses g + sm (pcd F g) D
  b : ∀ r : Int, 0 ≤ r → r < F.boxes → gt T.boxes r = gt S.boxes r + sm (bxd r) D
  so : T.sold = S.sold + sm (sld F) D
  ta : T.taken = S.taken + sm tkd D
  i : T.inc = S.inc + sm (ind F) D
structure Wo (F : Fai) (S : Fno) : Prop where
  ls : S.stock.length = 1
  lc : S.cash.length = 1
  lp : S.purses.length = F.purses.toNat
  lb : S.boxes.length = F.boxes.toNat
theorem Pw {xs : List Int} {i k v : Int} (i0 : 0 ≤ i) (i1 : i < xs.length) (k0 : 0 ≤ k) : gt (xs.set i.toNat v) k = if i = k then v else gt xs k := by
  rw [AQ (by omega) k0]
  by_cases e : i = k
  · rw [if_pos (by omega), if_pos e]
  · rw [if_neg (by omega), if_neg e]
theorem Ox.step {F : Fai} {S : Fno} (h : Wo F S) {d : Dl} (hd : wfD F d) : Ox F S (FL F S d) [d] := by
  have one : ∀ f : Dl → Int, sm f [d] = f d := fun f => by rw [Gf, Fe, Int.add_zero]
  unfold FL
  rcases hd with hd | hd
  · have hk := hd.k
    have ha := hd.a
    have hb := hd.b
    rw [if_pos hk]
    have e0 : d.2.2.1.toNat = 0 := by rw [ha]; rfl
    have hbl : d.2.2.2.1 < (S.purses.length : Int) := by rw [h.lp]; omega
    refine ⟨by rw [← h.ls]; exact List.length_set .., by rw [← h.lc]; exact List.length_set .., by rw [← h.lp]; exact List.length_set .., h.lb, ?_, ?_, fun g g0 g1 => ?_, fun r r0 r1 => ?_, ?_, ?_, ?_⟩
    · show gt (S.stock.set d.2.2.1.toNat (gt S.stock d.2.2.1 - (bu F d.2.2.2.2).1)) 0 = _
      rw [one, e0, ha, AQ (by rw [h.ls]; omega) (by omega), if_pos (show (0 : Int) = ((0 : Nat) : Int) from rfl), sld, if_pos hk]
    · show gt (S.cash.set d.2.2.1.toNat (gt S.cash d.2.2.1 + (bu F d.2.2.2.2).2)) 0 = _
      rw [one, e0, ha, AQ (by rw [h.lc]; omega) (by omega), if_pos (show (0 : Int) = ((0 : Nat) : Int) from rfl), ind, if_pos hk]
    · show gt (S.purses.set d.2.2.2.1.toNat (gt S.purses d.2.2.2.1 + (bu F d.2.2.2.2).1)) g = _
      rw [one, pcd, if_pos hk, Pw hb.1 hbl g0]
      split
      · rename_i e; rw [e]
      · omega
    · show gt S.boxes r = _
      rw [one, bxd, if_pos hk, Int.add_zero]
    · show S.sold + _ = _
      rw [one, sld, if_pos hk]
    · show S.taken = _
      rw [one, tkd, if_pos hk, Int.add_zero]
    · show S.inc + _ = _
      rw [one, ind, if_pos hk]
  · have hk := hd.k
    have hk' : ¬ d.2.1 = 1 := by omega
    have ha := hd.a
    have hb := hd.b
    rw [if_neg hk']
    have hal : d.2.2.1 < (S.purses.length : Int) := by rw [h.lp]; omega
    have hbl : d.2.2.2.1 < (S.boxes.length : Int) := by rw [h.lb]; omega
    refine ⟨h.ls, h.lc, by rw [← h.lp]; exact List.length_set .., by rw [← h.lb]; exact List.length_set .., ?_, ?_, fun g g0 g1 => ?_, fun r r0 r1 => ?_, ?_, ?_, ?_⟩
    · show gt S.stock 0 = _
      rw [one, sld, if_neg hk', Int.sub_zero]
    · show gt S.cash 0 = _
      rw [one, ind, if_neg hk', Int.add_zero]
    · show gt (S.purses.set d.2.2.1.toNat (gt S.purses d.2.2.1 - d.2.2.2.2)) g = _
      rw [one, pcd, if_neg hk', Pw ha.1 hal g0]
      split
      · rename_i e; rw [e, Int.sub_eq_add_neg]
      · omega
    · show gt (S.boxes.set d.2.2.2.1.toNat (gt S.boxes d.2.2.2.1 + d.2.2.2.2)) r = _
      rw [one, bxd, if_neg hk', Pw hb.1 hbl r0]
      split
      · rename_i e; rw [e]
      · omega
    · show S.sold = _
      rw [one, sld, if_neg hk', Int.add_zero]
    · show S.taken + _ = _
      rw [one, tkd, if_neg hk']
    · show S.inc = _
      rw [one, ind, if_neg hk', Int.add_zero]
theorem Ox.one {F : Fai} {S T : Fno} {D : List Dl} (h : Ox F S T D) : Wo F T := ⟨h.ls, h.lc, h.lp, h.lb⟩
theorem Ox.fold {F : Fai} : ∀ (D : List Dl) {S : Fno}, Wo F S → (∀ d ∈ D, wfD F d) → Ox F S (D.foldl (FL F) S) D
  | [], S, h, _ => ⟨h.ls, h.lc, h.lp, h.lb, by rw [Fe, Int.sub_zero]; rfl, by rw [Fe, Int.add_zero]; rfl, fun g _ _ => by rw [Fe, Int.add_zero]; rfl, fun r _ _ => by rw [Fe, Int.add_zero]; rfl, by rw [Fe, Int.add_zero]; rfl, by rw [Fe, Int.add_zero]; rfl, by rw [Fe, Int.add_zero]; rfl⟩
  | d :: D, S, h, hd => by
    have h1 := Ox.step h (hd d (List.mem_cons_self ..))
    have h2 := Ox.fold D h1.one fun x hx => hd x (List.mem_cons_of_mem _ hx)
    rw [List.foldl_cons]
    have e : ∀ f : Dl → Int, sm f (d :: D) = sm f [d] + sm f D := fun f => by rw [Gf, Gf, Fe, Int.add_zero]
    refine ⟨h2.ls, h2.lc, h2.lp, h2.lb, ?_, ?_, fun g g0 g1 => ?_, fun r r0 r1 => ?_, ?_, ?_, ?_⟩
    · rw [h2.s, h1.s, e]; omega
    · rw [h2.c, h1.c, e]; omega
    · rw [h2.p g g0 g1, h1.p g g0 g1, e]; omega
    · rw [h2.b r r0 r1, h1.b r r0 r1, e]; omega
    · rw [h2.so, h1.so, e]; omega
    · rw [h2.ta, h1.ta, e]; omega
    · rw [h2.i, h1.i, e]; omega
theorem Pf {F : Fai} {t : Int} : ∀ (D : List Dl) {S : Fno}, S.last ≤ t → (∀ d ∈ D, d.1 ≤ t) → (D.foldl (FL F) S).last ≤ t
  | [], _, h, _ => h
  | d :: D, S, h, hd => by
    rw [List.foldl_cons]
    refine Pf D ?_ fun x hx => hd x (List.mem_cons_of_mem _ hx)
    have e : (FL F S d).last = d.1 := by unfold FL; split <;> rfl
    rw [e]
    exact hd d (List.mem_cons_self ..)
structure G1 (F : Fai) (D E : List Dl) : Prop where
  s : F.stock.length = 1
  c : F.cash.length = 1
  p : 0 ≤ F.purses
  u : ∀ n : Int, 0 ≤ n → n < F.bundles.length → 0 ≤ (bu F n).1
  d : ∀ d ∈ D, WC F d
  e : ∀ d ∈ E, Wz F d
  o : E.Pairwise fun a b => a.1 ≤ b.1
  st : sm (sld F) D ≤ gt F.stock 0
  en : ∀ g : Int, 0 ≤ g → g < F.purses → 0 ≤ sm (pcd F g) (D ++ E)
section
variable {F : Fai} {D E : List Dl}
theorem G1.wf (h : G1 F D E) : ∀ d ∈ D ++ E, wfD F d := fun d hd => (List.mem_append.1 hd).imp (h.d d) (h.e d)
theorem G1.ini (h : G1 F D E) : Wo F (PS F) := ⟨h.s, h.c, List.length_replicate .., List.length_replicate ..⟩
theorem G1.run (h : G1 F D E) (k : Nat) : Ox F (PS F) (JE F ((D ++ E).take k)) ((D ++ E).take k) := Ox.fold _ h.ini fun d hd => h.wf d (List.mem_of_mem_take hd)
theorem G1.sorted (h : G1 F D E) : (D ++ E).Pairwise fun a b => a.1 ≤ b.1 := by
  rw [List.pairwise_append]
  refine ⟨?_, h.o, fun a ha b hb => ?_⟩
  · rw [List.pairwise_iff_forall_sublist]
    intro a b hab
    have ha : a ∈ D := hab.subset (List.mem_cons_self ..)
    have hb : b ∈ D := hab.subset (List.mem_cons_of_mem _ (List.mem_cons_self ..))
    rw [(h.d a ha).t, (h.d b hb).t]
    exact Int.le_refl _
  · rw [(h.d a ha).t]
    exact (h.e b hb).t.1
theorem WH {g : Int} (g0 : 0 ≤ g) (g1 : g < F.purses) : gt (PS F).purses g = 0 := by
  show gt (List.replicate F.purses.toNat 0) g = 0
  exact Ft g0 (by omega)
theorem X0 {g : Int} (g0 : 0 ≤ g) (g1 : g < F.boxes) : gt (PS F).boxes g = 0 := by
  show gt (List.replicate F.boxes.toNat 0) g = 0
  exact Ft g0 (by omega)
theorem G1.pos (h : G1 F D E) : N7 F (D ++ E) := by
  intro k hk
  have hr := h.run k
  have hs := h.sorted
  have hl : (JE F ((D ++ E).take k)).last ≤ (D ++ E)[k].1 := by
    refine Pf _ ?_ fun d hd => ?_
    · show (0 : Int) ≤ _
      rcases h.wf _ (List.getElem_mem hk) with q | q
      · rw [q.t]; exact Int.le_refl _
      · exact q.t.1
    · obtain ⟨i, hi, rfl⟩ := List.getElem_of_mem hd
      rw [List.length_take] at hi
      rw [List.getElem_take]
      exact List.pairwise_iff_getElem.1 hs i k (by omega) hk (by omega)
  have hsp : ∀ f : Dl → Int, sm f (D ++ E) = sm f ((D ++ E).take k) + (f (D ++ E)[k] + sm f ((D ++ E).drop (k + 1))) := fun f => by
    have e : D ++ E = (D ++ E).take k ++ ((D ++ E)[k] :: (D ++ E).drop (k + 1)) := by
      rw [← List.drop_eq_getElem_cons hk, List.take_append_drop]
    conv => lhs; rw [e]
    rw [LZ, Gf]
  rcases h.wf _ (List.getElem_mem hk) with q | q
  · have q1 := q.t
    refine ⟨⟨hl, by omega⟩, .inl ⟨q.k, ?_, ?_, q.n, ?_⟩⟩
    · rw [q.a, hr.ls]; omega
    · have := q.b
      rw [hr.lp]; omega
    · have hpos : ∀ d ∈ D ++ E, 0 ≤ sld F d := fun d hd => by
        unfold sld
        split
        · rename_i e
          rcases h.wf d hd with q | q
          · exact h.u _ q.n.1 q.n.2
          · have := q.k; omega
        · omega
      have h1 := hsp (sld F)
      have h2 : sm (sld F) E ≤ 0 := P4 fun d hd => by
        unfold sld
        rw [if_neg (by have := (h.e d hd).k; omega)]
        omega
      have h3 := Rx (D := (D ++ E).drop (k + 1)) fun d hd => hpos d (List.mem_of_mem_drop hd)
      have h4 : sld F (D ++ E)[k] = (bu F (D ++ E)[k].2.2.2.2).1 := by unfold sld; rw [if_pos q.k]
      rw [q.a, hr.s]
      show _ ≤ gt F.stock 0 - _
      rw [LZ, h4] at h1
      have h5 := h.st
      omega
  · refine ⟨⟨hl, q.t.2⟩, .inr ⟨q.k, ?_, ?_, q.n, ?_⟩⟩
    · have := q.a
      rw [hr.lp]; omega
    · have := q.b
      rw [hr.lb]; omega
    · have h1 := hsp (pcd F (D ++ E)[k].2.2.1)
      have h2 := h.en _ q.a.1 q.a.2
      have h4 : pcd F (D ++ E)[k].2.2.1 (D ++ E)[k] = -(D ++ E)[k].2.2.2.2 := by
        unfold pcd
        rw [if_neg (by have := q.k; omega), if_pos rfl]
      have hkD : D.length ≤ k := by
        rcases Nat.lt_or_ge k D.length with c | c
        · exfalso
          have e : (D ++ E)[k] = D[k] := List.getElem_append_left c
          have := (h.d _ (List.getElem_mem c)).k
          rw [← e, q.k] at this
          omega
        · exact c
      have h3 : sm (pcd F (D ++ E)[k].2.2.1) ((D ++ E).drop (k + 1)) ≤ 0 := P4 fun d hd => by
        have e : (D ++ E).drop (k + 1) = E.drop (k + 1 - D.length) := by
          rw [List.drop_append, List.drop_eq_nil_of_le (by omega), List.nil_append]
        rw [e] at hd
        have q' := h.e d (List.mem_of_mem_drop hd)
        have := q'.k
        have := q'.n
        unfold pcd
        rw [if_neg (by omega)]
        split <;> omega
      rw [hr.p _ q.a.1 q.a.2, WH q.a.1 q.a.2]
      omega
structure X6 (F : Fai) (S : Fno) (D : List Dl) : Prop where
  lp : S.purses.length = F.purses.toNat
  lb : S.boxes.length = F.boxes.toNat
  c : gt S.cash 0 = gt F.cash 0 + sm (ind F) D
  lc : S.cash.length = 1
  p : ∀ g : Int, 0 ≤ g → g < F.purses → gt S.purses g = sm (pcd F g) D
  b : ∀ r : Int, 0 ≤ r → r < F.boxes → gt S.boxes r = sm (bxd r) D
  so : S.sold = sm (sld F) D
  ta : S.taken = sm tkd D
  i : S.inc = sm (ind F) D
theorem G1.left (h : G1 F D E) : X6 F (JE F (D ++ E)) (D ++ E) := by
  have hr := h.run (D ++ E).length
  rw [List.take_length] at hr
  refine ⟨hr.lp, hr.lb, hr.c, hr.lc, fun g g0 g1 => ?_, fun r r0 r1 => ?_, ?_, ?_, ?_⟩
  · rw [hr.p g g0 g1, WH g0 g1, Int.zero_add]
  · rw [hr.b r r0 r1, X0 r0 r1, Int.zero_add]
  · rw [hr.so]; exact Int.zero_add _
  · rw [hr.ta]; exact Int.zero_add _
  · rw [hr.i]; exact Int.zero_add _
end
end Go.Proofs.YtecodlefcmjihaaGreat
