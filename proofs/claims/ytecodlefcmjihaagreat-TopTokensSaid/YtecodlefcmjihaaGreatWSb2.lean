/- Trimmed by wip/trim.py to what this claim rests on. -/
import Derived.Test.YtecodlefcmjihaaGreatWSb1
namespace Go.Proofs.YtecodlefcmjihaaGreat
open Go.RowKit
def pg (B : List BthG) (G : List Grp) (V : List Vis) (g : Int) : Int := sumI (V.map fun v => if v.on = true ∧ v.1 = g then (bd B v.ride).price * (gd G v.1).size else 0)
theorem pg_snoc {B : List BthG} {G : List Grp} {V : List Vis} {g : Int} {v : Vis} : pg B G (V ++ [v]) g = pg B G V g + if v.on = true ∧ v.1 = g then (bd B v.ride).price * (gd G v.1).size else 0 := by
  unfold pg
  rw [List.map_append, sumI_app]
  simp [sumI]
theorem pg_perm {B : List BthG} {G : List Grp} {g : Int} {V V' : List Vis} (h : V.Perm V') : pg B G V g = pg B G V' g := by
  unfold pg
  induction h with
  | nil => rfl
  | cons _ _ ih => simp only [List.map_cons, sumI, ih]
  | swap _ _ _ => simp only [List.map_cons, sumI]; omega
  | trans _ _ h1 h2 => exact h1.trans h2
def Pl.Mg (S : Pl) : Prop := ∀ g : Int, 0 ≤ g → g < S.G.length → gt S.tks g + pg S.B S.G S.visits g = (S.gr g).tokens
section
variable {S T : Pl} {c : Nat} {g : Int}
theorem Pl.Mg.congr (h : S.Mg) (sm : S.Sm T) (e2 : T.visits = S.visits) (e3 : T.tks = S.tks) : T.Mg := fun g g0 g1 => by
  unfold Pl.gr
  rw [sm.g] at g1 ⊢
  rw [e3, e2, sm.b]
  exact h g g0 g1
theorem Pl.Mg.on (h : S.Mg) (hg : g.toNat < S.guests.length) : (S.on g).Mg := by
  obtain ⟨_, b, d⟩ := on_money hg
  exact h.congr (Pl.Sm.on S g) b d
theorem Pl.Mg.stand (h : S.Mg) (hg : g.toNat < S.guests.length) : (S.stand g).Mg :=
  h.congr (Pl.Sm.stand S g) rfl (tks_setG (x := { S.gu g with st := 2, since := S.now }) hg rfl)
theorem Pl.Mg.leave (h : S.Mg) (ok : S.Ok c) (g0 : 0 ≤ g) (g1 : g < S.G.length) (hs : (S.gu g).st = 2) (b : Bool) : (S.leave g b).Mg := by
  have hg := ok.gs g g0 g1
  have hw := hg.w3 (by omega)
  have hw1 := hg.w2 (by omega)
  obtain ⟨q0, q1⟩ := ok.want hw hw1
  have hgl : g.toNat < S.guests.length := by rw [ok.lg]; omega
  have hrl : (gt (S.gr g).wants (S.gu g).want).toNat < S.takes.length := by rw [ok.lt]; omega
  unfold Pl.leave
  split
  · intro k k0 k1
    have k1 : k < (S.G.length : Int) := k1
    have e1 : (((S.unq g true).setG g { S.gu g with st := 3, since := S.now, tokens := (S.gu g).tokens - S.price g }).setT (gt (S.gr g).wants (S.gu g).want) (gt S.takes (gt (S.gr g).wants (S.gu g).want) + S.price g)).tks = S.tks.set g.toNat ((S.gu g).tokens - S.price g) := by
      show (S.guests.set g.toNat _).map Gs.tokens = _
      rw [List.map_set]
      rfl
    rw [e1]
    show gt (S.tks.set _ _) k + pg S.B S.G (S.visits ++ [_]) k = (gd S.G k).tokens
    have htl : g.toNat < S.tks.length := by unfold Pl.tks; rw [List.length_map]; exact hgl
    have e2 : gt S.tks g = (S.gu g).tokens := by simp [gt, Pl.tks, Pl.gu, List.getD, hgl]
    rw [pg_snoc]
    by_cases e : k = g
    · subst e
      have hk : gt S.tks k + pg S.B S.G S.visits k = (gd S.G k).tokens := h k k0 k1
      rw [gt_set_same htl, if_pos ⟨rfl, rfl⟩]
      show (S.gu k).tokens - S.price k + (pg S.B S.G S.visits k + S.price k) = _
      omega
    · rw [gt_set_ne g0 k0 e, if_neg (fun h' => e h'.2.symm), Int.add_zero]
      exact h k k0 k1
  · have hu : (S.unq g false).Mg := by
      intro k k0 k1
      show gt S.tks k + pg S.B S.G (S.visits ++ [_]) k = (gd S.G k).tokens
      rw [pg_snoc, if_neg (by intro h'; cases h'.1), Int.add_zero]
      exact h k k0 k1
    exact hu.on hgl
theorem Pl.Mg.fold {f : Pl → Int → Pl} {d : Nat} (h : S.Mg) (ok : S.Ok c) : ∀ n : Nat, (∀ (T : Pl) (c' : Nat), T.Ok c' → S.Sm T → ∀ k : Nat, k < n → (f T k).Ok (c' + d) ∧ T.Sm (f T k)) → (∀ (T : Pl) (c' : Nat), T.Ok c' → S.Sm T → T.Mg → ∀ k : Nat, k < n → (f T k).Mg) → ((ints n).foldl f S).Mg
  | 0, _, _ => h
  | n + 1, h1, h2 => by
    obtain ⟨a, b⟩ := fold_ok ok n fun T c' t1 t2 k hk => h1 T c' t1 t2 k (by omega)
    rw [fold_succ]
    exact h2 _ _ a b (h.fold ok n (fun T c' t1 t2 k hk => h1 T c' t1 t2 k (by omega)) fun T c' t1 t2 t3 k hk => h2 T c' t1 t2 t3 k (by omega)) n (by omega)
theorem Pl.Mg.fill {r : Int} (q : List Int) : ∀ (left : Int) (T : Pl) (c : Nat), FlOk T r q c → T.Mg → (fillR r q left T).1.Mg := by
  induction q with
  | nil => exact fun left T c _ h => h
  | cons g q ih =>
    intro left T c fo h
    obtain ⟨g0, g1, gs, gw⟩ := fo.el g (List.mem_cons_self ..)
    rw [fillR_cons]
    split
    · exact ih left _ (c + 1) (fo.leave fun e => by cases e) (h.leave fo.ok g0 g1 gs false)
    · rename_i hbad
      split
      · exact ih (left - (T.gr g).size) _ (c + 1) (fo.leave fun _ => by simpa using hbad) (h.leave fo.ok g0 g1 gs true)
      · split
        · exact ih left T (c + 1) fo.skip h
        · exact h
theorem Pl.Mg.begin (h : S.Mg) (ok : S.Ok c) {r : Int} (r0 : 0 ≤ r) (r1 : r < S.B.length) : (S.begin r).Mg := by
  unfold Pl.begin
  split
  · exact h
  have h2 := Pl.Mg.fill (r := r) (S.qu r) (S.bt r).seats S c (FlOk.of ok r0 r1) h
  split
  · exact h2.congr (Pl.Sm.setB _ _ _) rfl rfl
  · exact h2
theorem Pl.Mg.begins (h : S.Mg) (ok : S.Ok c) : ∀ n : Nat, n ≤ S.B.length → (S.begins n).Mg
  | 0, _ => h
  | n + 1, hn => by
    obtain ⟨h1, h2⟩ := ok.beginF n (by omega)
    rw [Pl.begins_succ]
    exact (h.begins ok n (by omega)).begin h1 (by omega) (by rw [h2.b]; omega)
theorem Pl.Mg.tick (h : S.Mg) (ok : S.Ok c) : S.tick.Mg := by
  have glen : ∀ {T U : Pl} {c' : Nat}, T.Ok c' → U.Sm T → ∀ k : Nat, k < U.G.length → ((k : Nat) : Int).toNat < T.guests.length := fun t1 t2 k hk => by rw [t1.lg, t2.g]; omega
  have h1 : (S.endK S.B.length).Mg := h.congr (Pl.Sm.endK S _) rfl rfl
  obtain ⟨ok5, sm5⟩ : S.end_.Ok c ∧ S.Sm S.end_ := ok.endF (Nat.le_refl _)
  have h2 : S.end_.Mg := h1.fold (f := Pl.off1) (d := 0) (ok.endK S.B.length) S.G.length (fun T c' t1 t2 k hk => t1.off2 (by omega) (by rw [t2.g]; show (k : Int) < (S.G.length : Int); omega)) fun T c' t1 t2 t3 k hk => by
    unfold Pl.off1
    split
    · exact t3.on (glen t1 t2 k hk)
    · exact t3
  obtain ⟨ok8, sm8⟩ : S.end_.come.Ok c ∧ S.end_.Sm S.end_.come := ok5.comeF (Nat.le_refl _)
  have h3 : S.end_.come.Mg := h2.fold (f := Pl.come1) (d := 0) ok5 S.end_.G.length (fun T c' t1 t2 k hk => ⟨t1.come1 (by omega) (by rw [t2.g]; omega), Pl.Sm.come1 T k⟩) fun T c' t1 t2 t3 k hk => by
    unfold Pl.come1
    split
    · exact t3.on (glen t1 t2 k hk)
    · split
      · exact t3.stand (glen t1 t2 k hk)
      · exact t3
  have h4 : S.rest.Mg := h3.fold (f := Pl.quit1) (d := 1) ok8 S.end_.come.G.length (fun T c' t1 t2 k hk => t1.quit2 (by omega) (by rw [t2.g]; omega)) fun T c' t1 t2 t3 k hk => by
    unfold Pl.quit1
    split
    · rename_i e
      unfold Pl.quits at e
      simp only [Bool.and_eq_true, decide_eq_true_eq] at e
      exact t3.leave t1 (by omega) (by rw [t2.g]; omega) e.1 false
    · exact t3
  obtain ⟨okr, smr⟩ := ok.rest
  have h5 := h4.begins okr S.B.length (by rw [smr.b]; exact Nat.le_refl _)
  exact h5.congr (Pl.Sm.lineK _ _) rfl rfl
end
section
variable {w : Int} {B : List BthG} {G : List Grp}
theorem mg_init : (Pl.init w B G).Mg := by
  intro g g0 g1
  have g1 : g < (G.length : Int) := g1
  have hg : g.toNat < G.length := by omega
  show gt ((G.map fun g => (⟨0, -1, 0, g.tokens⟩ : Gs)).map Gs.tokens) g + 0 = (gd G g).tokens
  simp [gt, gd, List.getD, hg]
theorem run_mg (hv : Val w B G) : ∀ k : Nat, k ≤ 4001 → (Pl.run w B G k).Mg
  | 0, _ => mg_init
  | k + 1, hk => by
    obtain ⟨ok, _⟩ := run_ok2 hv k (by omega)
    have h := (run_mg hv k (by omega)).tick ok
    exact fun g g0 g1 => h g g0 g1
structure MgD (B : List BthG) (G : List Grp) (V : List Vis) (hd : List Int) : Prop where
  g : ∀ g : Int, 0 ≤ g → g < G.length → gt hd g + pg B G V g = (gd G g).tokens
  s : V.Pairwise fun u v => u.left ≤ v.left
theorem played_groups (hv : Val w B G) : MgD B G (Ngt.played w B G).visits ((Ngt.played w B G).parties.map Pty.purse) := by
  obtain ⟨_, _, e2, e3⟩ := run_ok2 hv 4001 (Nat.le_refl _)
  have h := run_mg hv 4001 (Nat.le_refl _)
  obtain ⟨_, s2, _, _, s5⟩ := run_same hv
  rw [played_visits, ← s2, ← s5]
  generalize Pl.run w B G 4001 = S at *
  subst e2 e3
  refine ⟨fun g g0 g1 => ?_, ?_⟩
  · have := h g g0 g1
    have e : pg S.B S.G (vsort S.visits) g = pg S.B S.G S.visits g := pg_perm (sortB_perm vle S.visits)
    rw [e]
    exact this
  · refine (sortB_sorted vle_trans vle_total S.visits).imp ?_
    intro u v huv
    rw [vle_iff] at huv
    omega
theorem topMoney_ex (w : Int) (B : List BthG) (G : List Grp) : ∃ (V : List Vis) (tk hd : List Int), (Val w B G → (∃ hm, Dn w B G V hm) ∧ MnD B G V tk hd ∧ MgD B G V hd) ∧ ∀ (σ : Hp) (r l : SL) (ws : Nat → SL), EvR σ r B l ws G →
    FCalls Tryz.prog N_queue_Play #[.agg #[r.v, .int .i64 w], l.v] σ (VsR σ (chkQ w B G) V) ∧
    FCalls Tryz.prog N_queue_Takes #[.agg #[r.v, .int .i64 w], l.v] σ (OfI σ (chkQ w B G) tk) ∧ FCalls Tryz.prog N_queue_Held #[.agg #[r.v, .int .i64 w], l.v] σ (OfI σ (chkQ w B G) hd) :=
  ⟨_, _, _, fun hv => ⟨⟨_, played_done hv⟩, played_money hv, played_groups hv⟩, fun _ _ _ _ he => ⟨c_Play he, c_Takes he, c_Held he⟩⟩
end
end Go.Proofs.YtecodlefcmjihaaGreat
