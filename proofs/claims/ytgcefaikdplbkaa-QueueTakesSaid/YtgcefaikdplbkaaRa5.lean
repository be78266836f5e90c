/- Contracts of layer 7, reference: fill; what the loops of a tick do, in plain words. -/
import Derived.Test.YtgcefaikdplbkaaRa3
namespace Go.Proofs.Ytgcefaikdplbkaa
open Go.RowKit

theorem fold_ok {f : Pl → Int → Pl} {d : Nat} {S : Pl} {c : Nat} (h : S.Ok c) : ∀ n : Nat, (∀ (T : Pl) (c' : Nat), T.Ok c' → S.Sm T → ∀ k : Nat, k < n → (f T k).Ok (c' + d) ∧ T.Sm (f T k)) → ((ints n).foldl f S).Ok (c + n * d) ∧ S.Sm ((ints n).foldl f S)
  | 0, _ => ⟨by simpa [ints] using h, Pl.Sm.refl S⟩
  | n + 1, hf => by
    obtain ⟨h1, h2⟩ := fold_ok h n fun T c' t1 t2 k hk => hf T c' t1 t2 k (by omega)
    obtain ⟨h3, h4⟩ := hf _ _ h1 h2 n (by omega)
    rw [ints_succ, List.foldl_append]
    refine ⟨?_, h2.trans h4⟩
    have e : c + (n + 1) * d = c + n * d + d := by rw [Nat.add_mul]; omega
    rw [e]
    exact h3
theorem fold_succ {f : Pl → Int → Pl} {S : Pl} {n : Nat} : (ints (n + 1)).foldl f S = f ((ints n).foldl f S) n := by rw [ints_succ, List.foldl_append]; rfl
def Pl.off1 (S : Pl) (g : Int) : Pl := if S.off g = true then S.on g else S
def Pl.quit1 (S : Pl) (g : Int) : Pl := if S.quits g = true then S.quit g else S
theorem Pl.end_eq (S : Pl) : S.end_ = (ints S.G.length).foldl Pl.off1 (S.endK S.B.length) := rfl
theorem Pl.leaves_eq (S : Pl) : S.leaves = (ints S.G.length).foldl Pl.quit1 S := rfl
section
variable {S : Pl} {c : Nat}
theorem Pl.Ok.off2 (h : S.Ok c) {g : Int} (g0 : 0 ≤ g) (g1 : g < S.G.length) : (S.off1 g).Ok c ∧ S.Sm (S.off1 g) := by
  unfold Pl.off1
  split
  · rename_i e
    exact ⟨h.off1 g0 g1 e, Pl.Sm.on S g⟩
  · exact ⟨h, Pl.Sm.refl S⟩
theorem Pl.Ok.quit2 (h : S.Ok c) {g : Int} (g0 : 0 ≤ g) (g1 : g < S.G.length) : (S.quit1 g).Ok (c + 1) ∧ S.Sm (S.quit1 g) := by
  unfold Pl.quit1
  split
  · rename_i e
    exact ⟨h.quit1 g0 g1 e, Pl.Sm.leave S g false⟩
  · exact ⟨h.mono (by omega), Pl.Sm.refl S⟩
theorem Pl.Ok.endF (h : S.Ok c) {n : Nat} (hn : n ≤ S.G.length) : ((ints n).foldl Pl.off1 (S.endK S.B.length)).Ok c ∧ S.Sm ((ints n).foldl Pl.off1 (S.endK S.B.length)) := by
  have := fold_ok (f := Pl.off1) (d := 0) (h.endK S.B.length) n fun T c' t1 t2 k hk => t1.off2 (by omega) (by rw [t2.g]; show (k : Int) < (S.G.length : Int); omega)
  exact ⟨by simpa using this.1, (Pl.Sm.endK S _).trans this.2⟩
theorem Pl.Ok.comeF (h : S.Ok c) {n : Nat} (hn : n ≤ S.G.length) : ((ints n).foldl Pl.come1 S).Ok c ∧ S.Sm ((ints n).foldl Pl.come1 S) := by
  have := fold_ok (f := Pl.come1) (d := 0) h n fun T c' t1 t2 k hk => ⟨t1.come1 (by omega) (by rw [t2.g]; omega), Pl.Sm.come1 T k⟩
  simpa using this
theorem Pl.Ok.quitF (h : S.Ok c) {n : Nat} (hn : n ≤ S.G.length) : ((ints n).foldl Pl.quit1 S).Ok (c + n) ∧ S.Sm ((ints n).foldl Pl.quit1 S) := by
  have := fold_ok (f := Pl.quit1) (d := 1) h n fun T c' t1 t2 k hk => t1.quit2 (by omega) (by rw [t2.g]; omega)
  simpa using this
theorem fillR_cons (r g : Int) (q : List Int) (left : Int) (T : Pl) : fillR r (g :: q) left T = if T.bad r g = true then fillR r q left (T.leave g false)
    else if (T.gr g).size ≤ left then fillR r q (left - (T.gr g).size) (T.leave g true)
    else if (T.bt r).fill = true then fillR r q left T
    else (T, left) := rfl
theorem fill_ok {r : Int} : ∀ (q : List Int) (left : Int) (T : Pl) (c : Nat), FlOk T r q c → (fillR r q left T).1.Ok (c + q.length) ∧ T.Sm (fillR r q left T).1
  | [], left, T, c, h => ⟨by simpa [fillR] using h.ok, Pl.Sm.refl T⟩
  | g :: q, left, T, c, h => by
    have el : c + (g :: q).length = c + 1 + q.length := by rw [List.length_cons]; omega
    rw [el]
    unfold fillR
    split
    · obtain ⟨h1, h2⟩ := fill_ok q left _ _ (h.leave (b := false) fun e => by cases e)
      exact ⟨h1, (Pl.Sm.leave T g false).trans h2⟩
    · rename_i hb
      split
      · obtain ⟨h1, h2⟩ := fill_ok q (left - (T.gr g).size) _ _ (h.leave (b := true) fun _ => by simpa using hb)
        exact ⟨h1, (Pl.Sm.leave T g true).trans h2⟩
      · split
        · exact fill_ok q left _ _ h.skip
        · exact ⟨h.ok.mono (by omega), Pl.Sm.refl T⟩
theorem Pl.Ok.begin (h : S.Ok c) {r : Int} (r0 : 0 ≤ r) (r1 : r < S.B.length) : (S.begin r).Ok (c + 60) ∧ S.Sm (S.begin r) := by
  obtain ⟨h1, h2⟩ := fill_ok (S.qu r) (S.bt r).seats S c (FlOk.of h r0 r1)
  have hq := h.qlen r0 r1
  have hn := h.nw
  unfold Pl.begin
  split
  · exact ⟨h.mono (by omega), Pl.Sm.refl S⟩
  · split
    · exact ⟨(h1.mono (by omega)).setB r0 (by rw [h2.b]; exact r1) (by omega) hn.2, h2.trans (Pl.Sm.setB _ _ _)⟩
    · exact ⟨h1.mono (by omega), h2⟩
theorem Pl.begins_succ {k : Nat} : S.begins (k + 1) = (S.begins k).begin k := range_fold (f := fun (S : Pl) (r : Nat) => S.begin r) (b := S) (k := k)
theorem Pl.Ok.beginF (h : S.Ok c) : ∀ n : Nat, n ≤ S.B.length → (S.begins n).Ok (c + n * 60) ∧ S.Sm (S.begins n)
  | 0, _ => ⟨by simpa [Pl.begins] using h, Pl.Sm.refl S⟩
  | n + 1, hn => by
    obtain ⟨h1, h2⟩ := h.beginF n (by omega)
    obtain ⟨h3, h4⟩ := h1.begin (r := n) (by omega) (by rw [h2.b]; omega)
    rw [Pl.begins_succ]
    refine ⟨?_, h2.trans h4⟩
    have e : c + (n + 1) * 60 = c + n * 60 + 60 := by omega
    rw [e]
    exact h3
theorem Pl.Ok.rest (h : S.Ok c) : S.rest.Ok (c + 60) ∧ S.Sm S.rest := by
  obtain ⟨h1, h2⟩ := h.endF (Nat.le_refl _)
  rw [← Pl.end_eq] at h1 h2
  obtain ⟨h3, h4⟩ := h1.comeF (Nat.le_refl _)
  change S.end_.Sm S.end_.come at h4
  obtain ⟨h5, h6⟩ := Pl.Ok.quitF (S := S.end_.come) h3 (Nat.le_refl _)
  refine ⟨?_, h2.trans (h4.trans h6)⟩
  have hn := h.v.n
  have e : S.end_.come.G.length = S.G.length := by rw [(h2.trans h4).g]
  refine Pl.Ok.mono (c := c + S.end_.come.G.length) ?_ (by omega)
  exact h5
theorem Pl.Ok.tick (h : S.Ok c) : S.tick.Ok (c + 540) ∧ S.Sm S.tick := by
  obtain ⟨h1, h2⟩ := h.rest
  obtain ⟨h3, h4⟩ := h1.beginF S.B.length (by rw [h2.b]; omega)
  have hm := h.v.m
  exact ⟨(h3.lineK S.B.length).mono (by omega), h2.trans (h4.trans (Pl.Sm.lineK _ _))⟩

/-! ### The rides that end -/
theorem range_id {xs : List Int} {f : Nat → Int} (h : ∀ i, i < xs.length → f i = gt xs i) : (List.range xs.length).map f = xs := by
  apply List.ext_getElem
  · simp
  · intro i h1 h2
    rw [List.getElem_map, List.getElem_range, h i h2, gt_nat h2]
theorem range_upd {n k : Nat} {f f' : Nat → Int} {v : Int} (hk : k < n) (h : ∀ i, i < n → i ≠ k → f' i = f i) (hv : f' k = v) : (List.range n).map f' = ((List.range n).map f).set k v := by
  apply List.ext_getElem
  · simp
  · intro i h1 h2
    have hi : i < n := by simpa using h1
    rw [List.getElem_map, List.getElem_range, List.getElem_set]
    split
    · rename_i e
      subst e
      exact hv
    · rename_i e
      rw [List.getElem_map, List.getElem_range]
      exact h i hi fun e' => e e'.symm
theorem Pl.endK_zero (S : Pl) : S.endK 0 = S := by
  unfold Pl.endK
  rw [range_id (xs := S.began) fun i _ => if_neg fun h => by omega, range_id (xs := S.ended) fun i _ => if_neg fun h => by omega]
theorem Pl.endK_no (S : Pl) {k : Nat} (h : S.ends k = false) : S.endK (k + 1) = S.endK k := by
  have : ∀ (i : Nat) (a b : Int), (if i < k + 1 ∧ S.ends i = true then a else b) = if i < k ∧ S.ends i = true then a else b := fun i a b => by
    by_cases e : i = k
    · subst e
      rw [if_neg (by simp [h]), if_neg (by simp [h])]
    · by_cases e2 : i < k
      · by_cases e3 : S.ends i = true
        · rw [if_pos ⟨by omega, e3⟩, if_pos ⟨e2, e3⟩]
        · rw [if_neg (fun h => e3 h.2), if_neg (fun h => e3 h.2)]
      · rw [if_neg (fun h => by omega), if_neg (fun h => by omega)]
  unfold Pl.endK
  simp only [this]
theorem Pl.endK_yes (S : Pl) {k : Nat} (h : S.ends k = true) (hb : k < S.began.length) (he : k < S.ended.length) : S.endK (k + 1) = { S.endK k with began := (S.endK k).began.set k (-1), ended := (S.endK k).ended.set k S.now } := by
  have h1 : ∀ (i : Nat) (a b : Int), i ≠ k → (if i < k + 1 ∧ S.ends i = true then a else b) = if i < k ∧ S.ends i = true then a else b := fun i a b e => by
    by_cases e2 : i < k
    · by_cases e3 : S.ends i = true
      · rw [if_pos ⟨by omega, e3⟩, if_pos ⟨e2, e3⟩]
      · rw [if_neg (fun h => e3 h.2), if_neg (fun h => e3 h.2)]
    · rw [if_neg (fun h => by omega), if_neg (fun h => by omega)]
  unfold Pl.endK
  rw [range_upd (k := k) (f := fun i : Nat => if i < k ∧ S.ends i = true then -1 else gt S.began i) (v := -1) hb (fun i _ e => h1 i _ _ e) (if_pos ⟨by omega, h⟩), range_upd (k := k) (f := fun i : Nat => if i < k ∧ S.ends i = true then S.now else gt S.ended i) (v := S.now) he (fun i _ e => h1 i _ _ e) (if_pos ⟨by omega, h⟩)]
theorem Pl.endK_began (S : Pl) {k : Nat} (h : k < S.began.length) : gt (S.endK k).began k = gt S.began k := by
  show gt ((List.range _).map _) (k : Int) = _
  rw [gt_range (by omega) (by omega)]
  exact if_neg fun h => by
    have := h.1
    simp at this
/-! ### The lines -/
theorem Pl.lineK_zero (S : Pl) : S.lineK 0 = S := by
  unfold Pl.lineK
  rw [range_id (xs := S.lines) fun i _ => if_neg fun h => by omega]
theorem Pl.lineK_succ (S : Pl) {k : Nat} (h : k < S.lines.length) : S.lineK (k + 1) = { S.lineK k with lines := (S.lineK k).lines.set k (if gt S.lines k < S.guests1 k then S.guests1 k else gt S.lines k) } := by
  unfold Pl.lineK
  rw [range_upd (k := k) (f := fun i : Nat => if i < k then (if gt S.lines i < S.guests1 i then S.guests1 i else gt S.lines i) else gt S.lines i) h (fun i _ e => ?_) (if_pos (by omega))]
  by_cases e2 : i < k
  · rw [if_pos (show i < k + 1 by omega), if_pos e2]
  · rw [if_neg (show ¬ i < k + 1 by omega), if_neg e2]
theorem Pl.lineK_lines (S : Pl) {k : Nat} (h : k < S.lines.length) : gt (S.lineK k).lines k = gt S.lines k := by
  show gt ((List.range _).map _) (k : Int) = _
  rw [gt_range (by omega) (by omega)]
  exact if_neg (by simp)
end

section
variable {W : PW} {σ0 σ : Hp} {S : Pl} {ws : Nat → SL} {c : Nat} {g : Int}
theorem PlayR.sm_up (hS : PSt W σ0 S ws) (h : PlayR W σ0 σ S) : PSt W σ S ws := hS.sub h.sub
theorem l_leaveR (hS : PSt W σ0 S ws) (h : PlayR W σ0 σ S) (ok : S.Ok c) (hc : c ≤ 3000000) (g0 : 0 ≤ g) (g1 : g < S.G.length) (hs : (S.gu g).st = 2) {on : Bool} (hp : on = true → S.price g ≤ (S.gu g).tokens) {K : Value → Hp → Prop} (hk : ∀ v σ', PlayR W σ0 σ' (S.leave g on) → K v σ') :
    cl Try.prog (.func (.func N_ref07_play_leave) #[] #[]) #[.pointer (some ⟨W.pb, 0, none⟩), .int .i64 g, .bool on] σ K :=
  cl_of M_ref07_play_leave_enter (c_leaveR hS h ok hc g0 g1 hs hp) fun v σ' h => hk v σ' h.2
theorem l_on (hS : PSt W σ0 S ws) (h : PlayR W σ0 σ S) (ok : S.Ok c) (g0 : 0 ≤ g) (g1 : g < S.G.length) (hf : S.free g) (hw1 : (S.gu g).want < (S.gr g).wants.length) {K : Value → Hp → Prop} (hk : ∀ v σ', PlayR W σ0 σ' (S.on g) → K v σ') :
    cl Try.prog (.func (.func N_ref07_play_on) #[] #[]) #[.pointer (some ⟨W.pb, 0, none⟩), .int .i64 g] σ K :=
  cl_of M_ref07_play_on_enter (c_on hS h ok g0 g1 hf hw1) fun v σ' h => hk v σ' h.2
theorem l_stand (hS : PSt W σ0 S ws) (h : PlayR W σ0 σ S) (ok : S.Ok c) (g0 : 0 ≤ g) (g1 : g < S.G.length) (hw0 : 0 ≤ (S.gu g).want) (hw1 : (S.gu g).want < (S.gr g).wants.length) {K : Value → Hp → Prop} (hk : ∀ v σ', PlayR W σ0 σ' (S.stand g) → K v σ') :
    cl Try.prog (.func (.func N_ref07_play_stand) #[] #[]) #[.pointer (some ⟨W.pb, 0, none⟩), .int .i64 g] σ K :=
  cl_of M_ref07_play_stand_enter (c_stand hS h ok g0 g1 hw0 hw1) fun v σ' h => hk v σ' h.2

set_option maxRecDepth 20000 in
theorem c_fill {r : Int} (hS : PSt W σ0 S ws) (h : PlayR W σ0 σ S) (ok : S.Ok c) (hc : c ≤ 2900000) (r0 : 0 ≤ r) (r1 : r < S.B.length) :
    FCalls Try.prog N_ref07_play_fill #[.pointer (some ⟨W.pb, 0, none⟩), .int .i64 r] σ fun v σ' => v = .bool (decide ((fillR r (S.qu r) (S.bt r).seats S).2 < (S.bt r).seats)) ∧ PlayR W σ0 σ' (fillR r (S.qu r) (S.bt r).seats S).1 := by
  refine M_ref07_play_fill_ok _ _ _ _ ?_
  unfold M_ref07_play_fill
  have hrl : r.toNat < S.queues.length := by rw [ok.lq]; omega
  have hql := ok.qlen r0 r1
  obtain ⟨⟨s0, s1⟩, ⟨p0, p1⟩, _⟩ := ok.v.bt r0 r1
  obtain ⟨v, hb⟩ := h.pblk
  have hS1 := hS.sub h.sub
  obtain ⟨b2, off, s, σ3, hqA, hqn, hcell, ho, _, _⟩ := h.que hrl
  have hqi : r < (W.q.n : Int) := by rw [hqn]; omega
  refine dr_i (bldS hb rfl (hS1.e.rix r0 r1 fun b4 a5 d0 d1 d2 d3 d4 => ldI_of d0 (ldI_of d1 (ldI_of d2 (ldI_of d3 (ldB_of d4 (dr_i (bldS hb rfl (ix_at hqA r0 hqi (ldS_of hcell ⟨S.qu r, ho.rd, roomy_i (by show 0 + (S.qu r).length ≤ _; omega) ?_⟩))))))))))
  have hbt : S.bt r = bd S.B r := rfl
  rw [hbt]
  have hfo := FlOk.of ok r0 r1
  generalize S.qu r = line at *
  refine cut_intro fun J20 h20 => ?_
  have k20 : ∀ (left : Int) (τ : Hp) (T : Pl), fillR r line (bd S.B r).seats S = (T, left) → PlayR W σ0 τ T → J20 left τ := by
    intro left τ T he ht
    rw [h20]
    intro _
    rw [he]
    exact rt_of ⟨rfl, ht⟩
  refine ⟨fun n left i τ => ∃ (k : Nat) (T : Pl), n = line.length - k ∧ i = k ∧ k ≤ line.length ∧ S.Sm T ∧ FlOk T r (line.drop k) (c + k) ∧ fillR r (line.drop k) left T = fillR r line (bd S.B r).seats S ∧ PlayR W σ0 τ T ∧ 0 ≤ left ∧ left ≤ 40, ⟨_, 0, S, rfl, rfl, by omega, Pl.Sm.refl S, hfo, rfl, h, by omega, by omega⟩, ?_⟩
  rintro n left i τ ⟨k, T, rfl, rfl, hk, sm, fo, he, ht, hl0, hl1⟩ _
  refine bc_d (fun hlt => ?_) (fun hlt => ?_)
  · have hkl : k < line.length := by
      have : (k : Int) < (line.length : Int) := hlt
      omega
    rw [List.drop_eq_getElem_cons hkl] at fo he
    refine cut_intro fun J30 h30 => ?_
    have k30 : ∀ (left' : Int) (τ' : Hp) (T' : Pl), S.Sm T' → FlOk T' r (line.drop (k + 1)) (c + k + 1) → fillR r (line.drop (k + 1)) left' T' = fillR r line (bd S.B r).seats S → PlayR W σ0 τ' T' → 0 ≤ left' → left' ≤ 40 → J30 left' τ' := by
      intro left' τ' T' a1 a2 a3 a4 a5 a6
      rw [h30]
      intro _
      exact wk_i (by omega) (bk_of _ (by omega) ⟨k + 1, T', rfl, by omega, by omega, a1, a2, a3, a4, a5, a6⟩)
    refine ⟨by omega, hlt, lat_I (xs := line) (by omega) (by omega) ?_⟩
    rw [gt_nat hkl]
    generalize line[k] = g at *
    obtain ⟨g0, g1, gs, gw⟩ := fo.el g (List.mem_cons_self ..)
    have hgl : g.toNat < T.guests.length := by rw [fo.ok.lg]; omega
    obtain ⟨v1, hb1⟩ := ht.pblk
    have hT := hS.sm sm
    have hT1 := hT.sub ht.sub
    obtain ⟨z0, z1⟩ := (fo.ok.v.gr g0 g1).2.1
    have htk := (fo.ok.gs g g0 g1).t
    refine dr_i (bldS hb1 rfl (hT1.e.gix g0 g1 fun b39 a40 _ e1 _ _ _ => ldI_of e1 ?_))
    have hm0 : 0 ≤ (gd T.G g).size * (bd S.B r).price := Int.mul_nonneg (by omega) p0
    have hm1 : (gd T.G g).size * (bd S.B r).price ≤ 4000 := Int.le_trans (Int.mul_le_mul z1 p1 p0 (by omega)) (by omega)
    have hbad : T.bad r g = (decide ((bd S.B r).seats < (gd T.G g).size) || decide ((T.gu g).tokens < (gd T.G g).size * (bd S.B r).price)) := by
      unfold Pl.bad
      rw [sm.bt]
      rfl
    refine cut_intro fun J44 h44 => ?_
    have k44 : J44 (T.bad r g) τ := by
      rw [h44]
      intro _
      rw [fillR_cons] at he
      refine bc_b (fun eb => ?_) (fun eb => ?_)
      · rw [if_pos eb] at he
        exact l_leaveR hT ht fo.ok (by omega) g0 g1 gs (fun e => by cases e) fun v σ' h' => k30 _ _ _ (sm.trans (Pl.Sm.leave T g false)) (fo.leave fun e => by cases e) he h' hl0 hl1
      · rw [if_neg (by simp [eb])] at he
        refine bc_d (fun hsz => ?_) (fun hsz => ?_)
        · have hsz' : (T.gr g).size ≤ left := hsz
          rw [if_pos hsz'] at he
          refine wk_i (by omega) ?_
          refine l_leaveR hT ht fo.ok (by omega) g0 g1 gs (on := true) (fun _ => ?_) fun v σ' h' => k30 _ _ _ (sm.trans (Pl.Sm.leave T g true)) (fo.leave fun _ => eb) he h' (by show 0 ≤ left - (gd T.G g).size; omega) (by show left - (gd T.G g).size ≤ 40; omega)
          rw [hbad] at eb
          simp only [Bool.or_eq_false_iff, decide_eq_false_iff_not] at eb
          have : T.price g = (bd S.B r).price * (gd T.G g).size := by
            unfold Pl.price
            rw [gw, sm.bt]
            rfl
          rw [this, Int.mul_comm]
          omega
        · have hsz' : ¬ (T.gr g).size ≤ left := hsz
          rw [if_neg hsz', sm.bt, hbt] at he
          refine bc_b (fun ef => ?_) (fun ef => ?_)
          · have ef : ¬ (bd S.B r).fill = true := by simpa using ef
            rw [if_neg ef] at he
            rw [← he]
            exact rt_of ⟨rfl, ht⟩
          · have ef : (bd S.B r).fill = true := by simpa using ef
            rw [if_pos ef] at he
            exact k30 _ _ _ sm fo.skip he ht hl0 hl1
    refine bc_d (fun hs => ?_) (fun hs => ?_)
    · rw [hbad, decide_eq_true hs, Bool.true_or] at k44
      exact k44
    · refine dr_i (bldS hb1 rfl (ht.gix g0 hgl fun b o hA => ht.gI3 hA hgl rfl (wk_i (by omega) ?_)))
      rw [hbad, decide_eq_false hs, Bool.false_or] at k44
      exact k44
  · have hlt : ¬ (k : Int) < (line.length : Int) := hlt
    have : k = line.length := by omega
    subst this
    rw [List.drop_length] at he
    exact k20 _ _ _ he.symm ht
end
end Go.Proofs.Ytgcefaikdplbkaa
