/- How an evening lies in memory that the reference plays. -/
import Derived.Test.YtgcefaikdplbkaaB16
import Derived.Test.YtgcefaikdplbkaaQ3
namespace Go.Proofs.Ytgcefaikdplbkaa
open Go.RowKit

abbrev sGs : List Sh := [.int .i64, .int .i64, .int .i64, .int .i64]
def gsT (x : Gs) : TyR sGs := (x.st, x.want, x.since, x.tokens)
def slT (s : SL) : TyR [.slc] := (s.A, s.n, s.c)
def ownP (e : TypeId) (ss : List Sh) (s : SL) (xs : List (TyR ss)) : Rel := fun σ σ' => OwnSl e ss σ s.A s.n s.c xs σ'
def ownI (s : SL) (xs : List Int) : Rel := fun σ σ' => OwnSl 3 [.int .i64] σ s.A s.n s.c xs σ'
theorem Port.ownP {e : TypeId} {ss : List Sh} {s : SL} {xs : List (TyR ss)} : Port (ownP e ss s xs) := Port.own
theorem Port.ownI {s : SL} {xs : List Int} : Port (ownI s xs) := Port.own
def SL.d : SL := ⟨none, 0, 0⟩
/-- where the parts of an evening lie -/
structure PW where
  pb : Nat
  f : SL
  l : SL
  gu : SL
  q : SL
  be : SL
  en : SL
  ta : SL
  li : SL
  ho : SL
def playC (W : PW) (S : Pl) (v : SL) : Array Value := #[W.f.v, .int .i64 S.walk, W.l.v, .int .i64 S.now, W.gu.v, W.q.v, W.be.v, W.en.v, v.v, W.ta.v, W.li.v, W.ho.v]
def coreP (W : PW) (S : Pl) : Rel := fun σ σ' => ∃ v, (Blk W.pb (.cells (playC W S v) 65 (0, 0))).seq (fun σ1 σ2 => OwnSl 42 sV σ1 v.A v.n v.c S.visits σ2) σ σ'
def innL (hs : List SL) (qs : List (List Int)) : List Rel := (List.range qs.length).map fun i => ownI (hs.getD i SL.d) (qs.getD i [])
def queP (s : SL) (qs : List (List Int)) : Rel := fun σ σ' => ∃ hs : List SL, (fun σ σ' => hs.length = qs.length ∧ (Rel.seq (ownP 32 [.slc] s (hs.map slT)) (starL (innL hs qs))) σ σ' : Rel) σ σ'
theorem inn_port {hs : List SL} {qs : List (List Int)} : ∀ R ∈ innL hs qs, Port R := by
  intro R hR
  obtain ⟨i, _, rfl⟩ := List.mem_map.1 hR
  exact Port.ownI
theorem Port.coreP {W : PW} {S : Pl} : Port (coreP W S) := Port.ex fun _ => Port.seq Port.blk Port.own
theorem Port.queP {s : SL} {qs : List (List Int)} : Port (queP s qs) := Port.ex fun _ => Port.and (Port.seq Port.own (Port.star inn_port))
def ppieces (W : PW) (S : Pl) : List Rel := [coreP W S, ownP 76 sGs W.gu (S.guests.map gsT), queP W.q S.queues, ownI W.be S.began, ownI W.en S.ended, ownI W.ta S.takes, ownI W.li S.lines, ownI W.ho S.homes]
theorem ppieces_port {W : PW} {S : Pl} : ∀ R ∈ ppieces W S, Port R := by
  intro R hR
  simp only [ppieces, List.mem_cons, List.not_mem_nil, or_false] at hR
  rcases hR with rfl | rfl | rfl | rfl | rfl | rfl | rfl | rfl
  · exact Port.coreP
  · exact Port.ownP
  · exact Port.queP
  all_goals exact Port.ownI
theorem ppieces_star {W : PW} {S : Pl} : Port (starL (ppieces W S)) := Port.star ppieces_port
def PlayR (W : PW) (σ0 σ : Hp) (S : Pl) : Prop := Lse (starL (ppieces W S)) σ0 σ
theorem PlayR.sub {W : PW} {σ0 σ : Hp} {S : Pl} (h : PlayR W σ0 σ S) : Hp.Sub σ0 σ := Lse.sub ppieces_star h
theorem PlayR.up {W : PW} {σ0 σ σ' : Hp} {S : Pl} (h : PlayR W σ0 σ S) (hs : Hp.Sub σ σ') : PlayR W σ0 σ' S := Lse.up h hs
theorem PlayR.low {W : PW} {σ0 σ1 σ : Hp} {S : Pl} (h : PlayR W σ1 σ S) (hs : Hp.Sub σ0 σ1) : PlayR W σ0 σ S := Lse.low ppieces_star h hs
theorem OwnSl.cellAt {e : TypeId} {ss : List Sh} {σ σ' : Hp} {A : Option Addr} {n c : Nat} {xs : List (TyR ss)} (h : OwnSl e ss σ A n c xs σ') {b off i j : Nat} (hA : A = some ⟨b, off, none⟩) (hi : i < xs.length) (hj : j < ss.length) : σ'.cell? ⟨b, off + i * ss.length + j, none⟩ = (encR ss xs[i])[j]? := by
  obtain ⟨b', off', hA', hc⟩ := h.rd.cell hi
  rw [hA] at hA'
  cases hA'
  rw [Nat.add_assoc]
  exact hc j hj
theorem OwnSl.putAt {e : TypeId} {ss : List Sh} {σ σ' : Hp} {A : Option Addr} {n c : Nat} {xs : List (TyR ss)} (h : OwnSl e ss σ A n c xs σ') {b off i j : Nat} {v : Value} {r : TyR ss} (hA : A = some ⟨b, off, none⟩) (hi : i < xs.length) (hr : setR ss xs[i] j v = some r) :
    σ'.wr ⟨b, off + i * ss.length + j, none⟩ ∧ ∃ σ2, OwnSl e ss σ A n c (xs.set i r) σ2 ∧ Hp.Sub σ2 (σ'.put ⟨b, off + i * ss.length + j, none⟩ v) := by
  obtain ⟨b', off', hA', hp⟩ := h.put (Hp.Sub.refl _) hi
  rw [hA] at hA'
  cases hA'
  rw [Nat.add_assoc]
  exact hp j v r hr
theorem OwnSl.someA {e : TypeId} {ss : List Sh} {σ σ' : Hp} {A : Option Addr} {n c : Nat} {xs : List (TyR ss)} (h : OwnSl e ss σ A n c xs σ') (hx : 0 < xs.length) : ∃ b off, A = some ⟨b, off, none⟩ ∧ ∃ cells, σ' b = some (.cells cells e (0, 0), true) := by
  rcases h with ⟨_, _, _, rfl, _⟩ | ⟨b, off, cells, hA, _, _, _, rfl, _⟩
  · simp at hx
  · exact ⟨b, off, hA, cells, Hp.ins_same ..⟩
theorem ix_at {A : Option Addr} {n w b off : Nat} {i : Int} {K : Nat → Nat → Prop} (hA : A = some ⟨b, off, none⟩) (h0 : 0 ≤ i) (h1 : i < n) (hk : K b (off + i.toNat * w)) : ix A n i w K := by
  subst hA
  refine ⟨h0, h1, ?_⟩
  rw [mulSz_eq]
  exact hk

section
variable {W : PW} {σ0 σ : Hp} {S : Pl}
theorem PlayR.core (h : PlayR W σ0 σ S) : ∃ σ1, coreP W S σ1 σ ∧ ∀ R' σ2 σ', Port R' → R' σ1 σ2 → Hp.Sub σ2 σ' → Lse (starL ((ppieces W S).set 0 R')) σ0 σ' := star_at (k := 0) ppieces_port (by show 0 < 8; omega) h
theorem PlayR.at_ (h : PlayR W σ0 σ S) (k : Nat) (hk : k < 8) : ∃ σ1, ((ppieces W S)[k]'hk) σ1 σ ∧ ∀ R' σ2 σ', Port R' → R' σ1 σ2 → Hp.Sub σ2 σ' → Lse (starL ((ppieces W S).set k R')) σ0 σ' := star_at (k := k) ppieces_port hk h
theorem PlayR.pblk (h : PlayR W σ0 σ S) : ∃ v : SL, σ W.pb = some (.cells (playC W S v) 65 (0, 0), true) := by
  obtain ⟨σ1, ⟨v, σ2, h1, h2⟩, _⟩ := h.core
  exact ⟨v, h2.sub _ _ h1.get⟩
theorem PlayR.now (h : PlayR W σ0 σ S) (t : Int) : σ.wr ⟨W.pb, 3, none⟩ ∧ PlayR W σ0 (σ.put ⟨W.pb, 3, none⟩ (.int .i64 t)) (S.later t) := by
  obtain ⟨σ1, ⟨v, σ2, h1, h2⟩, h3⟩ := h.core
  obtain ⟨w1, w2, _⟩ := h1.st h2.sub (k := 3) (show 3 < 12 by omega) (.int .i64 t)
  exact ⟨w1, h3 (coreP W (S.later t)) _ _ Port.coreP ⟨v, _, w2, h2.putb h1.get _⟩ (Hp.Sub.refl _)⟩
/-- the visits are taken out, and others put in -/
theorem PlayR.vis (h : PlayR W σ0 σ S) : ∃ (v : SL) (σ1 : Hp), σ W.pb = some (.cells (playC W S v) 65 (0, 0), true) ∧ OwnSl 42 sV σ1 v.A v.n v.c S.visits σ ∧
    ∀ (vs : List Vis) (s : SL) (σ2 : Hp), OwnSl 42 sV σ1 s.A s.n s.c vs σ2 → σ2.wr ⟨W.pb, 8, none⟩ ∧ PlayR W σ0 (σ2.put ⟨W.pb, 8, none⟩ s.v) { S with visits := vs } := by
  obtain ⟨σ1, ⟨v, σ2, h1, h2⟩, h3⟩ := h.core
  refine ⟨v, σ2, h2.sub _ _ h1.get, h2, fun vs s σ4 h4 => ?_⟩
  obtain ⟨w1, w2, w3⟩ := h1.st h4.sub (k := 8) (show 8 < 12 by omega) s.v
  exact ⟨w1, h3 (coreP W { S with visits := vs }) _ _ Port.coreP ⟨s, _, w2, h4.putb h1.get s.v⟩ (Hp.Sub.refl _)⟩

/-! ### Guests -/
theorem PlayR.grd (h : PlayR W σ0 σ S) : RdS sGs σ W.gu.A W.gu.n (S.guests.map gsT) := by
  obtain ⟨σ1, h1, _⟩ := h.at_ 1 (by omega)
  exact (show OwnSl 76 sGs σ1 W.gu.A W.gu.n W.gu.c (S.guests.map gsT) σ from h1).rd
theorem PlayR.gA (h : PlayR W σ0 σ S) {g : Int} (hg : g.toNat < S.guests.length) : (∃ b off, W.gu.A = some ⟨b, off, none⟩) ∧ W.gu.n = S.guests.length := by
  obtain ⟨σ1, h1, _⟩ := h.at_ 1 (by omega)
  have h1 : OwnSl 76 sGs σ1 W.gu.A W.gu.n W.gu.c (S.guests.map gsT) σ := h1
  obtain ⟨b, off, hA, _⟩ := h1.someA (by rw [List.length_map]; omega)
  exact ⟨⟨b, off, hA⟩, by rw [h1.len]; exact List.length_map ..⟩
theorem PlayR.gcell (h : PlayR W σ0 σ S) {g : Int} {b off j : Nat} (hA : W.gu.A = some ⟨b, off, none⟩) (hg : g.toNat < S.guests.length) (hj : j < 4) : σ.cell? ⟨b, off + g.toNat * 4 + j, none⟩ = (encR sGs (gsT (S.gu g)))[j]? := by
  obtain ⟨σ1, h1, _⟩ := h.at_ 1 (by omega)
  have h1 : OwnSl 76 sGs σ1 W.gu.A W.gu.n W.gu.c (S.guests.map gsT) σ := h1
  have hg' : g.toNat < (S.guests.map gsT).length := by rw [List.length_map]; exact hg
  have := h1.cellAt hA hg' (j := j) hj
  have e : (S.guests.map gsT)[g.toNat]'hg' = gsT (S.gu g) := by simp [Pl.gu, List.getD, hg]
  rw [e] at this
  exact this
theorem PlayR.gst (h : PlayR W σ0 σ S) {g : Int} {b off j : Nat} {v : Value} {x' : Gs} (hA : W.gu.A = some ⟨b, off, none⟩) (hg : g.toNat < S.guests.length) (hr : setR sGs (gsT (S.gu g)) j v = some (gsT x')) :
    σ.wr ⟨b, off + g.toNat * 4 + j, none⟩ ∧ PlayR W σ0 (σ.put ⟨b, off + g.toNat * 4 + j, none⟩ v) (S.setG g x') := by
  obtain ⟨σ1, h1, h2⟩ := h.at_ 1 (by omega)
  have h1 : OwnSl 76 sGs σ1 W.gu.A W.gu.n W.gu.c (S.guests.map gsT) σ := h1
  have hg' : g.toNat < (S.guests.map gsT).length := by rw [List.length_map]; exact hg
  have e : (S.guests.map gsT)[g.toNat]'hg' = gsT (S.gu g) := by simp [Pl.gu, List.getD, hg]
  obtain ⟨w1, σ2, w2, w3⟩ := h1.putAt (j := j) (v := v) (r := gsT x') hA hg' (by rw [e]; exact hr)
  refine ⟨w1, ?_⟩
  have e2 : (S.guests.map gsT).set g.toNat (gsT x') = (S.setG g x').guests.map gsT := (List.map_set ..).symm
  rw [e2] at w2
  exact h2 (ownP 76 sGs W.gu ((S.setG g x').guests.map gsT)) _ _ Port.ownP w2 w3
/-! ### Lists of numbers -/
theorem PlayR.ird (h : PlayR W σ0 σ S) : RdS [.int .i64] σ W.be.A W.be.n S.began ∧ RdS [.int .i64] σ W.en.A W.en.n S.ended ∧ RdS [.int .i64] σ W.ta.A W.ta.n S.takes ∧ RdS [.int .i64] σ W.li.A W.li.n S.lines ∧ RdS [.int .i64] σ W.ho.A W.ho.n S.homes := by
  obtain ⟨_, h3, _⟩ := h.at_ 3 (by omega)
  obtain ⟨_, h4, _⟩ := h.at_ 4 (by omega)
  obtain ⟨_, h5, _⟩ := h.at_ 5 (by omega)
  obtain ⟨_, h6, _⟩ := h.at_ 6 (by omega)
  obtain ⟨_, h7, _⟩ := h.at_ 7 (by omega)
  exact ⟨OwnSl.rd h3, OwnSl.rd h4, OwnSl.rd h5, OwnSl.rd h6, OwnSl.rd h7⟩
theorem ist {s : SL} {xs : List Int} {σ1 σ : Hp} (h : ownI s xs σ1 σ) {i v : Int} {K : Hp → Prop} (h0 : 0 ≤ i) (h1 : i < xs.length) (hk : ∀ σ2 τ2, ownI s (xs.set i.toNat v) σ1 σ2 → Hp.Sub σ2 τ2 → K τ2) : ix s.A s.n i 1 fun b a => st σ b a (.int .i64 v) K :=
  OwnSl.ix_stI (e := 3) h (Hp.Sub.refl _) h0 (by omega) fun σ2 τ2 h2 h3 => hk σ2 τ2 h2 h3
theorem PlayR.stBe (h : PlayR W σ0 σ S) {i v : Int} {K : Hp → Prop} (h0 : 0 ≤ i) (h1 : i < S.began.length) (hk : ∀ τ, PlayR W σ0 τ { S with began := S.began.set i.toNat v } → K τ) : ix W.be.A W.be.n i 1 fun b a => st σ b a (.int .i64 v) K := by
  obtain ⟨σ1, h3, h4⟩ := h.at_ 3 (by omega)
  exact ist h3 h0 h1 fun σ2 τ2 p1 p2 => hk _ (h4 (ownI W.be (S.began.set i.toNat v)) _ _ Port.ownI p1 p2)
theorem PlayR.stEn (h : PlayR W σ0 σ S) {i v : Int} {K : Hp → Prop} (h0 : 0 ≤ i) (h1 : i < S.ended.length) (hk : ∀ τ, PlayR W σ0 τ { S with ended := S.ended.set i.toNat v } → K τ) : ix W.en.A W.en.n i 1 fun b a => st σ b a (.int .i64 v) K := by
  obtain ⟨σ1, h3, h4⟩ := h.at_ 4 (by omega)
  exact ist h3 h0 h1 fun σ2 τ2 p1 p2 => hk _ (h4 (ownI W.en (S.ended.set i.toNat v)) _ _ Port.ownI p1 p2)
theorem PlayR.stTa (h : PlayR W σ0 σ S) {i v : Int} {K : Hp → Prop} (h0 : 0 ≤ i) (h1 : i < S.takes.length) (hk : ∀ τ, PlayR W σ0 τ { S with takes := S.takes.set i.toNat v } → K τ) : ix W.ta.A W.ta.n i 1 fun b a => st σ b a (.int .i64 v) K := by
  obtain ⟨σ1, h3, h4⟩ := h.at_ 5 (by omega)
  exact ist h3 h0 h1 fun σ2 τ2 p1 p2 => hk _ (h4 (ownI W.ta (S.takes.set i.toNat v)) _ _ Port.ownI p1 p2)
theorem PlayR.stLi (h : PlayR W σ0 σ S) {i v : Int} {K : Hp → Prop} (h0 : 0 ≤ i) (h1 : i < S.lines.length) (hk : ∀ τ, PlayR W σ0 τ { S with lines := S.lines.set i.toNat v } → K τ) : ix W.li.A W.li.n i 1 fun b a => st σ b a (.int .i64 v) K := by
  obtain ⟨σ1, h3, h4⟩ := h.at_ 6 (by omega)
  exact ist h3 h0 h1 fun σ2 τ2 p1 p2 => hk _ (h4 (ownI W.li (S.lines.set i.toNat v)) _ _ Port.ownI p1 p2)
theorem PlayR.stHo (h : PlayR W σ0 σ S) {i v : Int} {K : Hp → Prop} (h0 : 0 ≤ i) (h1 : i < S.homes.length) (hk : ∀ τ, PlayR W σ0 τ { S with homes := S.homes.set i.toNat v } → K τ) : ix W.ho.A W.ho.n i 1 fun b a => st σ b a (.int .i64 v) K := by
  obtain ⟨σ1, h3, h4⟩ := h.at_ 7 (by omega)
  exact ist h3 h0 h1 fun σ2 τ2 p1 p2 => hk _ (h4 (ownI W.ho (S.homes.set i.toNat v)) _ _ Port.ownI p1 p2)

/-! ### Queues -/
theorem innL_set {hs : List SL} {qs : List (List Int)} {k : Nat} {s : SL} {q : List Int} (hl : hs.length = qs.length) (hk : k < qs.length) : innL (hs.set k s) (qs.set k q) = (innL hs qs).set k (ownI s q) := by
  unfold innL
  apply List.ext_getElem
  · simp
  · intro i h1 h2
    simp only [List.length_map, List.length_range, List.length_set] at h1
    simp only [List.getElem_map, List.getElem_range, List.getElem_set]
    by_cases e : k = i
    · subst e
      rw [if_pos rfl, getD_setq (by omega), if_pos rfl, getD_setq hk, if_pos rfl]
    · rw [if_neg e, getD_setq (by omega), if_neg fun h => e h.symm, getD_setq hk, if_neg fun h => e h.symm]
/-- a queue is taken out, and another one put in -/
theorem PlayR.que (h : PlayR W σ0 σ S) {r : Int} (hr : r.toNat < S.queues.length) : ∃ (b off : Nat) (s : SL) (σ3 : Hp), W.q.A = some ⟨b, off, none⟩ ∧ W.q.n = S.queues.length ∧ σ.cell? ⟨b, off + r.toNat * 1, none⟩ = some s.v ∧ OwnSl 3 [.int .i64] σ3 s.A s.n s.c (S.qu r) σ ∧ (∃ v : SL, σ3 W.pb = some (.cells (playC W S v) 65 (0, 0), true)) ∧
    ∀ (xs : List Int) (s' : SL) (σ4 : Hp), OwnSl 3 [.int .i64] σ3 s'.A s'.n s'.c xs σ4 → σ4.wr ⟨b, off + r.toNat * 1, none⟩ ∧ PlayR W σ0 (σ4.put ⟨b, off + r.toNat * 1, none⟩ s'.v) (S.setQ r xs) := by
  obtain ⟨σ1, hq, hk⟩ := h.at_ 2 (by omega)
  obtain ⟨hs, hl, σ2, ho, hi⟩ := hq
  have ho : OwnSl 32 [.slc] σ1 W.q.A W.q.n W.q.c (hs.map slT) σ2 := ho
  have hlm : r.toNat < (hs.map slT).length := by rw [List.length_map, hl]; exact hr
  obtain ⟨b, off, hA, cells, hbb⟩ := ho.someA (by omega)
  obtain ⟨σ3, h3, h4⟩ := star_at (k := r.toNat) inn_port (by unfold innL; rw [List.length_map, List.length_range]; exact hr) (Lse.of hi)
  have e3 : (innL hs S.queues)[r.toNat]'(by unfold innL; rw [List.length_map, List.length_range]; exact hr) = ownI (hs.getD r.toNat SL.d) (S.qu r) := by simp [innL, Pl.qu]
  rw [e3] at h3
  have hn : W.q.n = S.queues.length := by rw [ho.len, ← hl]; exact List.length_map ..
  have hsub := Port.sub (Port.star (inn_port (hs := hs) (qs := S.queues))) hi
  have hcell : σ.cell? ⟨b, off + r.toNat * 1, none⟩ = some (hs.getD r.toNat SL.d).v := by
    have := ho.cellAt hA hlm (j := 0) (by show 0 < 1; omega)
    have e : (hs.map slT)[r.toNat]'hlm = slT (hs.getD r.toNat SL.d) := by
      have : r.toNat < hs.length := by rw [hl]; exact hr
      simp [List.getD, this]
    rw [e] at this
    exact cell_sub hsub this
  have key : ∀ (xs : List Int) (s' : SL) (σ4 : Hp), OwnSl 3 [.int .i64] σ3 s'.A s'.n s'.c xs σ4 → σ4.wr ⟨b, off + r.toNat * 1, none⟩ ∧ PlayR W σ0 (σ4.put ⟨b, off + r.toNat * 1, none⟩ s'.v) (S.setQ r xs) := by
    intro xs s' σ4 h5
    have h6 := h4 (ownI s' xs) σ4 σ4 Port.ownI h5 (Hp.Sub.refl _)
    rw [← innL_set hl hr] at h6
    obtain ⟨w1, σ5, w2, w3⟩ := ho.putAt (j := 0) (v := s'.v) (r := slT s') hA hlm rfl
    have h7 := Lse.put (Port.star inn_port) h6 hbb (k := off + r.toNat * 1) s'.v
    have h8 := h7.low (Port.star inn_port) w3
    obtain ⟨σ6, h9, h10⟩ := h8
    refine ⟨wr_sub w1 (Lse.sub (Port.star inn_port) h6), ?_⟩
    refine hk (queP W.q (S.setQ r xs).queues) σ6 _ Port.queP ⟨hs.set r.toNat s', by show _ = (S.queues.set _ _).length; rw [List.length_set, List.length_set]; exact hl, σ5, ?_, h9⟩ h10
    have e : (hs.map slT).set r.toNat (slT s') = (hs.set r.toNat s').map slT := (List.map_set ..).symm
    rw [e] at w2
    exact w2
  refine ⟨b, off, hs.getD r.toNat SL.d, σ3, hA, hn, hcell, h3, ?_, key⟩
  obtain ⟨⟨cw, ew, hw, _⟩, h'⟩ := key [] SL.d σ3 (OwnSl.nil ..)
  obtain ⟨v, hv⟩ := h'.pblk
  have hne : W.pb ≠ b := fun e => by
    have hb3 : ∃ cells', (σ3.put ⟨b, off + r.toNat * 1, none⟩ SL.d.v) b = some (.cells cells' 32 (0, 0), true) := by
      obtain ⟨σ1', hq', _⟩ := h'.at_ 2 (by omega)
      obtain ⟨hs', hl', σ2', ho', hi'⟩ := hq'
      have ho' : OwnSl 32 [.slc] σ1' W.q.A W.q.n W.q.c (hs'.map slT) σ2' := ho'
      have hpos : 0 < (hs'.map slT).length := by
        rw [List.length_map, hl']
        show 0 < (S.queues.set _ _).length
        rw [List.length_set]; omega
      obtain ⟨b', off', hA', cells', hb'⟩ := ho'.someA hpos
      rw [hA] at hA'
      cases hA'
      exact ⟨cells', Port.sub (Port.star inn_port) hi' _ _ hb'⟩
    obtain ⟨cells', hb3⟩ := hb3
    rw [e, hb3] at hv
    injection hv with hv
    injection hv with hv _
    injection hv with _ hv _
    cases hv
  rw [Hp.put_ne (show W.pb ≠ (⟨b, off + r.toNat * 1, none⟩ : Addr).block from hne)] at hv
  exact ⟨v, hv⟩
end
theorem Pl.setG_setG (S : Pl) (g : Int) (x y : Gs) : (S.setG g x).setG g y = S.setG g y := by unfold Pl.setG; simp
/-- what does not change in an evening -/
structure PSt (W : PW) (σ : Hp) (S : Pl) (ws : Nat → SL) : Prop where
  e : EvR σ W.f S.B W.l ws S.G
theorem PSt.sub {W : PW} {σ σ' : Hp} {S : Pl} {ws : Nat → SL} (h : PSt W σ S ws) (hs : Hp.Sub σ σ') : PSt W σ' S ws := ⟨h.e.sub hs⟩
end Go.Proofs.Ytgcefaikdplbkaa
