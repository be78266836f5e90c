/- The plain model of an evening as the program plays it, and how it lies in memory. -/
import Derived.Test.YtgcefaikdplbkaaHs0
namespace Go.Proofs.Ytgcefaikdplbkaa
open Go.RowKit

/-- a ride as it is given -/
structure BthG where
  seats : Int
  price : Int
  cycle : Int
  pause : Int
  fill : Bool
/-- a group as it is given -/
structure Grp where
  came : Int
  size : Int
  tokens : Int
  wants : List Int
  patience : Int
/-- a ride in an evening -/
structure Bth where
  b : BthG
  on : List Int
  begun : Int
  ended : Int
  queue : List (Int × Int)
  takes : Int
  line : Int
/-- a group in an evening -/
structure Pty where
  g : Grp
  wish : Int
  purse : Int
  comes : Int
  home : Int
/-- Group, Want, Ride, On, Came, Left -/
abbrev Vis := Int × Int × Int × Bool × Int × Int
structure Ngt where
  walk : Int
  rides : List Bth
  parties : List Pty
  tick : Int
  visits : List Vis

def Bth.d : Bth := ⟨⟨0, 0, 0, 0, false⟩, [], 0, 0, [], 0, 0⟩
def Pty.d : Pty := ⟨⟨0, 0, 0, [], 0⟩, 0, 0, 0, 0⟩
def Ngt.pa (N : Ngt) (g : Int) : Pty := N.parties.getD g.toNat Pty.d
def Ngt.bo (N : Ngt) (i : Int) : Bth := N.rides.getD i.toNat Bth.d
def Ngt.setP (N : Ngt) (g : Int) (p : Pty) : Ngt := { N with parties := N.parties.set g.toNat p }
def Ngt.setR (N : Ngt) (i : Int) (r : Bth) : Ngt := { N with rides := N.rides.set i.toNat r }
def Ngt.setV (N : Ngt) (v : List Vis) : Ngt := { N with visits := v }
def Ngt.setT (N : Ngt) (t : Int) : Ngt := { N with tick := t }

/-! ### Memory -/
theorem OwnSl.putb {e : TypeId} {ss : List Sh} {σ1 σ2 : Hp} {A : Option Addr} {n c : Nat} {xs : List (TyR ss)} (h : OwnSl e ss σ1 A n c xs σ2) {b k : Nat} {x : Obj × Bool} (hb : σ1 b = some x) (v : Value) : OwnSl e ss (σ1.put ⟨b, k, none⟩ v) A n c xs (σ2.put ⟨b, k, none⟩ v) :=
  Port.put (R := fun σ σ' => OwnSl e ss σ A n c xs σ') Port.own h hb v

/-- a slice's three parts -/
structure SL where
  A : Option Addr
  n : Nat
  c : Nat
def SL.v (s : SL) : Value := .slice s.A s.n s.c
def OwnS (e : TypeId) (ss : List Sh) (σ : Hp) (s : SL) (xs : List (TyR ss)) (σ' : Hp) : Prop := OwnSl e ss σ s.A s.n s.c xs σ'
abbrev sQ : List Sh := [.int .i64, .int .i64]
abbrev sV : List Sh := [.int .i64, .int .i64, .int .i64, .bool, .int .i64, .int .i64]

/-- where the parts of an evening lie -/
structure NW where
  nb : Nat
  r : SL
  p : SL
  rs : List Nat
  ps : List Nat
  ws : Nat → SL
def pto (b : Nat) : Option Addr := some ⟨b, 0, none⟩
def NW.rb (W : NW) (i : Int) : Nat := W.rs.getD i.toNat 0
def NW.pb (W : NW) (g : Int) : Nat := W.ps.getD g.toNat 0
/-- what does not change in an evening -/
structure NSt (W : NW) (σ : Hp) (nr : Nat) (G : List Grp) : Prop where
  r : RdS [.ptr] σ W.r.A W.r.n (W.rs.map pto)
  p : RdS [.ptr] σ W.p.A W.p.n (W.ps.map pto)
  w : ∀ i, (h : i < G.length) → RdS [.int .i64] σ (W.ws i).A (W.ws i).n G[i].wants
  lr : W.rs.length = nr
  lp : W.ps.length = G.length
theorem NSt.sub {W : NW} {σ σ' : Hp} {nr : Nat} {G : List Grp} (h : NSt W σ nr G) (hs : Hp.Sub σ σ') : NSt W σ' nr G :=
  ⟨h.r.sub hs, h.p.sub hs, fun i hi => (h.w i hi).sub hs, h.lr, h.lp⟩

def nightC (W : NW) (N : Ngt) (v : SL) : Array Value := #[.int .i64 N.walk, W.r.v, W.p.v, .int .i64 N.tick, v.v]
def boothC (r : Bth) (o q : SL) : Array Value := #[.int .i64 r.b.seats, .int .i64 r.b.price, .int .i64 r.b.cycle, .int .i64 r.b.pause, .bool r.b.fill, o.v, .int .i64 r.begun, .int .i64 r.ended, q.v, .int .i64 r.takes, .int .i64 r.line]
def partyC (w : SL) (p : Pty) : Array Value := #[.int .i64 p.g.came, .int .i64 p.g.size, .int .i64 p.g.tokens, w.v, .int .i64 p.g.patience, .int .i64 p.wish, .int .i64 p.purse, .int .i64 p.comes, .int .i64 p.home]
def coreR (W : NW) (N : Ngt) : Rel := fun σ σ' => ∃ v, (Blk W.nb (.cells (nightC W N v) 80 (0, 0))).seq (fun σ1 σ2 => OwnSl 42 sV σ1 v.A v.n v.c N.visits σ2) σ σ'
def boothR (b : Nat) (r : Bth) : Rel := fun σ σ' => ∃ o q, ((Blk b (.cells (boothC r o q) 73 (0, 0))).seq (fun σ1 σ2 => OwnSl 3 [.int .i64] σ1 o.A o.n o.c r.on σ2)).seq (fun σ1 σ2 => OwnSl 90 sQ σ1 q.A q.n q.c r.queue σ2) σ σ'
def partyR (b : Nat) (w : SL) (p : Pty) : Rel := Blk b (.cells (partyC w p) 60 (0, 0))
theorem Port.core {W : NW} {N : Ngt} : Port (coreR W N) := Port.ex fun _ => Port.seq Port.blk Port.own
theorem Port.booth {b : Nat} {r : Bth} : Port (boothR b r) := Port.ex fun _ => Port.ex fun _ => Port.seq (Port.seq Port.blk Port.own) Port.own
theorem Port.party {b : Nat} {w : SL} {p : Pty} : Port (partyR b w p) := Port.blk
def boothsL (W : NW) (rs : List Bth) : List Rel := (List.range rs.length).map fun i => boothR (W.rs.getD i 0) (rs.getD i Bth.d)
def partiesL (W : NW) (ps : List Pty) : List Rel := (List.range ps.length).map fun i => partyR (W.ps.getD i 0) (W.ws i) (ps.getD i Pty.d)
def pieces (W : NW) (N : Ngt) : List Rel := coreR W N :: (boothsL W N.rides ++ partiesL W N.parties)
theorem pieces_port {W : NW} {N : Ngt} : ∀ R ∈ pieces W N, Port R := by
  intro R hR
  rcases List.mem_cons.1 hR with rfl | hR
  · exact Port.core
  · rcases List.mem_append.1 hR with hR | hR
    · obtain ⟨i, _, rfl⟩ := List.mem_map.1 hR
      exact Port.booth
    · obtain ⟨i, _, rfl⟩ := List.mem_map.1 hR
      exact Port.party
/-- the evening lies in σ, beyond σ0 -/
def NightR (W : NW) (σ0 σ : Hp) (N : Ngt) : Prop := Lse (starL (pieces W N)) σ0 σ
theorem pieces_star {W : NW} {N : Ngt} : Port (starL (pieces W N)) := Port.star pieces_port
theorem NightR.sub {W : NW} {σ0 σ : Hp} {N : Ngt} (h : NightR W σ0 σ N) : Hp.Sub σ0 σ := Lse.sub pieces_star h
theorem NightR.up {W : NW} {σ0 σ σ' : Hp} {N : Ngt} (h : NightR W σ0 σ N) (hs : Hp.Sub σ σ') : NightR W σ0 σ' N := Lse.up h hs
theorem NightR.low {W : NW} {σ0 σ1 σ : Hp} {N : Ngt} (h : NightR W σ1 σ N) (hs : Hp.Sub σ0 σ1) : NightR W σ0 σ N := Lse.low pieces_star h hs

theorem range_set {α β : Type} {f : Nat → α → β} {xs : List α} {d a : α} {k : Nat} (hk : k < xs.length) : (List.range (xs.set k a).length).map (fun i => f i ((xs.set k a).getD i d)) = ((List.range xs.length).map fun i => f i (xs.getD i d)).set k (f k a) := by
  apply List.ext_getElem
  · simp
  · intro i h1 h2
    simp only [List.length_map, List.length_range, List.length_set] at h1
    simp only [List.getElem_map, List.getElem_range, List.getElem_set]
    by_cases e : k = i
    · subst e
      simp [List.getD, hk]
    · rw [if_neg e]
      simp [List.getD, h1, List.getElem?_set, e]
theorem boothsL_set {W : NW} {rs : List Bth} {r : Bth} {k : Nat} (hk : k < rs.length) : boothsL W (rs.set k r) = (boothsL W rs).set k (boothR (W.rs.getD k 0) r) := range_set (f := fun i r => boothR (W.rs.getD i 0) r) hk
theorem partiesL_set {W : NW} {ps : List Pty} {p : Pty} {k : Nat} (hk : k < ps.length) : partiesL W (ps.set k p) = (partiesL W ps).set k (partyR (W.ps.getD k 0) (W.ws k) p) := range_set (f := fun i p => partyR (W.ps.getD i 0) (W.ws i) p) hk
theorem coreR_congr {W : NW} {N N' : Ngt} (h1 : N'.walk = N.walk) (h2 : N'.tick = N.tick) (h3 : N'.visits = N.visits) : coreR W N' = coreR W N := by
  unfold coreR nightC
  rw [h1, h2, h3]

/-- a piece is taken out, and another one put in its place -/
theorem star_at {rs : List Rel} {σ0 σ : Hp} {k : Nat} (hp : ∀ R ∈ rs, Port R) (hk : k < rs.length) (h : Lse (starL rs) σ0 σ) :
    ∃ σ1, rs[k] σ1 σ ∧ ∀ R' σ2 σ', Port R' → R' σ1 σ2 → Hp.Sub σ2 σ' → Lse (starL (rs.set k R')) σ0 σ' := by
  obtain ⟨σ3, h1, h2⟩ := h
  obtain ⟨σ1, h3, h4⟩ := star_get hp hk h1
  obtain ⟨σ1', h5, h6⟩ := (hp _ (List.getElem_mem hk)).junk h4 h2
  refine ⟨σ1', h5, fun R' σ2 σ' hR' hr hs => ?_⟩
  obtain ⟨σ4, h7, h8⟩ := hR'.less hr h6
  exact ⟨σ4, star_put hp hR' hk h3 h7, h8.trans hs⟩

section
variable {W : NW} {σ0 σ : Hp} {N : Ngt}
theorem NightR.core (h : NightR W σ0 σ N) : ∃ σ1, coreR W N σ1 σ ∧ ∀ N' σ2 σ', N'.rides = N.rides → N'.parties = N.parties → coreR W N' σ1 σ2 → Hp.Sub σ2 σ' → NightR W σ0 σ' N' := by
  obtain ⟨σ1, h1, h2⟩ := star_at (k := 0) pieces_port (by simp [pieces]) h
  refine ⟨σ1, h1, fun N' σ2 σ' e1 e2 hc hs => ?_⟩
  have := h2 _ _ _ Port.core hc hs
  unfold NightR pieces
  rw [e1, e2]
  exact this
theorem NightR.booth (h : NightR W σ0 σ N) {i : Int} (hi : i.toNat < N.rides.length) : ∃ σ1, boothR (W.rb i) (N.bo i) σ1 σ ∧ ∀ r' σ2 σ', boothR (W.rb i) r' σ1 σ2 → Hp.Sub σ2 σ' → NightR W σ0 σ' (N.setR i r') := by
  have hk : i.toNat < (boothsL W N.rides).length := by simpa [boothsL] using hi
  obtain ⟨σ1, h1, h2⟩ := star_at (k := i.toNat + 1) pieces_port (by simp [pieces]; omega) h
  refine ⟨σ1, ?_, fun r' σ2 σ' hc hs => ?_⟩
  · have e : (pieces W N)[i.toNat + 1]'(by simp [pieces]; omega) = boothR (W.rb i) (N.bo i) := by
      simp only [pieces, List.getElem_cons_succ]
      rw [List.getElem_append_left hk]
      simp [boothsL, NW.rb, Ngt.bo]
    rw [e] at h1
    exact h1
  · have := h2 _ _ _ Port.booth hc hs
    have e : pieces W (N.setR i r') = (pieces W N).set (i.toNat + 1) (boothR (W.rb i) r') := by
      unfold pieces
      rw [List.set_cons_succ, List.set_append_left _ _ hk]
      show _ :: (boothsL W (N.rides.set i.toNat r') ++ _) = _
      rw [boothsL_set hi]
      rfl
    show Lse (starL (pieces W _)) σ0 σ'
    rw [e]
    exact this
theorem NightR.party (h : NightR W σ0 σ N) {g : Int} (hg : g.toNat < N.parties.length) : ∃ σ1, partyR (W.pb g) (W.ws g.toNat) (N.pa g) σ1 σ ∧ ∀ p' σ2 σ', partyR (W.pb g) (W.ws g.toNat) p' σ1 σ2 → Hp.Sub σ2 σ' → NightR W σ0 σ' (N.setP g p') := by
  have hl : (boothsL W N.rides).length = N.rides.length := by simp [boothsL]
  have hk : (boothsL W N.rides).length + g.toNat < (boothsL W N.rides ++ partiesL W N.parties).length := by simp [partiesL]; omega
  obtain ⟨σ1, h1, h2⟩ := star_at (k := (boothsL W N.rides).length + g.toNat + 1) pieces_port (by simp [pieces, partiesL]; omega) h
  refine ⟨σ1, ?_, fun p' σ2 σ' hc hs => ?_⟩
  · have e : (pieces W N)[(boothsL W N.rides).length + g.toNat + 1]'(by simp [pieces, partiesL]; omega) = partyR (W.pb g) (W.ws g.toNat) (N.pa g) := by
      simp only [pieces, List.getElem_cons_succ]
      rw [List.getElem_append_right (by omega)]
      simp [partiesL, NW.pb, Ngt.pa]
    rw [e] at h1
    exact h1
  · have := h2 _ _ _ Port.party hc hs
    have e : pieces W (N.setP g p') = (pieces W N).set ((boothsL W N.rides).length + g.toNat + 1) (partyR (W.pb g) (W.ws g.toNat) p') := by
      unfold pieces
      rw [List.set_cons_succ, List.set_append_right _ _ (by omega)]
      show _ :: (_ ++ partiesL W (N.parties.set g.toNat p')) = _
      rw [partiesL_set hg, Nat.add_sub_cancel_left]
      rfl
    show Lse (starL (pieces W _)) σ0 σ'
    rw [e]
    exact this

/-! ### What is read -/
theorem NightR.nblk (h : NightR W σ0 σ N) : ∃ v : SL, σ W.nb = some (.cells (nightC W N v) 80 (0, 0), true) ∧ RdS sV σ v.A v.n N.visits := by
  obtain ⟨σ1, ⟨v, σ2, h1, h2⟩, _⟩ := h.core
  exact ⟨v, h2.sub _ _ h1.get, h2.rd⟩
theorem NightR.pblk (h : NightR W σ0 σ N) {g : Int} (hg : g.toNat < N.parties.length) : σ (W.pb g) = some (.cells (partyC (W.ws g.toNat) (N.pa g)) 60 (0, 0), true) := by
  obtain ⟨σ1, h1, _⟩ := h.party hg
  exact Blk.get h1
theorem NightR.rblk (h : NightR W σ0 σ N) {i : Int} (hi : i.toNat < N.rides.length) : ∃ o q : SL, σ (W.rb i) = some (.cells (boothC (N.bo i) o q) 73 (0, 0), true) ∧ RdS [.int .i64] σ o.A o.n (N.bo i).on ∧ RdS sQ σ q.A q.n (N.bo i).queue := by
  obtain ⟨σ1, ⟨o, q, σ3, ⟨σ2, h1, h2⟩, h3⟩, _⟩ := h.booth hi
  exact ⟨o, q, h3.sub _ _ (h2.sub _ _ h1.get), h2.rd.sub h3.sub, h3.rd⟩

/-! ### What is written -/
theorem NightR.stN (h : NightR W σ0 σ N) {N' : Ngt} {k : Nat} {v : Value} (hk : k < 5) (e1 : N'.rides = N.rides) (e2 : N'.parties = N.parties) (e3 : N'.visits = N.visits) (hc : ∀ s, nightC W N' s = (nightC W N s).setIfInBounds k v) :
    σ.wr ⟨W.nb, k, none⟩ ∧ NightR W σ0 (σ.put ⟨W.nb, k, none⟩ v) N' := by
  obtain ⟨σ1, ⟨s, σ2, h1, h2⟩, h3⟩ := h.core
  obtain ⟨w1, w2, w3⟩ := h1.st h2.sub hk v
  refine ⟨w1, h3 N' (σ.put ⟨W.nb, k, none⟩ v) _ e1 e2 ⟨s, σ2.put ⟨W.nb, k, none⟩ v, ?_, ?_⟩ (Hp.Sub.refl _)⟩
  · rw [hc]; exact w2
  · rw [e3]
    exact h2.putb h1.get v
theorem NightR.stP (h : NightR W σ0 σ N) {g : Int} (hg : g.toNat < N.parties.length) {k : Nat} {v : Value} {p' : Pty} (hk : k < 9) (hc : partyC (W.ws g.toNat) p' = (partyC (W.ws g.toNat) (N.pa g)).setIfInBounds k v) :
    σ.wr ⟨W.pb g, k, none⟩ ∧ NightR W σ0 (σ.put ⟨W.pb g, k, none⟩ v) (N.setP g p') := by
  obtain ⟨σ1, h1, h3⟩ := h.party hg
  obtain ⟨w1, w2, w3⟩ := Blk.st h1 (Hp.Sub.refl _) (k := k) hk v
  refine ⟨w1, h3 p' _ _ ?_ (Hp.Sub.refl _)⟩
  unfold partyR
  rw [hc]
  exact w2
theorem NightR.stR (h : NightR W σ0 σ N) {i : Int} (hi : i.toNat < N.rides.length) {k : Nat} {v : Value} {r' : Bth} (hk : k < 11) (e1 : r'.on = (N.bo i).on) (e2 : r'.queue = (N.bo i).queue) (hc : ∀ o q, boothC r' o q = (boothC (N.bo i) o q).setIfInBounds k v) :
    σ.wr ⟨W.rb i, k, none⟩ ∧ NightR W σ0 (σ.put ⟨W.rb i, k, none⟩ v) (N.setR i r') := by
  obtain ⟨σ1, ⟨o, q, σ3, ⟨σ2, h1, h2⟩, h3⟩, h4⟩ := h.booth hi
  obtain ⟨w1, w2, w3⟩ := h1.st (h2.sub.trans h3.sub) hk v
  refine ⟨w1, h4 r' (σ.put ⟨W.rb i, k, none⟩ v) _ ⟨o, q, σ3.put ⟨W.rb i, k, none⟩ v, ⟨σ2.put ⟨W.rb i, k, none⟩ v, ?_, ?_⟩, ?_⟩ (Hp.Sub.refl _)⟩
  · rw [hc]; exact w2
  · rw [e1]; exact h2.putb h1.get v
  · rw [e2]; exact h3.putb (h2.sub _ _ h1.get) v
/-- the visits are taken out, and others put in -/
theorem NightR.vis (h : NightR W σ0 σ N) : ∃ (v : SL) (σ1 : Hp), σ W.nb = some (.cells (nightC W N v) 80 (0, 0), true) ∧ OwnSl 42 sV σ1 v.A v.n v.c N.visits σ ∧
    ∀ (vs : List Vis) (s : SL) (σ2 : Hp), OwnSl 42 sV σ1 s.A s.n s.c vs σ2 → σ2.wr ⟨W.nb, 4, none⟩ ∧ NightR W σ0 (σ2.put ⟨W.nb, 4, none⟩ s.v) (N.setV vs) := by
  obtain ⟨σ1, ⟨v, σ2, h1, h2⟩, h3⟩ := h.core
  refine ⟨v, σ2, h2.sub _ _ h1.get, h2, fun vs s σ4 h4 => ?_⟩
  obtain ⟨w1, w2, w3⟩ := h1.st h4.sub (k := 4) (show 4 < 5 by omega) s.v
  exact ⟨w1, h3 (N.setV vs) _ _ rfl rfl ⟨s, _, w2, h4.putb h1.get s.v⟩ (Hp.Sub.refl _)⟩
/-- a ride's queue likewise -/
theorem NightR.que (h : NightR W σ0 σ N) {i : Int} (hi : i.toNat < N.rides.length) : ∃ (o q : SL) (σ1 : Hp), σ (W.rb i) = some (.cells (boothC (N.bo i) o q) 73 (0, 0), true) ∧ OwnSl 90 sQ σ1 q.A q.n q.c (N.bo i).queue σ ∧
    ∀ (qs : List (Int × Int)) (s : SL) (σ2 : Hp), OwnSl 90 sQ σ1 s.A s.n s.c qs σ2 → σ2.wr ⟨W.rb i, 8, none⟩ ∧ NightR W σ0 (σ2.put ⟨W.rb i, 8, none⟩ s.v) (N.setR i { N.bo i with queue := qs }) := by
  obtain ⟨σ1, ⟨o, q, σ3, ⟨σ2, h1, h2⟩, h3⟩, h4⟩ := h.booth hi
  refine ⟨o, q, σ3, h3.sub _ _ (h2.sub _ _ h1.get), h3, fun qs s σ5 h5 => ?_⟩
  obtain ⟨w1, w2, w3⟩ := h1.st (h2.sub.trans h5.sub) (k := 8) (show 8 < 11 by omega) s.v
  exact ⟨w1, h4 { N.bo i with queue := qs } _ _ ⟨o, s, _, ⟨_, w2, h2.putb h1.get s.v⟩, h5.putb (h2.sub _ _ h1.get) s.v⟩ (Hp.Sub.refl _)⟩
/-- who is on a ride, likewise -/
theorem NightR.ons (h : NightR W σ0 σ N) {i : Int} (hi : i.toNat < N.rides.length) : ∃ (o q : SL) (σ1 : Hp), σ (W.rb i) = some (.cells (boothC (N.bo i) o q) 73 (0, 0), true) ∧ OwnSl 3 [.int .i64] σ1 o.A o.n o.c (N.bo i).on σ ∧
    ∀ (xs : List Int) (s : SL) (σ2 : Hp), OwnSl 3 [.int .i64] σ1 s.A s.n s.c xs σ2 → σ2.wr ⟨W.rb i, 5, none⟩ ∧ NightR W σ0 (σ2.put ⟨W.rb i, 5, none⟩ s.v) (N.setR i { N.bo i with on := xs }) := by
  obtain ⟨σ1, ⟨o, q, σ3, ⟨σ2, h1, h2⟩, h3⟩, h4⟩ := h.booth hi
  obtain ⟨σ3', h2', h3'⟩ := h2.swap h3
  refine ⟨o, q, σ3', h3.sub _ _ (h2.sub _ _ h1.get), h3', fun xs s σ5 h5 => ?_⟩
  obtain ⟨σ6, h6, h7⟩ := h2'.swap h5
  obtain ⟨w1, w2, w3⟩ := h1.st (h6.sub.trans h7.sub) (k := 5) (show 5 < 11 by omega) s.v
  exact ⟨w1, h4 { N.bo i with on := xs } _ _ ⟨s, q, _, ⟨_, w2, h6.putb h1.get s.v⟩, h7.putb (h6.sub _ _ h1.get) s.v⟩ (Hp.Sub.refl _)⟩
/-- a ride's queue leaves the evening -/
theorem NightR.outQ (h : NightR W σ0 σ N) {i : Int} (hi : i.toNat < N.rides.length) : ∃ (o q : SL) (σ1 : Hp), σ (W.rb i) = some (.cells (boothC (N.bo i) o q) 73 (0, 0), true) ∧ OwnSl 90 sQ σ0 q.A q.n q.c (N.bo i).queue σ1 ∧ σ.wr ⟨W.rb i, 8, none⟩ ∧
    NightR W σ1 (σ.put ⟨W.rb i, 8, none⟩ (.slice none 0 0)) (N.setR i { N.bo i with queue := [] }) := by
  obtain ⟨o, q, σ1, hb, hq, hk⟩ := h.que hi
  obtain ⟨_, h1⟩ := hk [] ⟨none, 0, 0⟩ σ1 (OwnSl.nil ..)
  have hw : σ.wr ⟨W.rb i, 8, none⟩ := blk_wr hb (show 8 < 11 by omega)
  have hb1 : ∃ x, σ1 (W.rb i) = some x := by
    obtain ⟨w, _⟩ := hk [] ⟨none, 0, 0⟩ σ1 (OwnSl.nil ..)
    obtain ⟨c, e, hx, _⟩ := w
    exact ⟨_, hx⟩
  obtain ⟨x, hx⟩ := hb1
  have h2 := hq.putb hx (k := 8) (Value.slice none 0 0)
  obtain ⟨σ3, h3, h4⟩ := Lse.own_down pieces_star h1 h2
  exact ⟨o, q, σ3, hb, h3, hw, h4⟩
end
end Go.Proofs.Ytgcefaikdplbkaa
