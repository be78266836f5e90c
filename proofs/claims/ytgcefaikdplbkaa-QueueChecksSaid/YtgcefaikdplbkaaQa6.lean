/- Contracts of layer 7, program: begin. -/
import Derived.Test.YtgcefaikdplbkaaQa5
namespace Go.Proofs.Ytgcefaikdplbkaa
open Go.RowKit

/-- a ride that is filled: the evening; who stays in the queue; who has given up; the seats that are left -/
structure Fl where
  N : Ngt
  stay : List (Int × Int)
  away : List Int
  seats : Int
def Ngt.cost (N : Ngt) (i : Int) (s : Int × Int) : Int := (N.pa s.1).g.size * (N.bo i).b.price
def Ngt.pays (N : Ngt) (i : Int) (s : Int × Int) : Ngt := N.setP s.1 { N.pa s.1 with purse := (N.pa s.1).purse - N.cost i s }
def Ngt.gets (N : Ngt) (i : Int) (s : Int × Int) : Ngt := (N.pays i s).setR i { N.bo i with takes := (N.bo i).takes + N.cost i s, on := (N.bo i).on ++ [s.1] }
def Fl.bad (S : Fl) (i : Int) (s : Int × Int) : Bool := decide ((S.N.bo i).b.seats < (S.N.pa s.1).g.size) || decide ((S.N.pa s.1).purse < S.N.cost i s)
def Fl.full (S : Fl) (s : Int × Int) : Bool := decide (S.seats < (S.N.pa s.1).g.size)
def Fl.out (S : Fl) (s : Int × Int) : Fl := { S with N := S.N.done s false, away := S.away ++ [s.1] }
def Fl.keep (S : Fl) (s : Int × Int) : Fl := { S with stay := S.stay ++ [s] }
def Fl.ride (S : Fl) (i : Int) (s : Int × Int) : Fl := { S with N := (S.N.gets i s).done s true, seats := S.seats - (S.N.pa s.1).g.size }
def fillS (i : Int) : List (Int × Int) → Fl → Fl
  | [], S => S
  | s :: q, S =>
    if S.bad i s = true then fillS i q (S.out s)
    else if S.full s = true then (if (S.N.bo i).b.fill = true then fillS i q (S.keep s) else { S with stay := S.stay ++ s :: q })
    else fillS i q (S.ride i s)
structure FlB (i : Int) (S : Fl) (s : Int × Int) (q : List (Int × Int)) : Prop where
  g0 : 0 ≤ s.1
  hg : s.1.toNat < S.N.parties.length
  hi : i.toNat < S.N.rides.length
  hz : 0 ≤ (S.N.pa s.1).g.size ∧ (S.N.pa s.1).g.size ≤ 1000
  hp : 0 ≤ (S.N.bo i).b.price ∧ (S.N.bo i).b.price ≤ 1000
  hs : -1000000 ≤ S.seats ∧ S.seats ≤ 1000000
  hu : -1000000000 ≤ (S.N.pa s.1).purse ∧ (S.N.pa s.1).purse ≤ 1000000000
  ht : -1000000000 ≤ (S.N.bo i).takes ∧ (S.N.bo i).takes ≤ 1000000000
  ho : (S.N.bo i).on.length ≤ 1000000
  ha : S.away.length ≤ 1000000
  hst : S.stay.length + q.length ≤ 1000000
/-- no step of it goes wrong -/
def FillOK (i : Int) : List (Int × Int) → Fl → Prop
  | [], _ => True
  | s :: q, S => FlB i S s q ∧
    (S.bad i s = true → S.N.Dne s.1 ∧ FillOK i q (S.out s)) ∧
    (S.bad i s = false → S.full s = true → (S.N.bo i).b.fill = true → FillOK i q (S.keep s)) ∧
    (S.bad i s = false → S.full s = false → (S.N.gets i s).Dne s.1 ∧ FillOK i q (S.ride i s))
def Ngt.shut (N : Ngt) (i : Int) : Bool := decide (0 < (N.bo i).on.length) || (decide (0 ≤ (N.bo i).ended) && decide (N.tick - (N.bo i).ended < (N.bo i).b.pause) || decide ((N.bo i).queue.length = 0))
def Ngt.fl0 (N : Ngt) (i : Int) : Fl := ⟨N.setR i { N.bo i with queue := [] }, [], [], (N.bo i).b.seats⟩
def Ngt.fl (N : Ngt) (i : Int) : Fl := fillS i (N.bo i).queue (N.fl0 i)
def Fl.back (S : Fl) (i : Int) : Ngt := S.N.setR i { S.N.bo i with queue := S.stay }
def Ngt.gone1 (N : Ngt) (i : Int) : Ngt := (N.fl i).away.foldl Ngt.next ((N.fl i).back i)
def Ngt.start (N : Ngt) (i : Int) : Ngt := if 0 < (N.bo i).on.length then N.setR i { N.bo i with begun := N.tick } else N
def Ngt.begin (N : Ngt) (i : Int) : Ngt := if N.shut i = true then N else (N.gone1 i).start i

section
variable {W : NW} {σ0 σ : Hp} {N : Ngt} {nr : Nat} {G : List Grp}
/-- the evening, and R on top of it -/
def NightO (W : NW) (R : Rel) (σ0 σ : Hp) (N : Ngt) : Prop := ∃ σa, NightR W σ0 σa N ∧ R σa σ
theorem NightO.sub {R : Rel} (hR : Port R) (h : NightO W R σ0 σ N) : Hp.Sub σ0 σ := let ⟨_, h1, h2⟩ := h; h1.sub.trans (hR.sub h2)
theorem NightO.nblk {R : Rel} (hR : Port R) (h : NightO W R σ0 σ N) : ∃ v : SL, σ W.nb = some (.cells (nightC W N v) 80 (0, 0), true) := by
  obtain ⟨σa, h1, h2⟩ := h
  obtain ⟨v, hv, _⟩ := h1.nblk
  exact ⟨v, hR.sub h2 _ _ hv⟩
theorem NightO.pblk {R : Rel} (hR : Port R) (h : NightO W R σ0 σ N) {g : Int} (hg : g.toNat < N.parties.length) : σ (W.pb g) = some (.cells (partyC (W.ws g.toNat) (N.pa g)) 60 (0, 0), true) := by
  obtain ⟨σa, h1, h2⟩ := h
  exact hR.sub h2 _ _ (h1.pblk hg)
theorem NightO.rblk {R : Rel} (hR : Port R) (h : NightO W R σ0 σ N) {i : Int} (hi : i.toNat < N.rides.length) : ∃ o q : SL, σ (W.rb i) = some (.cells (boothC (N.bo i) o q) 73 (0, 0), true) ∧ RdS [.int .i64] σ o.A o.n (N.bo i).on ∧ RdS sQ σ q.A q.n (N.bo i).queue := by
  obtain ⟨σa, h1, h2⟩ := h
  obtain ⟨o, q, hb, h3, h4⟩ := h1.rblk hi
  exact ⟨o, q, hR.sub h2 _ _ hb, h3.sub (hR.sub h2), h4.sub (hR.sub h2)⟩
theorem wr_sub {σ σ' : Hp} {a : Addr} (h : σ.wr a) (hs : Hp.Sub σ σ') : σ'.wr a := let ⟨c, e, hb, h1, h2⟩ := h; ⟨c, e, hs _ _ hb, h1, h2⟩
theorem NightO.stP {R : Rel} (hR : Port R) (h : NightO W R σ0 σ N) {g : Int} (hg : g.toNat < N.parties.length) {k : Nat} {v : Value} {p' : Pty} (hk : k < 9) (hc : partyC (W.ws g.toNat) p' = (partyC (W.ws g.toNat) (N.pa g)).setIfInBounds k v) :
    σ.wr ⟨W.pb g, k, none⟩ ∧ NightO W R σ0 (σ.put ⟨W.pb g, k, none⟩ v) (N.setP g p') := by
  obtain ⟨σa, h1, h2⟩ := h
  obtain ⟨w, h3⟩ := h1.stP hg hk hc
  exact ⟨wr_sub w (hR.sub h2), _, h3, Port.put hR h2 (h1.pblk hg) v⟩
theorem NightO.stR {R : Rel} (hR : Port R) (h : NightO W R σ0 σ N) {i : Int} (hi : i.toNat < N.rides.length) {k : Nat} {v : Value} {r' : Bth} (hk : k < 11) (e1 : r'.on = (N.bo i).on) (e2 : r'.queue = (N.bo i).queue) (hc : ∀ o q, boothC r' o q = (boothC (N.bo i) o q).setIfInBounds k v) :
    σ.wr ⟨W.rb i, k, none⟩ ∧ NightO W R σ0 (σ.put ⟨W.rb i, k, none⟩ v) (N.setR i r') := by
  obtain ⟨σa, h1, h2⟩ := h
  obtain ⟨w, h3⟩ := h1.stR hi hk e1 e2 hc
  obtain ⟨o, q, hb, _⟩ := h1.rblk hi
  exact ⟨wr_sub w (hR.sub h2), _, h3, Port.put hR h2 hb v⟩
theorem NightO.ons {R : Rel} (hR : Port R) (h : NightO W R σ0 σ N) {i : Int} (hi : i.toNat < N.rides.length) : ∃ (o q : SL) (σ1 : Hp), σ (W.rb i) = some (.cells (boothC (N.bo i) o q) 73 (0, 0), true) ∧ OwnSl 3 [.int .i64] σ1 o.A o.n o.c (N.bo i).on σ ∧
    ∀ (xs : List Int) (s : SL) (σ2 : Hp), OwnSl 3 [.int .i64] σ1 s.A s.n s.c xs σ2 → σ2.wr ⟨W.rb i, 5, none⟩ ∧ NightO W R σ0 (σ2.put ⟨W.rb i, 5, none⟩ s.v) (N.setR i { N.bo i with on := xs }) := by
  obtain ⟨σa, h1, h2⟩ := h
  obtain ⟨o, q, σ1, hb, ho, hk⟩ := h1.ons hi
  obtain ⟨σ1', h3, h4⟩ := Port.swap (R := fun σ σ' => OwnSl 3 [.int .i64] σ o.A o.n o.c (N.bo i).on σ') Port.own hR ho h2
  refine ⟨o, q, σ1', hR.sub h2 _ _ hb, h4, fun xs s σ2 h5 => ?_⟩
  obtain ⟨σ3, h6, h7⟩ := Port.swap (S := fun σ σ' => OwnSl 3 [.int .i64] σ s.A s.n s.c xs σ') hR Port.own h3 h5
  obtain ⟨w, h8⟩ := hk xs s σ3 h6
  have w' := w
  obtain ⟨c, e, hb', _⟩ := w'
  exact ⟨wr_sub w (hR.sub h7), _, h8, Port.put hR h7 hb' _⟩
theorem lO_done {R : Rel} (hR : Port R) (hS : NSt W σ0 nr G) (hN : N.stat nr G) (h : NightO W R σ0 σ N) {g came : Int} {on : Bool} (hg : N.Dne g) {K : Value → Hp → Prop} (hk : ∀ v σ', NightO W R σ0 σ' (N.done (g, came) on) → K v σ') : cl Try.prog (.func (.func N_queue_night_done) #[] #[]) #[.pointer (some ⟨W.nb, 0, none⟩), .agg #[.int .i64 g, .int .i64 came], .bool on] σ K := by
  obtain ⟨σa, h1, h2⟩ := h
  refine FFun.mono (cl.over hR (l_done hS hN h1 hg (K := fun _ σ' => NightR W σ0 σ' (N.done (g, came) on)) fun _ _ h => h) h2) ?_
  rintro v σ' ⟨σa', h3, h4⟩
  exact hk v σ' ⟨σa', h3, h4⟩

/-- two lists -/
def TwoR (s : SL) (stay : List (Int × Int)) (a : SL) (away : List Int) : Rel := Rel.seq (fun σ σ' => OwnSl 90 sQ σ s.A s.n s.c stay σ') (fun σ σ' => OwnSl 3 [.int .i64] σ a.A a.n a.c away σ')
theorem Port.two {s a : SL} {stay : List (Int × Int)} {away : List Int} : Port (TwoR s stay a away) := Port.seq Port.own Port.own
theorem NightO.away {s a : SL} {stay : List (Int × Int)} {away : List Int} (h : NightO W (TwoR s stay a away) σ0 σ N) : ∃ σ1, OwnSl 3 [.int .i64] σ1 a.A a.n a.c away σ ∧ ∀ (a' : SL) (xs : List Int) σ2, OwnSl 3 [.int .i64] σ1 a'.A a'.n a'.c xs σ2 → NightO W (TwoR s stay a' xs) σ0 σ2 N := by
  obtain ⟨σa, h1, σ1, h2, h3⟩ := h
  exact ⟨σ1, h3, fun a' xs σ2 h4 => ⟨σa, h1, σ1, h2, h4⟩⟩
theorem NightO.stay {s a : SL} {stay : List (Int × Int)} {away : List Int} (h : NightO W (TwoR s stay a away) σ0 σ N) : ∃ σ1, OwnSl 90 sQ σ1 s.A s.n s.c stay σ ∧ ∀ (s' : SL) (xs : List (Int × Int)) σ2, OwnSl 90 sQ σ1 s'.A s'.n s'.c xs σ2 → NightO W (TwoR s' xs a away) σ0 σ2 N := by
  obtain ⟨σa, h1, σ1, h2, h3⟩ := h
  obtain ⟨σ2, h4, h5⟩ := h2.swap h3
  refine ⟨σ2, h5, fun s' xs σ3 h6 => ?_⟩
  obtain ⟨σ4, h7, h8⟩ := h4.swap h6
  exact ⟨σa, h1, σ4, h7, h8⟩

theorem Ngt.gets_eq {N : Ngt} {i : Int} {s : Int × Int} : (N.pays i s).setR i { (N.pays i s).bo i with takes := ((N.pays i s).bo i).takes + N.cost i s, on := ((N.pays i s).bo i).on ++ [s.1] } = N.gets i s := rfl

set_option maxRecDepth 20000 in
theorem c_begin (hS : NSt W σ0 nr G) (hN : N.stat nr G) (h : NightR W σ0 σ N) {i : Int} (i0 : 0 ≤ i) (hi : i.toNat < N.rides.length)
    (hb : -1000000 ≤ (N.bo i).ended ∧ (N.bo i).ended ≤ 1000000) (ht : 0 ≤ N.tick ∧ N.tick ≤ 5000)
    (hf : N.shut i = false → FillOK i (N.bo i).queue (N.fl0 i)) (hql : (N.bo i).queue.length ≤ 1000000)
    (hal : (N.fl i).away.length ≤ 1000000) (hok : N.shut i = false → ∀ k, (hk : k < (N.fl i).away.length) → (((N.fl i).away.take k).foldl Ngt.next ((N.fl i).back i)).Nxt (N.fl i).away[k]) :
    FCalls Try.prog N_queue_night_begin #[.pointer (some ⟨W.nb, 0, none⟩), .int .i64 i] σ fun v σ' => v = .tuple #[] ∧ NightR W σ0 σ' (N.begin i) := by
  refine M_queue_night_begin_ok _ _ _ _ ?_
  unfold M_queue_night_begin
  have hS1 := hS.sub h.sub
  obtain ⟨vn, hnb, _⟩ := h.nblk
  obtain ⟨o, q, hrb, hro, hrq⟩ := h.rblk hi
  have hol := hro.lenI
  have hql' := hrq.lenQ
  refine dr_i (bldS hnb rfl (hS1.rix hN i0 hi (cut_intro fun J9 h9 => cut_intro fun J159 h159 => ?_)))
  have k9 : N.shut i = false → J9 σ := by
    intro hsh
    have hf := hf hsh
    have hok := hok hsh
    rw [h9]
    intro _
    obtain ⟨o, q, σq, hrb, hoq, hw8, h1⟩ := h.outQ hi
    refine dr_i (bldS hrb rfl (dr_i ⟨hw8, ?_⟩))
    show dr _ _
    have hSq := hS.sub hoq.sub
    have hN1 : (N.setR i { N.bo i with queue := [] }).stat nr G := hN.setR
    have hbo1 : (N.setR i { N.bo i with queue := [] }).bo i = { N.bo i with queue := [] } := by rw [Ngt.bo_setR hi, if_pos rfl]
    have hrq : RdS sQ σq q.A q.n (N.bo i).queue := hoq.RdQ
    have hqn := hrq.lenQ
    have hqc : q.n ≤ q.c := by
      rcases hoq with ⟨_, e1, e2, _⟩ | ⟨_, _, _, _, _, h, _⟩
      · omega
      · exact h
    have hi1 : i.toNat < (N.setR i { N.bo i with queue := [] }).rides.length := by show _ < (List.set _ _ _).length; rw [List.length_set]; exact hi
    obtain ⟨o1, q1, hrb1, _⟩ := h1.rblk hi1
    rw [hbo1] at hrb1
    have e0 : N.fl0 i = ⟨N.setR i { N.bo i with queue := [] }, [], [], (N.bo i).b.seats⟩ := rfl
    generalize σ.put ⟨W.rb i, 0 + 8, none⟩ (.slice none 0 0) = σ15 at *
    refine dr_i (bldI hrb1 rfl (cut_intro fun J21 h21 => ?_))
    have k21 : ∀ (A l c A' l' c') (τ : Hp), (N.fl i).N.stat nr G → i.toNat < (N.fl i).N.rides.length → NightO W (TwoR ⟨A, l, c⟩ (N.fl i).stay ⟨A', l', c'⟩ (N.fl i).away) σq τ (N.fl i).N → J21 A l c A' l' c' τ := by
      intro A l c A' l' c' τ hNf hif hτ
      rw [h21]
      intro _
      obtain ⟨σa, t1, σb, t2, t3⟩ := hτ
      obtain ⟨o2, q2, σ2, hb2, ho2, hk2⟩ := t1.que hif
      obtain ⟨σ3, u1, u2⟩ := OwnSl.swap ho2 t2
      obtain ⟨w1, w2⟩ := hk2 _ ⟨A, l, c⟩ σ3 u1
      have w1' := w1
      obtain ⟨cc, ee, hbb, _⟩ := w1'
      have s3 := u2.sub.trans t3.sub
      refine dr_i ⟨wr_sub w1 s3, ?_⟩
      have hback : (N.fl i).back i = (N.fl i).N.setR i { (N.fl i).N.bo i with queue := (N.fl i).stay } := rfl
      have hba : (N.fl i).N.setR i { (N.fl i).N.bo i with queue := (N.fl i).stay } = (N.fl i).back i := rfl
      rw [hba] at w2
      have hNb : ((N.fl i).back i).stat nr G := hNf.setR
      have hg1 : N.gone1 i = (N.fl i).away.foldl Ngt.next ((N.fl i).back i) := rfl
      have hbeg : N.begin i = (N.gone1 i).start i := by rw [Ngt.begin, if_neg (by rw [hsh]; simp)]
      have hlen : ((N.fl i).back i).rides.length = nr := hNb.1
      generalize (N.fl i).back i = Nb at *
      have p1 : NightR W σq (σb.put ⟨W.rb i, 8, none⟩ (SL.v ⟨A, l, c⟩)) Nb := w2.up (sub_put u2.sub hbb _)
      have p2 : OwnSl 3 [.int .i64] (σb.put ⟨W.rb i, 8, none⟩ (SL.v ⟨A, l, c⟩)) A' l' c' (N.fl i).away (τ.put ⟨W.rb i, 8, none⟩ (SL.v ⟨A, l, c⟩)) := t3.putb (u2.sub _ _ hbb) _
      obtain ⟨σq2, v1, v2⟩ := Lse.own_down pieces_star p1 p2
      change NightR W σq2 _ Nb at v2
      have hSq2 := hSq.sub v1.sub
      have hl := v1.RdI.lenI
      have hv1 := v1.RdI
      have hlow : Hp.Sub σ0 σq2 := hoq.sub.trans v1.sub
      generalize (N.fl i).away = aw at *
      show cut _ _
      refine cut_intro fun J29 h29 => ?_
      have k29 : ∀ τ', NightR W σq2 τ' (N.gone1 i) → (N.gone1 i).stat nr G → J29 τ' := by
        intro τ' hτ' hst'
        rw [h29]
        intro _
        have hi' : i.toNat < (N.gone1 i).rides.length := by rw [hst'.1, ← hN.1]; exact hi
        obtain ⟨o3, q3, hb3, hro3, _⟩ := hτ'.rblk hi'
        obtain ⟨v3, hn3, _⟩ := hτ'.nblk
        have hl3 := hro3.lenI
        refine dr_i (bldS hb3 rfl (bc_d (fun e => ?_) (fun e => ?_)))
        · refine dr_i (bldI hn3 rfl (dr_i ?_))
          obtain ⟨x1, x2⟩ := hτ'.stR hi' (k := 6) (v := .int .i64 (N.gone1 i).tick) (r' := { (N.gone1 i).bo i with begun := (N.gone1 i).tick }) (by omega) rfl rfl fun _ _ => rfl
          refine ⟨x1, rt_of ⟨rfl, ?_⟩⟩
          rw [hbeg, Ngt.start, if_pos (by omega)]
          exact x2.low hlow
        · refine rt_of ⟨rfl, ?_⟩
          rw [hbeg, Ngt.start, if_neg (by omega)]
          exact hτ'.low hlow
      have hstk : ∀ k, ((aw.take k).foldl Ngt.next Nb).stat nr G := fun k => foldl_stat (fun N g h => N.next_stat h g) _ _ hNb
      refine ⟨fun w j τ' => ∃ k : Nat, w = aw.length - k ∧ j = k ∧ k ≤ aw.length ∧ NightR W σq2 τ' ((aw.take k).foldl Ngt.next Nb), ⟨_, 0, rfl, rfl, by omega, v2⟩, ?_⟩
      rintro w j τ' ⟨k, rfl, rfl, hk, hτ'⟩ _
      refine bc_d (fun hlt => ?_) (fun hlt => ?_)
      · have hkl : k < aw.length := by omega
        refine gixg (hv1.sub hτ'.sub) (by omega) (by omega) ?_
        rw [gt_nat hkl]
        refine l_next hSq2 (hstk k) hτ' (hok k hkl) fun v σ8 h8 => ?_
        refine wk_i (by omega) (bk_of _ (by omega) ⟨k + 1, rfl, by omega, by omega, ?_⟩)
        rw [take_fold hkl]
        exact h8
      · have : k = aw.length := by omega
        subst this
        have hs := hstk aw.length
        rw [List.take_length] at hτ' hs
        rw [← hg1] at hτ' hs
        exact k29 _ hτ' hs
    have efl : fillS i (N.bo i).queue (N.fl0 i) = N.fl i := rfl
    refine ⟨fun w A l c A' l' c' seats j τ => ∃ (k : Nat) (S : Fl), w = (N.bo i).queue.length - k ∧ j = k ∧ k ≤ (N.bo i).queue.length ∧ seats = S.seats ∧ FillOK i ((N.bo i).queue.drop k) S ∧ fillS i ((N.bo i).queue.drop k) S = N.fl i ∧ S.N.stat nr G ∧ NightO W (TwoR ⟨A, l, c⟩ S.stay ⟨A', l', c'⟩ S.away) σq τ S.N,
      ⟨_, 0, N.fl0 i, rfl, rfl, by omega, rfl, hf, efl, hN1, σ15, h1, σ15, OwnSl.nil .., OwnSl.nil ..⟩, ?_⟩
    rintro w A l c A' l' c' seats j τ ⟨k, S, rfl, rfl, hk, rfl, hfk, hfs, hst, hτ⟩ _
    have hSi : i.toNat < S.N.rides.length := by rw [hst.1, ← hN.1]; exact hi
    refine bc_d (fun hlt => ?_) (fun hlt => ?_)
    · have hkl : k < (N.bo i).queue.length := by omega
      have hdr := List.drop_eq_getElem_cons hkl
      have hsub := hτ.sub Port.two
      have hSτ := hSq.sub hsub
      refine cut_intro fun J62 h62 => ?_
      have k62 : ∀ (A l c A' l' c') (S' : Fl) (τ' : Hp), FillOK i ((N.bo i).queue.drop (k + 1)) S' → fillS i ((N.bo i).queue.drop (k + 1)) S' = N.fl i → S'.N.stat nr G → NightO W (TwoR ⟨A, l, c⟩ S'.stay ⟨A', l', c'⟩ S'.away) σq τ' S'.N → J62 A l c A' l' c' S'.seats τ' := by
        intro A l c A' l' c' S' τ' hf' he' hst' hτ'
        rw [h62]
        intro _
        exact wk_i (by omega) (bk_of _ (by omega) ⟨k + 1, S', rfl, by omega, by omega, rfl, hf', he', hst', hτ'⟩)
      rw [hdr] at hfk hfs
      have hrest : ((N.bo i).queue.drop k).length = (N.bo i).queue.length - k := List.length_drop ..
      refine qix (hrq.sub hsub) (by omega) (by omega) ?_
      rw [qt_nat hkl]
      have hdl : (N.bo i).queue.drop k = (N.bo i).queue[k] :: (N.bo i).queue.drop (k + 1) := hdr
      generalize (N.bo i).queue[k] = s at *
      obtain ⟨fb, f1, f2, f3⟩ := hfk
      have hmu := Int.mul_nonneg fb.hz.1 fb.hp.1
      have hmu2 : (S.N.pa s.1).g.size * (S.N.bo i).b.price ≤ 1000 * 1000 := Int.mul_le_mul fb.hz.2 fb.hp.2 fb.hp.1 (by omega)
      obtain ⟨hz1, hz2⟩ := fb.hz
      obtain ⟨hs1, hs2⟩ := fb.hs
      obtain ⟨hu1, hu2⟩ := fb.hu
      obtain ⟨ht1, ht2⟩ := fb.ht
      obtain ⟨v4, hn4⟩ := hτ.nblk Port.two
      have hp4 := hτ.pblk Port.two fb.hg
      obtain ⟨o4, q4, hr4, _⟩ := hτ.rblk Port.two hSi
      refine dr_i (bldS hn4 rfl (hSτ.pix hst fb.g0 fb.hg (dr_i (bldI hp4 rfl (dr_i (bldI hr4 rfl (wk_i (by omega) (cut_intro fun J88 h88 => ?_))))))))
      have k88 : ∀ t, t = S.bad i s → J88 t τ := by
        rintro t rfl
        rw [h88]
        intro _
        refine bc_b (fun hbad => ?_) (fun hbad => ?_)
        · obtain ⟨d1, d2⟩ := f1 hbad
          refine lO_done Port.two hSq hst hτ d1 fun v σ9 h9 => ?_
          obtain ⟨σ10, o10, hk10⟩ := h9.away
          have hal := fb.ha
          refine adp_own o10 (roomy_i (by show S.away.length + 1 ≤ _; omega) ?_)
          intro A94 l94 c94 σ95 o95
          refine k62 A l c A94 l94 c94 (S.out s) σ95 d2 ?_ (Ngt.done_stat hst _ _) (hk10 ⟨A94, l94, c94⟩ _ _ o95)
          rw [← hfs, fillS, if_pos hbad]
        · refine cut_intro fun J98 h98 => ?_
          have k98 : ∀ t, t = (S.full s && !(S.N.bo i).b.fill) → J98 t τ := by
            rintro t rfl
            rw [h98]
            intro _
            have hst' := fb.hst
            refine bc_b (fun hx => ?_) (fun hx => ?_)
            · rw [Bool.and_eq_true, Bool.not_eq_true'] at hx
              obtain ⟨σ10, o10, hk10⟩ := hτ.stay
              refine ⟨by omega, by omega, adp_own o10 ⟨(N.bo i).queue.drop k, ?_, roomy_i (by show S.stay.length + ((N.bo i).queue.drop k).length ≤ _; rw [hdl, List.length_cons]; omega) ?_⟩⟩
              · simp only [Int.toNat_natCast]
                have hsub10 : Hp.Sub σq σ10 := by
                  obtain ⟨σ11, y1, σ12, y2, y3⟩ := hk10 ⟨none, 0, 0⟩ [] σ10 (OwnSl.nil ..)
                  exact y1.sub.trans (y2.sub.trans y3.sub)
                have hrq' := hrq.sub hsub10
                refine ⟨by show _ = ((N.bo i).queue.drop k).length; rw [hrest]; omega, ?_⟩
                rcases hrq'.2 with h0 | ⟨b, off, cells, e, f, rw', hA, hbb, hrow⟩
                · omega
                · rw [if_neg (by omega), hA]
                  refine .inr ⟨b, off + k * sQ.length, cells, e, f, rw', ?_, hbb, hrow.drop k⟩
                  show some (Addr.add ⟨b, off, none⟩ (k * 2)) = _
                  rw [addr_add]
                  rfl
              · intro A103 l103 c103 σ104 o104
                have e5 : N.fl i = { S with stay := S.stay ++ (N.bo i).queue.drop k } := by
                  rw [← hfs, fillS, if_neg (by rw [hbad]; simp), if_pos hx.1, if_neg (by rw [hx.2]; simp), ← hdl]
                refine k21 _ _ _ _ _ _ _ (by rw [e5]; exact hst) (by rw [e5]; exact hSi) ?_
                rw [e5]
                exact hk10 ⟨A103, l103, c103⟩ _ _ o104
            · refine dr_i (bldI hp4 rfl (bc_d (fun hfu => ?_) (fun hfu => ?_)))
              · have hfull : S.full s = true := decide_eq_true hfu
                have hfill : (S.N.bo i).b.fill = true := by rw [hfull] at hx; simpa using hx
                have d2 := f2 hbad hfull hfill
                obtain ⟨σ10, o10, hk10⟩ := hτ.stay
                refine adp_own o10 (roomy_i (by show S.stay.length + 1 ≤ _; omega) ?_)
                intro A110 l110 c110 σ111 o111
                refine k62 A110 l110 c110 A' l' c' (S.keep s) σ111 d2 ?_ hst (hk10 ⟨A110, l110, c110⟩ _ _ o111)
                rw [← hfs, fillS, if_neg (by rw [hbad]; simp), if_pos hfull, if_pos hfill]
              · have hfull : S.full s = false := decide_eq_false hfu
                obtain ⟨d1, d2⟩ := f3 hbad hfull
                refine dr_i (bldI hp4 rfl (wk_i (by omega) (dr_i (bldI hp4 rfl (wk_i (by omega) (dr_i ?_))))))
                obtain ⟨x1, x2⟩ := hτ.stP Port.two fb.hg (k := 6) (v := .int .i64 ((S.N.pa s.1).purse - (S.N.pa s.1).g.size * (S.N.bo i).b.price)) (p' := { S.N.pa s.1 with purse := (S.N.pa s.1).purse - S.N.cost i s }) (by omega) rfl
                refine ⟨x1, ?_⟩
                have hst1 : (S.N.pays i s).stat nr G := hst.setP rfl
                change NightO W _ σq _ (S.N.pays i s) at x2
                have hSi1 : i.toNat < (S.N.pays i s).rides.length := hSi
                obtain ⟨o5, q5, hr5, _⟩ := x2.rblk Port.two hSi1
                refine dr_i (bldI hr5 rfl (wk_i (by show _ ≤ (S.N.bo i).takes + _ ∧ (S.N.bo i).takes + _ ≤ _; omega) (dr_i ?_)))
                obtain ⟨y1, y2⟩ := x2.stR Port.two hSi1 (k := 9) (v := .int .i64 ((S.N.bo i).takes + (S.N.pa s.1).g.size * (S.N.bo i).b.price)) (r' := { S.N.bo i with takes := (S.N.bo i).takes + S.N.cost i s }) (by omega) rfl rfl fun _ _ => rfl
                refine ⟨y1, ?_⟩
                have hSi2 : i.toNat < ((S.N.pays i s).setR i { S.N.bo i with takes := (S.N.bo i).takes + S.N.cost i s }).rides.length := by show _ < (List.set _ _ _).length; rw [List.length_set]; exact hSi
                obtain ⟨o6, q6, σ12, hr6, o12, hk12⟩ := y2.ons Port.two hSi2
                have hb6 : ((S.N.pays i s).setR i { S.N.bo i with takes := (S.N.bo i).takes + S.N.cost i s }).bo i = { S.N.bo i with takes := (S.N.bo i).takes + S.N.cost i s } := by rw [Ngt.bo_setR hSi1, if_pos rfl]
                have hol := fb.ho
                refine dr_i (bldS hr6 rfl (adp_own o12 (roomy_i (by rw [hb6]; show (S.N.bo i).on.length + 1 ≤ _; omega) (dr_i ?_))))
                intro A137 l137 c137 σ138 o138
                obtain ⟨z1, z2⟩ := hk12 _ ⟨A137, l137, c137⟩ _ o138
                refine ⟨z1, ?_⟩
                rw [hb6, Ngt.setR_setR] at z2
                have eg : (S.N.pays i s).setR i { S.N.bo i with takes := (S.N.bo i).takes + S.N.cost i s, on := (S.N.bo i).on ++ [s.1] } = S.N.gets i s := rfl
                change NightO W _ σq _ (S.N.gets i s) at z2
                have hst2 : (S.N.gets i s).stat nr G := hst1.setR
                refine lO_done Port.two hSq hst2 z2 d1 fun v σ9 h9 => ?_
                refine k62 A l c A' l' c' (S.ride i s) σ9 d2 ?_ (Ngt.done_stat hst2 _ _) h9
                rw [← hfs, fillS, if_neg (by rw [hbad]; simp), if_neg (by rw [hfull]; simp)]
          refine dr_i (bldI hp4 rfl (bc_d (fun hfu => dr_i (bldB hr4 rfl (k98 _ ?_))) (fun hfu => k98 _ ?_)))
          · rw [Fl.full, decide_eq_true hfu, Bool.true_and]
          · rw [Fl.full, decide_eq_false hfu, Bool.false_and]
      refine dr_i (bldI hp4 rfl (dr_i (bldI hr4 rfl (bc_d (fun hlt2 => k88 _ ?_) (fun hlt2 => dr_i (bldI hp4 rfl (k88 _ ?_)))))))
      · rw [Fl.bad, decide_eq_true hlt2, Bool.true_or]
      · rw [Fl.bad, decide_eq_false hlt2, Bool.false_or]
        rfl
    · have : k = (N.bo i).queue.length := by omega
      subst this
      rw [List.drop_length, fillS] at hfs
      refine k21 _ _ _ _ _ _ _ (by rw [← hfs]; exact hst) (by rw [← hfs]; exact hSi) ?_
      rw [← hfs]
      exact hτ
  have k159 : ∀ t, t = N.shut i → J159 t σ := by
    rintro t rfl
    rw [h159]
    intro _
    refine bc_b (fun hsh => rt_of ⟨rfl, ?_⟩) (fun hsh => k9 hsh)
    rw [Ngt.begin, if_pos hsh]
    exact h
  have hqe : decide (((q.n : Nat) : Int) = 0) = decide ((N.bo i).queue.length = 0) := by rw [hql']; exact decide_eq_decide.2 (by omega)
  refine dr_i (bldS hrb rfl (bc_d (fun h0 => k159 _ ?_) (fun h0 => dr_i (bldI hrb rfl (bc_d (fun h1 => ?_) (fun h1 => dr_i (bldS hrb rfl (k159 _ ?_))))))))
  · unfold Ngt.shut
    rw [decide_eq_true (show 0 < (N.bo i).on.length by omega), Bool.true_or]
  · refine dr_i (bldI hnb rfl (dr_i (bldI hrb rfl (wk_i (by omega) (dr_i (bldI hrb rfl (bc_d (fun h2 => k159 _ ?_) (fun h2 => dr_i (bldS hrb rfl (k159 _ ?_))))))))))
    · unfold Ngt.shut
      rw [decide_eq_false (show ¬ 0 < (N.bo i).on.length by omega), decide_eq_true h1, decide_eq_true h2]
      rfl
    · unfold Ngt.shut
      rw [decide_eq_false (show ¬ 0 < (N.bo i).on.length by omega), decide_eq_true h1, decide_eq_false h2, hqe]
      simp
  · unfold Ngt.shut
    rw [decide_eq_false (show ¬ 0 < (N.bo i).on.length by omega), decide_eq_false h1, hqe]
    simp
end
end Go.Proofs.Ytgcefaikdplbkaa
