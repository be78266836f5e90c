/- Trimmed by wip/trim.py to what this claim rests on. -/
import Derived.Test.YtecodlefcmjihaaGreatWQb10
namespace Go.Proofs.YtecodlefcmjihaaGreat
open Go.RowKit
def okB (b : BthG) : Bool := decide (1 ≤ b.seats ∧ b.seats ≤ 40) && (decide (0 ≤ b.price ∧ b.price ≤ 100) && (decide (1 ≤ b.cycle ∧ b.cycle ≤ 100) && decide (0 ≤ b.pause ∧ b.pause ≤ 100)))
def LO (w : Int) (B : List BthG) : Bool := decide (B.length ≤ 8) && (decide (0 ≤ w ∧ w ≤ 100) && (List.range B.length).all fun k => okB (bd B k))
def okW (m : Nat) (x : Int) : Bool := decide (0 ≤ x ∧ x ≤ (m : Int) - 1)
def okG (m : Nat) (g : Grp) : Bool := decide (0 ≤ g.came ∧ g.came ≤ 2000) && (decide (1 ≤ g.size ∧ g.size ≤ 40) && (decide (0 ≤ g.tokens ∧ g.tokens ≤ 10000) && (decide (0 ≤ g.patience ∧ g.patience ≤ 2000) && (decide (g.wants.length ≤ 10) && (List.range g.wants.length).all fun j => okW m (gt g.wants j)))))
def L4 (w : Int) (B : List BthG) (G : List Grp) : Int := if LO w B = false then 70 else if 60 < G.length then 71 else if ((List.range G.length).all fun k => okG B.length (gd G k)) = false then 71 else 0
theorem LV {n : Nat} {p : Nat → Bool} (h : ((List.range n).all p) = true) {k : Nat} (hk : k < n) : p k = true := List.all_eq_true.1 h k (List.mem_range.2 hk)
theorem K5 {w : Int} {B : List BthG} {G : List Grp} (h : L4 w B G = 0) : Val w B G := by
  unfold L4 at h
  split at h
  · omega
  · rename_i h1
    split at h
    · omega
    · rename_i h2
      split at h
      · omega
      · rename_i h3
        have h1 : LO w B = true := by simpa using h1
        have h3 : ((List.range G.length).all fun k => okG B.length (gd G k)) = true := by simpa using h3
        unfold LO at h1
        rw [Bool.and_eq_true, Bool.and_eq_true, decide_eq_true_eq, decide_eq_true_eq] at h1
        obtain ⟨a1, a2, a3⟩ := h1
        refine ⟨a2, a1, fun b hb => ?_, by omega, fun g hg => ?_⟩
        · obtain ⟨i, hi, rfl⟩ := List.getElem_of_mem hb
          have := LV a3 hi
          have e1 : bd B i = B[i] := by unfold bd; simp [List.getD, hi]
          rw [e1] at this
          unfold okB at this
          simp only [Bool.and_eq_true, decide_eq_true_eq] at this
          exact this
        · obtain ⟨i, hi, rfl⟩ := List.getElem_of_mem hg
          have := LV h3 hi
          have e1 : gd G i = G[i] := by unfold gd; simp [List.getD, hi]
          rw [e1] at this
          unfold okG at this
          simp only [Bool.and_eq_true, decide_eq_true_eq] at this
          obtain ⟨b1, b2, b3, b4, b5, b6⟩ := this
          refine ⟨b1, b2, b3, b5, b4, fun x hx => ?_⟩
          obtain ⟨j, hj, rfl⟩ := List.getElem_of_mem hx
          have := LV b6 hj
          rw [Cd hj] at this
          unfold okW at this
          have := of_decide_eq_true this
          omega
theorem Vh {n : Nat} {p : Nat → Bool} : (List.range (n + 1)).all p = ((List.range n).all p && p n) := by
  rw [List.range_succ, List.all_append]
  simp
theorem Uk {n : Nat} {p : Nat → Bool} : (List.range (n + 1)).any p = ((List.range n).any p || p n) := by
  rw [List.range_succ, List.any_append]
  simp
theorem FA {n k : Nat} {p : Nat → Bool} (hk : k < n) (h : p k = true) : (List.range n).any p = true := List.any_eq_true.2 ⟨k, List.mem_range.2 hk, h⟩
theorem GS {n : Nat} {p : Nat → Bool} (h : ∀ k, k < n → p k = false) : (List.range n).any p = false := by
  cases e : (List.range n).any p with
  | false => rfl
  | true =>
    obtain ⟨k, hk, hp⟩ := List.any_eq_true.1 e
    rw [h k (List.mem_range.1 hk)] at hp
    cases hp
theorem IT {n : Nat} {p : Nat → Bool} : (List.range n).any (fun k => !p k) = !(List.range n).all p := by
  induction n with
  | zero => rfl
  | succ n ih => rw [Uk, Vh, ih]; cases (List.range n).all p <;> cases p n <;> rfl
section
variable {σ : Hp} {w : Int} {r l : SL} {B : List BthG} {ws : Nat → SL} {G : List Grp}
theorem Vj {n lo hi : Int} : Al Tryz.prog Iv #[.int .i64 n, .int .i64 lo, .int .i64 hi] σ fun v σ' => v = .bool (decide (lo ≤ n ∧ n ≤ hi)) ∧ σ' = σ := by
  refine KD _ _ _ _ _ ?_
  unfold Fp
  refine AK (fun h => Az ⟨?_, rfl⟩) (fun h => Az ⟨?_, rfl⟩)
  · rw [decide_eq_decide.2 (show n ≤ hi ↔ lo ≤ n ∧ n ≤ hi from ⟨fun h' => ⟨h, h'⟩, fun h' => h'.2⟩)]
  · rw [decide_eq_false fun h' => h h'.1]
theorem OB {n lo hi : Int} {K : Bool → Hp → Prop} (h : K (decide (lo ≤ n ∧ n ≤ hi)) σ) : cl Tryz.prog (.func (.func Iv) #[] #[]) #[.int .i64 n, .int .i64 lo, .int .i64 hi] σ fun v σ' => ∃ t : Bool, (v = .bool t ∧ K t σ') := clB IV Vj h
theorem Qv {A : Option Addr} {n c : Nat} {xs : List Int} {f : Value} {p : Nat → Bool} (hx : RdS [.int .i64] σ A n xs) (hl : xs.length ≤ 4294967296)
    (hf : ∀ k, k < xs.length → cl Tryz.prog f #[.int .i64 (gt xs k)] σ fun v σ' => v = .bool (p k) ∧ σ' = σ) :
    Al Tryz.prog HL #[.slice A n c, f] σ fun v σ' => ∃ j : Int, v = .int .i64 j ∧ decide (0 ≤ j) = (List.range xs.length).any p ∧ σ' = σ := by
  refine F1 _ _ _ _ _ _ ?_
  unfold Ch
  have hn := hx.lenI
  refine Aj fun J3 h3 => ?_
  refine ⟨fun m i τ => ∃ k : Nat, m = xs.length - k ∧ i = k ∧ k ≤ xs.length ∧ τ = σ ∧ ∀ j, j < k → p j = false, ⟨_, 0, rfl, rfl, by omega, rfl, fun j h => by omega⟩, ?_⟩
  rintro m i τ ⟨k, rfl, rfl, hk, rfl, hj⟩ _
  refine AK (fun hlt => ?_) (fun hlt => ?_)
  · have hkl : k < xs.length := by omega
    refine Gr hx (by omega) (by omega) (D2.mono (hf k hkl) ?_)
    rintro _ _ ⟨rfl, rfl⟩
    refine ⟨_, rfl, El (fun hp => Az ⟨k, rfl, ?_, rfl⟩) (fun hp => AJ (by omega) (Bb _ (by omega) ⟨k + 1, rfl, by omega, by omega, rfl, fun j hjk => ?_⟩))⟩
    · rw [FA hkl hp, decide_eq_true (by omega)]
    · rcases Nat.lt_or_ge j k with h1 | h1
      · exact hj j h1
      · have : j = k := by omega
        subst this; exact hp
  · have : k = xs.length := by omega
    subst this
    rw [h3]
    intro _
    refine Az ⟨-1, rfl, ?_, rfl⟩
    rw [GS fun j h => hj j h]
    rfl
theorem Ff {A : Option Addr} {n c : Nat} {xs : List Int} {f : Value} {p : Nat → Bool} (hx : RdS [.int .i64] σ A n xs) (hl : xs.length ≤ 4294967296)
    (hf : ∀ k, k < xs.length → cl Tryz.prog f #[.int .i64 (gt xs k)] σ fun v σ' => v = .bool (p k) ∧ σ' = σ) :
    Al Tryz.prog F0 #[.slice A n c, f] σ fun v σ' => v = .bool ((List.range xs.length).any p) ∧ σ' = σ := by
  refine EI _ _ _ _ _ _ ?_
  unfold B2
  refine AM ES (Qv hx hl hf) ?_
  rintro _ _ ⟨j, rfl, hj, rfl⟩
  exact ⟨_, rfl, Az ⟨by rw [hj], rfl⟩⟩
theorem LR {f : Value} {p : Nat → Bool} (hr : EvR σ r B l ws G) (hl : B.length ≤ 4294967296)
    (hf : ∀ k, (hk : k < B.length) → cl Tryz.prog f #[.agg #[.int .i64 B[k].seats, .int .i64 B[k].price, .int .i64 B[k].cycle, .int .i64 B[k].pause, .bool B[k].fill]] σ fun v σ' => v = .bool (p k) ∧ σ' = σ) :
    Al Tryz.prog Ec #[r.v, f] σ fun v σ' => v = .bool ((List.range B.length).any p) ∧ σ' = σ := by
  refine Dk _ _ _ _ _ _ ?_
  unfold Bv
  have hn := hr.lenR
  have : Al Tryz.prog EV #[.slice r.A r.n r.c, f] σ fun v σ' => ∃ j : Int, v = .int .i64 j ∧ decide (0 ≤ j) = (List.range B.length).any p ∧ σ' = σ := by
    refine Ed _ _ _ _ _ _ ?_
    unfold BS
    refine Aj fun J3 h3 => ?_
    refine ⟨fun m i τ => ∃ k : Nat, m = B.length - k ∧ i = k ∧ k ≤ B.length ∧ τ = σ ∧ ∀ j, j < k → p j = false, ⟨_, 0, rfl, rfl, by omega, rfl, fun j h => by omega⟩, ?_⟩
    rintro m i τ ⟨k, rfl, rfl, hk, rfl, hj⟩ _
    refine AK (fun hlt => ?_) (fun hlt => ?_)
    · have hkl : k < B.length := by omega
      refine hr.ride hkl fun b o c0 c1 c2 c3 c4 => ?_
      refine ⟨_, c0, _, c1, _, c2, _, c3, _, c4, D2.mono (hf k hkl) ?_⟩
      rintro _ _ ⟨rfl, rfl⟩
      refine ⟨_, rfl, El (fun hp => Az ⟨k, rfl, ?_, rfl⟩) (fun hp => AJ (by omega) (Bb _ (by omega) ⟨k + 1, rfl, by omega, by omega, rfl, fun j hjk => ?_⟩))⟩
      · rw [FA hkl hp, decide_eq_true (by omega)]
      · rcases Nat.lt_or_ge j k with h1 | h1
        · exact hj j h1
        · have : j = k := by omega
          subst this; exact hp
    · have : k = B.length := by omega
      subst this
      rw [h3]
      intro _
      refine Az ⟨-1, rfl, ?_, rfl⟩
      rw [GS fun j h => hj j h]
      rfl
  refine AM Dm this ?_
  rintro _ _ ⟨j, rfl, hj, rfl⟩
  exact ⟨_, rfl, Az ⟨by rw [hj], rfl⟩⟩
theorem L5 {f : Value} {p : Nat → Bool} (hr : EvR σ r B l ws G) (hl : G.length ≤ 4294967296)
    (hf : ∀ k, (hk : k < G.length) → cl Tryz.prog f #[.agg #[.int .i64 G[k].came, .int .i64 G[k].size, .int .i64 G[k].tokens, (ws k).v, .int .i64 G[k].patience]] σ fun v σ' => v = .bool (p k) ∧ σ' = σ) :
    Al Tryz.prog D9 #[l.v, f] σ fun v σ' => v = .bool ((List.range G.length).any p) ∧ σ' = σ := by
  refine DA _ _ _ _ _ _ ?_
  unfold Bu
  have hn := hr.lenL
  have : Al Tryz.prog EY #[.slice l.A l.n l.c, f] σ fun v σ' => ∃ j : Int, v = .int .i64 j ∧ decide (0 ≤ j) = (List.range G.length).any p ∧ σ' = σ := by
    refine Ea _ _ _ _ _ _ ?_
    unfold BR
    refine Aj fun J3 h3 => ?_
    refine ⟨fun m i τ => ∃ k : Nat, m = G.length - k ∧ i = k ∧ k ≤ G.length ∧ τ = σ ∧ ∀ j, j < k → p j = false, ⟨_, 0, rfl, rfl, by omega, rfl, fun j h => by omega⟩, ?_⟩
    rintro m i τ ⟨k, rfl, rfl, hk, rfl, hj⟩ _
    refine AK (fun hlt => ?_) (fun hlt => ?_)
    · have hkl : k < G.length := by omega
      refine hr.group hkl fun b o c0 c1 c2 c3 c4 => ?_
      refine ⟨_, c0, _, c1, _, c2, _, _, _, c3, _, c4, D2.mono (hf k hkl) ?_⟩
      rintro _ _ ⟨rfl, rfl⟩
      refine ⟨_, rfl, El (fun hp => Az ⟨k, rfl, ?_, rfl⟩) (fun hp => AJ (by omega) (Bb _ (by omega) ⟨k + 1, rfl, by omega, by omega, rfl, fun j hjk => ?_⟩))⟩
      · rw [FA hkl hp, decide_eq_true (by omega)]
      · rcases Nat.lt_or_ge j k with h1 | h1
        · exact hj j h1
        · have : j = k := by omega
          subst this; exact hp
    · have : k = G.length := by omega
      subst this
      rw [h3]
      intro _
      refine Az ⟨-1, rfl, ?_, rfl⟩
      rw [GS fun j h => hj j h]
      rfl
  refine AM Dx this ?_
  rintro _ _ ⟨j, rfl, hj, rfl⟩
  exact ⟨_, rfl, Az ⟨by rw [hj], rfl⟩⟩
theorem Rm {b : BthG} : Al Tryz.prog Lu #[.agg #[.int .i64 b.seats, .int .i64 b.price, .int .i64 b.cycle, .int .i64 b.pause, .bool b.fill]] σ fun v σ' => v = .bool (!okB b) ∧ σ' = σ := by
  refine IE _ _ _ _ _ _ _ ?_
  unfold DV
  unfold okB
  refine OB (BA (fun h => Az ⟨by rw [decide_eq_false h]; rfl, rfl⟩) (fun h1 => OB (BA (fun h => Az ⟨by rw [decide_eq_true h1, decide_eq_false h]; rfl, rfl⟩) (fun h2 => OB (BA (fun h => Az ⟨by rw [decide_eq_true h1, decide_eq_true h2, decide_eq_false h]; rfl, rfl⟩) (fun h3 => OB (Az ⟨by rw [decide_eq_true h1, decide_eq_true h2, decide_eq_true h3]; rfl, rfl⟩)))))))
theorem T4 (hr : EvR σ r B l ws G) : Al Tryz.prog Nd #[.agg #[r.v, .int .i64 w]] σ fun v σ' => v = .int .i64 (if LO w B = true then 0 else 70) ∧ σ' = σ := by
  refine Kg _ _ _ _ _ _ ?_
  unfold EQ
  have hn := hr.lenR
  refine Aj fun J3 h3 => Aj fun J6 h6 => ?_
  have k6 : ∀ t, t = !LO w B → J6 t σ := by
    rintro t rfl
    rw [h6]
    intro _
    refine WD (fun h => Az ⟨by rw [h]; rfl, rfl⟩) (fun h => ?_)
    rw [h3]
    intro _
    exact Az ⟨by rw [h]; rfl, rfl⟩
  refine AK (fun h => k6 _ ?_) (fun h => OB (BA (fun h2 => k6 _ ?_) (fun h2 => clB CN (LR (p := fun k => !okB (bd B k)) hr (by omega) fun k hk => ?_) (k6 _ ?_))))
  · unfold LO; rw [decide_eq_false (by omega)]; rfl
  · unfold LO; rw [decide_eq_false h2, Bool.false_and, Bool.and_false]; rfl
  · have e1 : bd B k = B[k] := by unfold bd; simp [List.getD, hk]
    rw [e1]
    exact AM GZ Rm fun v σ' h => h
  · unfold LO
    rw [IT, decide_eq_true (show B.length ≤ 8 by omega), decide_eq_true h2]
    rfl
theorem TR {p : Option Addr} {g : Grp} {s : SL} (hp : ∃ b rw, p = some ⟨b, 0, none⟩ ∧ σ b = some (.cells #[r.v, .int .i64 w] 24 (0, 0), rw)) (hm : r.n ≤ 1000000) (hw : RdS [.int .i64] σ s.A s.n g.wants) :
    Al Tryz.prog M3 #[.agg #[.int .i64 g.came, .int .i64 g.size, .int .i64 g.tokens, s.v, .int .i64 g.patience], .pointer p] σ fun v σ' => v = .bool (!okG r.n g) ∧ σ' = σ := by
  refine JX _ _ _ _ _ _ _ _ _ _ ?_
  unfold ER
  unfold okG
  have hwl := hw.lenI
  refine OB (BA (fun h => Az ⟨by rw [decide_eq_false h]; rfl, rfl⟩) (fun h1 => OB (BA (fun h => Az ⟨by rw [decide_eq_true h1, decide_eq_false h]; rfl, rfl⟩) (fun h2 => OB (BA (fun h => Az ⟨by rw [decide_eq_true h1, decide_eq_true h2, decide_eq_false h]; rfl, rfl⟩) (fun h3 => OB (BA (fun h => Az ⟨by rw [decide_eq_true h1, decide_eq_true h2, decide_eq_true h3, decide_eq_false h]; rfl, rfl⟩) (fun h4 => ?_))))))))
  rw [decide_eq_true h1, decide_eq_true h2, decide_eq_true h3, decide_eq_true h4]
  refine AK (fun h5 => Az ⟨?_, rfl⟩) (fun h5 => clB Bw (Ff (p := fun j => !okW r.n (gt g.wants j)) hw (by omega) fun k hk => ?_) (Az ⟨?_, rfl⟩))
  · rw [decide_eq_false (show ¬ g.wants.length ≤ 10 by omega)]; rfl
  · obtain ⟨b, rw', rfl, hb⟩ := hp
    refine D2.func GN ?_
    refine IA _ _ _ _ ?_
    unfold DS
    refine AD (Bi hb rfl (AJ (by omega) (OB (Az ⟨rfl, rfl⟩))))
  · rw [IT, decide_eq_true (show g.wants.length ≤ 10 by omega)]; rfl
theorem Pm (hr : EvR σ r B l ws G) : Al Tryz.prog OI #[.agg #[r.v, .int .i64 w], l.v] σ fun v σ' => v = .int .i64 (L4 w B G) ∧ σ' = σ := by
  refine Mk _ _ _ _ _ _ _ _ _ ?_
  unfold Gx
  have hn := hr.lenR
  have hl := hr.lenL
  unfold L4
  refine clI H3 (T4 hr) (BA (fun h => ?_) (fun h => ?_))
  · have h1 : ¬ LO w B = true := fun h' => h (if_pos h')
    have h2 : LO w B = false := by simpa using h1
    rw [if_neg h1, if_pos h2]
    exact Az ⟨rfl, rfl⟩
  · have h1 : LO w B = true := by
      by_cases c : LO w B = true
      · exact c
      · rw [if_neg c] at h; omega
    rw [h1, if_neg (show ¬ true = false by simp)]
    have hB : B.length ≤ 8 := by
      unfold LO at h1
      rw [Bool.and_eq_true, decide_eq_true_eq] at h1
      exact h1.1
    intro b4 n4
    have hs := Hp.Sub.ins (.cells #[r.v, .int .i64 w] 24 (0, 0)) n4
    have hr2 := hr.sub hs
    have hb4 : (σ.ins b4 (.cells #[r.v, .int .i64 w] 24 (0, 0))) b4 = some (.cells #[r.v, .int .i64 w] 24 (0, 0), true) := Hp.ins_same ..
    change cut _ _
    have heq : (σ.ins b4 (.cells #[.slice r.A r.n r.c, .int .i64 w] 24)) = σ.ins b4 (.cells #[r.v, .int .i64 w] 24 (0, 0)) := rfl
    rw [heq]
    generalize σ.ins b4 (.cells #[r.v, .int .i64 w] 24 (0, 0)) = σ5 at *
    refine Aj fun J8 h8 => Aj fun J11 h11 => ?_
    have k11 : ∀ t, t = (decide (60 < G.length) || !(List.range G.length).all fun k => okG B.length (gd G k)) → J11 t σ5 := by
      rintro t rfl
      rw [h11]
      intro _
      refine El (fun ht => Ms hs ⟨?_, rfl⟩) (fun ht => ?_)
      · by_cases c : 60 < G.length
        · rw [if_pos c]
        · rw [decide_eq_false c, Bool.false_or, Bool.not_eq_true'] at ht
          rw [if_neg c, if_pos ht]
      · rw [Bool.or_eq_false_iff, Bool.not_eq_false'] at ht
        have c := of_decide_eq_false ht.1
        rw [h8]
        intro _
        refine Ms hs ⟨?_, rfl⟩
        rw [if_neg c, ht.2, if_neg (by simp)]
    refine AK (fun c => k11 _ ?_) (fun c => clB CQ (L5 (p := fun k => !okG B.length (gd G k)) hr2 (by omega) fun k hk => ?_) (k11 _ ?_))
    · rw [decide_eq_true (show 60 < G.length by omega)]; rfl
    · have e1 : gd G k = G[k] := by unfold gd; simp [List.getD, hk]
      rw [e1]
      refine D2.func Ir ?_
      have := TR (σ := σ5) (w := w) (r := r) (g := G[k]) (s := ws k) ⟨b4, true, rfl, hb4⟩ (by omega) (hr2.w k hk)
      rw [hn] at this
      exact this
    · rw [IT, decide_eq_false (show ¬ 60 < G.length by omega)]; rfl
end
end Go.Proofs.YtecodlefcmjihaaGreat
namespace Go.Proofs.YtecodlefcmjihaaGreat
open Go.RowKit
section
variable {σ : Hp} {w : Int} {r l : SL} {B : List BthG} {ws : Nat → SL} {G : List Grp}
def R8 (B : List BthG) (G : List Grp) : Bool := decide (10 < B.length) || (decide (70 < G.length) || (List.range G.length).any fun k => decide (20 < (gd G k).wants.length))
theorem XP (hr : EvR σ r B l ws G) : Al Tryz.prog QD #[.agg #[r.v, .int .i64 w], l.v] σ fun v σ' => v = .bool (R8 B G) ∧ σ' = σ := by
  refine Of _ _ _ _ _ _ _ _ _ ?_
  unfold IZ
  have hn := hr.lenR
  have hl := hr.lenL
  refine Aj fun J3 h3 => Aj fun J20 h20 => ?_
  have k3 : ¬ 10 < B.length → ¬ 70 < G.length → J3 σ := by
    intro a1 a2
    have hf : R8 B G = (List.range G.length).any fun k => decide (20 < (gd G k).wants.length) := by unfold R8; rw [decide_eq_false a1, decide_eq_false a2]; rfl
    rw [h3]
    intro _
    refine Aj fun J6 h6 => ?_
    refine ⟨fun m i τ => ∃ k : Nat, m = G.length - k ∧ i = k ∧ k ≤ G.length ∧ τ = σ ∧ ∀ j, j < k → decide (20 < (gd G j).wants.length) = false, ⟨_, 0, rfl, rfl, by omega, rfl, fun j h => by omega⟩, ?_⟩
    rintro m i τ ⟨k, rfl, rfl, hk, rfl, hj⟩ _
    refine AK (fun hlt => ?_) (fun hlt => ?_)
    · have hkl : k < G.length := by omega
      have e1 : gd G k = G[k] := by unfold gd; simp [List.getD, hkl]
      have hwl := (hr.w k hkl).lenI
      refine hr.group hkl fun b o c0 c1 c2 c3 c4 => ⟨_, _, _, c3, ?_⟩
      refine AK (fun h => Az ⟨?_, rfl⟩) (fun h => AJ (by omega) (Bb _ (by omega) ⟨k + 1, rfl, by omega, by omega, rfl, fun j hjk => ?_⟩))
      · rw [hf, FA hkl (decide_eq_true (by rw [e1]; omega))]
      · rcases Nat.lt_or_ge j k with h1 | h1
        · exact hj j h1
        · have : j = k := by omega
          subst this
          exact decide_eq_false (by rw [e1]; omega)
    · have : k = G.length := by omega
      subst this
      rw [h6]
      intro _
      exact Az ⟨by rw [hf, GS fun j h => hj j h], rfl⟩
  have k20 : ∀ t, t = (decide (10 < B.length) || decide (70 < G.length)) → J20 t σ := by
    rintro t rfl
    rw [h20]
    intro _
    refine El (fun h => Az ⟨?_, rfl⟩) (fun h => ?_)
    · unfold R8
      rw [← Bool.or_assoc, h, Bool.true_or]
    · rw [Bool.or_eq_false_iff] at h
      exact k3 (of_decide_eq_false h.1) (of_decide_eq_false h.2)
  refine AK (fun h => k20 _ ?_) (fun h => k20 _ ?_)
  · rw [decide_eq_true (show 10 < B.length by omega), Bool.true_or]
  · rw [decide_eq_false (show ¬ 10 < B.length by omega), Bool.false_or]
    exact decide_eq_decide.2 (by omega)
theorem Xw (h : R8 B G = false) : B.length ≤ 10 ∧ G.length ≤ 70 ∧ ∀ k, (h : k < G.length) → G[k].wants.length ≤ 20 := by
  unfold R8 at h
  rw [Bool.or_eq_false_iff, Bool.or_eq_false_iff] at h
  obtain ⟨h1, h2, h3⟩ := h
  have h1 := of_decide_eq_false h1
  have h2 := of_decide_eq_false h2
  refine ⟨by omega, by omega, fun k hk => ?_⟩
  by_cases c : 20 < (gd G k).wants.length
  · rw [FA hk (decide_eq_true c)] at h3; cases h3
  · have e1 : gd G k = G[k] := by unfold gd; simp [List.getD, hk]
    rw [e1] at c
    omega
theorem Vy (hr : EvR σ r B l ws G) (hB : B.length ≤ 4294967296) : Al Tryz.prog P5 #[.agg #[r.v, .int .i64 w]] σ fun v σ' => ∃ r' : SL, v = .agg #[r'.v, .int .i64 w] ∧ An 49 sB σ r'.A r'.n r'.c (B.map Na) σ' := by
  refine M9 _ _ _ _ _ _ ?_
  unfold Hf
  have hl : (B.map Na).length ≤ 4294967296 := by rw [List.length_map]; exact hB
  have key : ∀ A n c σ', An 49 sB σ A n c ([] ++ B.map Na) σ' → rt σ' (fun v σ' => ∃ r' : SL, v = .agg #[r'.v, .int .i64 w] ∧ An 49 sB σ r'.A r'.n r'.c (B.map Na) σ') (.agg #[.slice A n c, .int .i64 w]) := fun A n c σ' ho => Az ⟨⟨A, n, c⟩, rfl, ho⟩
  have hro : B1 (([] : List (TyR sB)).length + (B.map Na).length) (∀ A n c σ', An 49 sB σ A n c ([] ++ B.map Na) σ' → rt σ' (fun v σ' => ∃ r' : SL, v = .agg #[r'.v, .int .i64 w] ∧ An 49 sB σ r'.A r'.n r'.c (B.map Na) σ') (.agg #[.slice A n c, .int .i64 w])) := BF (by rw [List.length_nil, Nat.zero_add]; exact hl) key
  exact ⟨⟨⟨_, hr.r, hro⟩, ⟨_, hr.r, hro⟩⟩, ⟨_, hr.r, hro⟩⟩
theorem Se {ws ws' : Nat → SL} {k : Nat} {g : Grp} (hk : k < G.length) (hg : G[k] = g) (h : ∀ i, i ≠ k → ws' i = ws i) : (G.mapIdx (G7 ws)).set k (G7 ws' k g) = G.mapIdx (G7 ws') := by
  apply List.ext_getElem
  · simp
  · intro i h1 h2
    rw [List.getElem_set]
    simp only [List.getElem_mapIdx]
    by_cases c : k = i
    · subst c
      rw [if_pos rfl, hg]
    · rw [if_neg c]
      unfold G7
      rw [h i fun e => c e.symm]
theorem KA (hr : EvR σ r B l ws G) (hG : G.length ≤ 4294967296) (hW : ∀ k, (h : k < G.length) → G[k].wants.length ≤ 4294967296) : Al Tryz.prog Kv #[l.v] σ fun v σ' => ∃ (l' : SL) (ws' : Nat → SL), v = l'.v ∧ Hp.Sub σ σ' ∧ RdS sG σ' l'.A l'.n (G.mapIdx (G7 ws')) ∧ ∀ i, (h : i < G.length) → RdS [.int .i64] σ' (ws' i).A (ws' i).n G[i].wants := by
  refine Ii _ _ _ _ _ ?_
  unfold Dq
  refine ⟨_, hr.l, BF (by rw [List.length_nil, Nat.zero_add]; exact Nat.le_trans (Nat.le_of_eq (List.length_mapIdx ..)) hG) ?_⟩
  refine Aj fun J4 h4 => ?_
  refine ⟨fun m A n c i τ => ∃ (k : Nat) (ws' : Nat → SL) (σx : Hp), m = G.length - k ∧ i = k ∧ k ≤ G.length ∧ Hp.Sub σ σx ∧ An 43 sG σx A n c (G.mapIdx (G7 ws')) τ ∧ (∀ i, (h : i < G.length) → RdS [.int .i64] σx (ws' i).A (ws' i).n G[i].wants), ⟨G.length, ?_⟩, ?_⟩
  · intro A n c σ' ho
    exact ⟨0, ws, σ, rfl, rfl, by omega, Hp.Sub.refl _, ho, hr.w⟩
  rintro m A n c i τ ⟨k, ws', σx, rfl, rfl, hk, hs, ho, hw⟩ _
  have hlen : n = G.length := by rw [ho.len]; exact List.length_mapIdx ..
  refine AK (fun hlt => ?_) (fun hlt => ?_)
  · have hkl : k < G.length := by omega
    have hW := hW k hkl
    have hix : ∀ {K : Nat → Nat → Prop}, (∀ b off, A = some ⟨b, off, none⟩ → K b (off + k * 5)) → ix A n k 5 K := fun {K} hK => by
      rcases ho with ⟨_, _, _, he, _⟩ | ⟨b, off, cells, hA, _⟩
      · have : (G.mapIdx (G7 ws')).length = 0 := by rw [he]; rfl
        rw [List.length_mapIdx] at this
        omega
      · subst hA
        refine ⟨by omega, by omega, ?_⟩
        rw [Cq]
        exact hK b off rfl
    have hrd := ho.rd
    have hk' : ((k : Nat) : Int).toNat < (G.mapIdx (G7 ws')).length := by simpa using hkl
    refine NS hrd rfl (by omega) hk' fun b o hc => ?_
    have e : (G.mapIdx (G7 ws'))[((k : Nat) : Int).toNat]'hk' = G7 ws' k G[k] := by simp
    rw [e] at hc
    refine ⟨_, _, _, hc 3 (by show 3 < 5; omega), G[k].wants, (hw k hkl).sub ho.sub, BF (by rw [List.length_nil, Nat.zero_add]; exact hW) (hix fun b off hA => ?_)⟩
    intro A20 l20 c20 σ21 o21
    obtain ⟨σx', o1, o2⟩ := ho.swap o21
    have hk2 : k < (G.mapIdx (G7 ws')).length := by simpa using hkl
    obtain ⟨b', off', hA', hput⟩ := o2.put (Hp.Sub.refl _) hk2
    rw [hA] at hA'
    cases hA'
    have eg : (G.mapIdx (G7 ws'))[k] = G7 ws' k G[k] := by simp
    obtain ⟨wz, z1, z2⟩ : ∃ wz : Nat → SL, wz k = ⟨A20, l20, c20⟩ ∧ ∀ i, i ≠ k → wz i = ws' i := ⟨fun i => if i = k then ⟨A20, l20, c20⟩ else ws' i, if_pos rfl, fun i h => if_neg h⟩
    obtain ⟨w1, σ2, w2, w3⟩ := hput 3 (.slice A20 l20 c20) (G7 wz k G[k]) (by rw [eg]; unfold G7; rw [z1]; rfl)
    refine ⟨w1, AJ (by omega) (UZ _ (by omega) w3 ⟨k + 1, wz, σx', rfl, by omega, by omega, hs.trans o1.sub, ?_, fun i hi => ?_⟩)⟩
    · have := Se (G := G) (ws := ws') (ws' := wz) hkl rfl z2
      rw [this] at w2
      exact w2
    · by_cases c' : i = k
      · subst c'
        rw [z1]
        exact o1.rd
      · rw [z2 i c']
        exact (hw i hi).sub o1.sub
  · have : k = G.length := by omega
    subst this
    rw [h4]
    intro _
    exact Az ⟨⟨A, n, c⟩, ws', rfl, hs.trans ho.sub, ho.rd, fun i hi => (hw i hi).sub ho.sub⟩
end
end Go.Proofs.YtecodlefcmjihaaGreat
namespace Go.Proofs.YtecodlefcmjihaaGreat
open Go.RowKit
theorem Ngt.last_parties (N : Ngt) : N.last.parties = N.parties := rfl
theorem Ngt.last_rides (N : Ngt) : N.last.rides = N.rides := rfl
theorem Ngt.last_visits (N : Ngt) : N.last.visits = IX N.visits := rfl
theorem NI (w : Int) (B : List BthG) (G : List Grp) : (Ngt.played w B G).parties = (Ngt.run w B G 4001).parties := Ngt.last_parties _
theorem P1 (w : Int) (B : List BthG) (G : List Grp) : (Ngt.played w B G).rides = (Ngt.run w B G 4001).rides := Ngt.last_rides _
theorem GE (w : Int) (B : List BthG) (G : List Grp) : (Ngt.played w B G).visits = IX (Ngt.run w B G 4001).visits := Ngt.last_visits _
end Go.Proofs.YtecodlefcmjihaaGreat
namespace Go.Proofs.YtecodlefcmjihaaGreat
open Go.RowKit
theorem An.less {e : TypeId} {ss : List Sh} {σ σ5 σ9 : Hp} {A : Option Addr} {n c : Nat} {xs : List (TyR ss)} (h : An e ss σ5 A n c xs σ9) (hs : Hp.Sub σ σ5) : ∃ σ', An e ss σ A n c xs σ' ∧ Hp.Sub σ' σ9 :=
  Au.less (R := fun σ σ' => An e ss σ A n c xs σ') Au.own h hs
theorem Ngt.last_stat {N : Ngt} {nr : Nat} {G : List Grp} (h : N.stat nr G) : N.last.stat nr G := h
theorem MT (w : Int) (B : List BthG) (G : List Grp) : (Ngt.played w B G).stat B.length G := Ngt.last_stat (Ngt.run_stat _)
section
variable {σ : Hp} {w : Int} {r l : SL} {B : List BthG} {ws : Nat → SL} {G : List Grp}
def ofL (c : Int) (xs : List Int) : List Int := if c = 0 then xs else []
theorem RK {c : Int} {xs : List Int} (h : c = 0) : ofL c xs = xs := if_pos h
theorem Ta {c : Int} {xs : List Int} (h : ¬ c = 0) : ofL c xs = [] := if_neg h
def OfI (σ : Hp) (c : Int) (xs : List Int) : Value → Hp → Prop := fun v σ' => ∃ s : SL, v = .tuple #[s.v, .int .i64 c] ∧ An 3 [.int .i64] σ s.A s.n s.c (ofL c xs) σ'
theorem R0 {fe fn : Value} {f : Pty → Int} {N : Ngt} (hr : EvR σ r B l ws G) (hP : Ngt.played w B G = N)
    (hE : ∀ (τ σ1 : Hp) (W : NW) (N : Ngt), Ap W σ1 τ N → cl Tryz.prog fe #[.pointer (some ⟨W.nb, 0, none⟩)] τ fun v τ' => v = W.p.v ∧ τ' = τ)
    (hN : ∀ (τ σ1 : Hp) (W : NW) (N : Ngt) (g : Int), Ap W σ1 τ N → g.toNat < N.parties.length → cl Tryz.prog fn #[.pointer (some ⟨W.pb g, 0, none⟩)] τ fun v τ' => v = .int .i64 (f (N.pa g)) ∧ τ' = τ) :
    Al Tryz.prog GX #[.agg #[r.v, .int .i64 w], l.v, fe, fn] σ (OfI σ (L4 w B G) (N.parties.map f)) := by
  have hst := MT w B G
  rw [hP] at hst
  refine Fz _ _ _ _ _ _ _ _ _ _ _ ?_
  unfold Ce
  refine clI CU (Pm hr) (BA (fun h => Az ⟨⟨none, 0, 0⟩, rfl, ?_⟩) (fun h => ?_))
  · exact (congrArg (fun z : List Int => An 3 [.int .i64] σ none 0 0 z σ) (Ta h)).mpr (An.nil ..)
  have hv := K5 h
  refine Aj fun J6 h6 => ?_
  refine AM Dv (Kq hr hv) ?_
  rintro v σ11 ⟨W, σ1, rfl, hs1, hS, hn⟩
  rw [hP] at hn
  refine ⟨_, rfl, ?_⟩
  refine D2.mono (hE σ11 σ1 W N hn) ?_
  rintro _ τ2 ⟨rfl, e2⟩
  rw [e2]
  clear e2 τ2
  have hpl : W.p.n = N.parties.length := by rw [hS.p.1, ← hS.lp.trans hst.len.symm]; exact List.length_map ..
  have hvn := hv.n
  have hpn := hst.len
  refine ⟨_, _, _, rfl, ⟨fun m xs i τ => ∃ k : Nat, m = N.parties.length - k ∧ xs = (N.parties.take k).map f ∧ i = k ∧ k ≤ N.parties.length ∧ τ = σ11, ⟨_, Lw.2 ⟨0, rfl, rfl, rfl, by omega, rfl⟩⟩, ?_⟩⟩
  rintro m xs i τ ⟨k, rfl, rfl, rfl, hk, rfl⟩ _
  refine AK (fun hlt => ?_) (fun hlt => ?_)
  · have hkl : k < N.parties.length := by omega
    refine (hS.sub hn.sub).pix hst (by omega) (by simpa using hkl) ?_
    refine D2.mono (hN τ σ1 W N k hn (by simpa using hkl)) ?_
    rintro _ _ ⟨rfl, rfl⟩
    refine ⟨_, rfl, BF (by simp; omega) (AJ (by omega) (Bb (N.parties.length - (k + 1)) (by omega) ⟨k + 1, rfl, ?_, by omega, by omega, rfl⟩))⟩
    rw [List.take_succ_eq_append_getElem hkl, List.map_append]
    have : N.pa k = N.parties[k] := by simp [Ngt.pa, List.getD, hkl]
    rw [this]
    rfl
  · have : k = N.parties.length := by omega
    subst this
    rw [List.take_length, h6]
    intro _
    intro A8 l8 c8 σ9 o9
    obtain ⟨σ', o1, o2⟩ := o9.less (hs1.trans hn.sub)
    refine Ms o2 ⟨⟨A8, l8, c8⟩, by rw [h]; rfl, ?_⟩
    exact (congrArg (fun z : List Int => An 3 [.int .i64] σ A8 l8 c8 z σ') (RK h)).mpr o1
theorem Sp {fe fn : Value} {f : Bth → Int} {N : Ngt} (hr : EvR σ r B l ws G) (hP : Ngt.played w B G = N)
    (hE : ∀ (τ σ1 : Hp) (W : NW) (N : Ngt), Ap W σ1 τ N → cl Tryz.prog fe #[.pointer (some ⟨W.nb, 0, none⟩)] τ fun v τ' => v = W.r.v ∧ τ' = τ)
    (hN : ∀ (τ σ1 : Hp) (W : NW) (N : Ngt) (g : Int), Ap W σ1 τ N → g.toNat < N.rides.length → cl Tryz.prog fn #[.pointer (some ⟨W.rb g, 0, none⟩)] τ fun v τ' => v = .int .i64 (f (N.bo g)) ∧ τ' = τ) :
    Al Tryz.prog GT #[.agg #[r.v, .int .i64 w], l.v, fe, fn] σ (OfI σ (L4 w B G) (N.rides.map f)) := by
  have hst := MT w B G
  rw [hP] at hst
  refine FJ _ _ _ _ _ _ _ _ _ _ _ ?_
  unfold Cc
  refine clI CU (Pm hr) (BA (fun h => Az ⟨⟨none, 0, 0⟩, rfl, ?_⟩) (fun h => ?_))
  · exact (congrArg (fun z : List Int => An 3 [.int .i64] σ none 0 0 z σ) (Ta h)).mpr (An.nil ..)
  have hv := K5 h
  refine Aj fun J6 h6 => ?_
  refine AM Dv (Kq hr hv) ?_
  rintro v σ11 ⟨W, σ1, rfl, hs1, hS, hn⟩
  rw [hP] at hn
  refine ⟨_, rfl, ?_⟩
  refine D2.mono (hE σ11 σ1 W N hn) ?_
  rintro _ τ2 ⟨rfl, e2⟩
  rw [e2]
  clear e2 τ2
  have hrl : W.r.n = N.rides.length := by rw [hS.r.1, ← hS.lr.trans hst.1.symm]; exact List.length_map ..
  have hvn := hv.m
  have hpn := hst.1
  refine ⟨_, _, _, rfl, ⟨fun m xs i τ => ∃ k : Nat, m = N.rides.length - k ∧ xs = (N.rides.take k).map f ∧ i = k ∧ k ≤ N.rides.length ∧ τ = σ11, ⟨_, Lw.2 ⟨0, rfl, rfl, rfl, by omega, rfl⟩⟩, ?_⟩⟩
  rintro m xs i τ ⟨k, rfl, rfl, rfl, hk, rfl⟩ _
  refine AK (fun hlt => ?_) (fun hlt => ?_)
  · have hkl : k < N.rides.length := by omega
    refine (hS.sub hn.sub).rix hst (by omega) (by simpa using hkl) ?_
    refine D2.mono (hN τ σ1 W N k hn (by simpa using hkl)) ?_
    rintro _ _ ⟨rfl, rfl⟩
    refine ⟨_, rfl, BF (by simp; omega) (AJ (by omega) (Bb (N.rides.length - (k + 1)) (by omega) ⟨k + 1, rfl, ?_, by omega, by omega, rfl⟩))⟩
    rw [List.take_succ_eq_append_getElem hkl, List.map_append]
    have : N.bo k = N.rides[k] := by simp [Ngt.bo, List.getD, hkl]
    rw [this]
    rfl
  · have : k = N.rides.length := by omega
    subst this
    rw [List.take_length, h6]
    intro _
    intro A8 l8 c8 σ9 o9
    obtain ⟨σ', o1, o2⟩ := o9.less (hs1.trans hn.sub)
    refine Ms o2 ⟨⟨A8, l8, c8⟩, by rw [h]; rfl, ?_⟩
    exact (congrArg (fun z : List Int => An 3 [.int .i64] σ A8 l8 c8 z σ') (RK h)).mpr o1
theorem TV (τ σ1 : Hp) (W : NW) (N : Ngt) (h : Ap W σ1 τ N) : cl Tryz.prog (.func (.func MW) #[] #[]) #[.pointer (some ⟨W.nb, 0, none⟩)] τ fun v τ' => v = W.p.v ∧ τ' = τ := by
  refine D2.func H6 ?_
  refine JZ _ _ _ ?_
  unfold EZ
  obtain ⟨v, hnb, _⟩ := h.nblk
  exact AD (Bi hnb rfl (Az ⟨rfl, rfl⟩))
theorem Wa (τ σ1 : Hp) (W : NW) (N : Ngt) (h : Ap W σ1 τ N) : cl Tryz.prog (.func (.func OG) #[] #[]) #[.pointer (some ⟨W.nb, 0, none⟩)] τ fun v τ' => v = W.r.v ∧ τ' = τ := by
  refine D2.func JM ?_
  refine L8 _ _ _ ?_
  unfold Gu
  obtain ⟨v, hnb, _⟩ := h.nblk
  exact AD (Bi hnb rfl (Az ⟨rfl, rfl⟩))
theorem W0 (τ σ1 : Hp) (W : NW) (N : Ngt) (g : Int) (h : Ap W σ1 τ N) (hg : g.toNat < N.parties.length) : cl Tryz.prog (.func (.func N8) #[] #[]) #[.pointer (some ⟨W.pb g, 0, none⟩)] τ fun v τ' => v = .int .i64 (N.pa g).purse ∧ τ' = τ := by
  refine D2.func IL ?_
  refine KR _ _ _ ?_
  unfold Fu
  exact AD (Bl (h.pblk hg) rfl (Az ⟨rfl, rfl⟩))
theorem V9 (τ σ1 : Hp) (W : NW) (N : Ngt) (g : Int) (h : Ap W σ1 τ N) (hg : g.toNat < N.rides.length) : cl Tryz.prog (.func (.func Nl) #[] #[]) #[.pointer (some ⟨W.rb g, 0, none⟩)] τ fun v τ' => v = .int .i64 (N.bo g).takes ∧ τ' = τ := by
  refine D2.func H9 ?_
  refine Kt _ _ _ ?_
  unfold EU
  obtain ⟨o, q, hb, _⟩ := h.rblk hg
  exact AD (Bl hb rfl (Az ⟨rfl, rfl⟩))
theorem Xl (hr : EvR σ r B l ws G) : Al Tryz.prog K4 #[.agg #[r.v, .int .i64 w], l.v] σ (OfI σ (L4 w B G) ((Ngt.played w B G).parties.map Pty.purse)) := by
  refine Nf _ _ _ _ _ _ _ _ _ ?_
  unfold HO
  refine AM EF (R0 hr rfl TV W0) ?_
  rintro v σ2 ⟨s, rfl, ho⟩
  exact ⟨_, _, _, _, rfl, Az ⟨s, rfl, ho⟩⟩
theorem Wr (hr : EvR σ r B l ws G) : Al Tryz.prog JU #[.agg #[r.v, .int .i64 w], l.v] σ (OfI σ (L4 w B G) ((Ngt.played w B G).rides.map Bth.takes)) := by
  refine L1 _ _ _ _ _ _ _ _ _ ?_
  unfold Gm
  refine AM EA (Sp hr rfl Wa V9) ?_
  rintro v σ2 ⟨s, rfl, ho⟩
  exact ⟨_, _, _, _, rfl, Az ⟨s, rfl, ho⟩⟩
end
end Go.Proofs.YtecodlefcmjihaaGreat
