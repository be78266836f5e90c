/- Trimmed by wip/trim.py to what this claim rests on. -/
import Derived.Test.YtecodlefcmjihaaGreatWTk0
import Derived.Test.YtecodlefcmjihaaGreatWB18
namespace Go.Proofs.YtecodlefcmjihaaGreat
open Go.RowKit
def BM (s : SL) (qs : List (List Int)) (σ0 σ : Hp) : Prop := Lse (queP s qs) σ0 σ
section
variable {s : SL} {qs : List (List Int)} {σ0 σ : Hp}
theorem BM.sub (h : BM s qs σ0 σ) : Hp.Sub σ0 σ := Lse.sub Au.queP h
theorem BM.up {σ' : Hp} (h : BM s qs σ0 σ) (hs : Hp.Sub σ σ') : BM s qs σ0 σ' := Lse.up h hs
theorem BM.init {n : Nat} (h : An 34 [.slc] σ0 s.A s.n s.c ((List.replicate n (none, 0, 0) : List (Option Addr × Nat × Nat)) : List (TyR [.slc])) σ) : BM s (List.replicate n []) σ0 σ := by
  refine Lse.of ⟨List.replicate n SL.d, by simp, σ, ?_, ?_⟩
  · have e : (List.replicate n SL.d).map slT = (List.replicate n (none, 0, 0) : List (TyR [.slc])) := by
      rw [List.map_replicate]
      rfl
    exact (congrArg (fun z : List (TyR [.slc]) => An 34 [.slc] σ0 s.A s.n s.c z σ) e).mpr h
  · refine Tl fun R hR => ?_
    obtain ⟨i, hi, rfl⟩ := List.mem_map.1 hR
    have hi : i < n := by simpa using hi
    have e1 : (List.replicate n SL.d).getD i SL.d = SL.d := by simp [List.getD, hi]
    have e2 : (List.replicate n ([] : List Int)).getD i [] = [] := by simp [List.getD, hi]
    rw [e1, e2]
    exact An.nil ..
theorem BM.at_ (h : BM s qs σ0 σ) {r : Nat} (hr : r < qs.length) : ∃ (b off : Nat) (s' : SL) (σ3 : Hp), s.A = some ⟨b, off, none⟩ ∧ s.n = qs.length ∧ σ.cell? ⟨b, off + r, none⟩ = some s'.v ∧ An 3 [.int .i64] σ3 s'.A s'.n s'.c (qs.getD r []) σ ∧
    (∀ (xs : List Int) (σ4 : Hp), An 3 [.int .i64] σ3 s'.A s'.n s'.c xs σ4 → BM s (qs.set r xs) σ0 σ4) ∧
    ∀ (xs : List Int) (s'' : SL) (σ4 : Hp), An 3 [.int .i64] σ3 s''.A s''.n s''.c xs σ4 → σ4.wr ⟨b, off + r, none⟩ ∧ BM s (qs.set r xs) σ0 (σ4.put ⟨b, off + r, none⟩ s''.v) := by
  obtain ⟨σa, hq, hsa⟩ := Lse.exact Au.queP h
  obtain ⟨hs, hl, σ2, ho, hi⟩ := hq
  have ho : An 34 [.slc] σa s.A s.n s.c (hs.map slT) σ2 := ho
  have hrh : r < hs.length := by rw [hl]; exact hr
  have hlm : r < (hs.map slT).length := by rw [List.length_map]; exact hrh
  obtain ⟨b, off, hA, cells, hbb⟩ := ho.someA (by omega)
  obtain ⟨σ3, h3, h4⟩ := Jq (k := r) GR (by unfold PY; rw [List.length_map, List.length_range]; exact hr) (Lse.of hi)
  have e3 : (PY hs qs)[r]'(by unfold PY; rw [List.length_map, List.length_range]; exact hr) = ownI (hs.getD r SL.d) (qs.getD r []) := by simp [PY]
  rw [e3] at h3
  have hn : s.n = qs.length := by rw [ho.len, ← hl]; exact List.length_map ..
  have hsub := Au.sub (Au.star (GR (hs := hs) (qs := qs))) hi
  have hcell : σ.cell? ⟨b, off + r, none⟩ = some (hs.getD r SL.d).v := by
    have := ho.cellAt hA hlm (j := 0) (by show 0 < 1; omega)
    have e : (hs.map slT)[r]'hlm = slT (hs.getD r SL.d) := by simp [List.getD, hrh]
    rw [e] at this
    have e2 : off + r * [Sh.slc].length + 0 = off + r := by show off + r * 1 + 0 = _; omega
    rw [e2] at this
    exact Qc hsub this
  refine ⟨b, off, hs.getD r SL.d, σ3, hA, hn, hcell, h3, fun xs σ4 h5 => ?_, fun xs s'' σ4 h5 => ?_⟩
  · have h6 := h4 (ownI (hs.getD r SL.d) xs) σ4 σ4 Au.ownI h5 (Hp.Sub.refl _)
    rw [← QB hl hr] at h6
    have e4 : hs.set r (hs.getD r SL.d) = hs := by
      have : hs.getD r SL.d = hs[r] := by simp [List.getD, hrh]
      rw [this, List.set_getElem_self]
    rw [e4] at h6
    obtain ⟨σ6, h9, h10⟩ := h6
    exact Lse.low Au.queP (show Lse (queP s (qs.set r xs)) σa σ4 from ⟨σ6, ⟨hs, by rw [List.length_set]; exact hl, σ2, ho, h9⟩, h10⟩) hsa
  · have h6 := h4 (ownI s'' xs) σ4 σ4 Au.ownI h5 (Hp.Sub.refl _)
    rw [← QB hl hr] at h6
    obtain ⟨w1, σ5, w2, w3⟩ := ho.putAt (j := 0) (v := s''.v) (r := slT s'') hA hlm rfl
    have e2 : off + r * [Sh.slc].length + 0 = off + r := by show off + r * 1 + 0 = _; omega
    rw [e2] at w1 w3
    have h7 := Lse.put (Au.star GR) h6 hbb (k := off + r) s''.v
    have h8 := h7.low (Au.star GR) w3
    obtain ⟨σ6, h9, h10⟩ := h8
    refine ⟨LL w1 (Lse.sub (Au.star GR) h6), ?_⟩
    have e : (hs.map slT).set r (slT s'') = (hs.set r s'').map slT := (List.map_set ..).symm
    rw [e] at w2
    exact Lse.low Au.queP (show Lse (queP s (qs.set r xs)) σa _ from ⟨σ6, ⟨hs.set r s'', by rw [List.length_set, List.length_set]; exact hl, σ5, w2, h9⟩, h10⟩) hsa
theorem BM.hd (h : BM s qs σ0 σ) {r : Nat} (hr : r < qs.length) {K : Option Addr → Nat → Nat → Prop} (hk : ∀ s' : SL, RdS [.int .i64] σ s'.A s'.n (qs.getD r []) → K s'.A s'.n s'.c) : ix s.A s.n r 1 fun b a => ldS σ b a K := by
  obtain ⟨b, off, s', σ3, hA, hn, hc, ho, _, _⟩ := h.at_ hr
  refine Rg hA (by omega) (by omega) ?_
  simp only [Int.toNat_natCast, Nat.mul_one]
  exact VA hc (hk s' ho.rd)
theorem BM.get (h : BM s qs σ0 σ) {r : Nat} (hr : r < qs.length) {t : Int} (t0 : 0 ≤ t) (t1 : t < (qs.getD r []).length) {K : Int → Prop} (hk : K (gt (qs.getD r []) t)) : ix s.A s.n r 1 fun b a => ldS σ b a fun A n _ => ix A n t 1 fun b a => ldI σ .i64 b a K :=
  h.hd hr fun _ hrd => Gr hrd t0 t1 hk
theorem BM.st (h : BM s qs σ0 σ) {r : Nat} (hr : r < qs.length) {t v : Int} (t0 : 0 ≤ t) (t1 : t < (qs.getD r []).length) : ∃ s' : SL, (∀ K : Option Addr → Nat → Nat → Prop, K s'.A s'.n s'.c → ix s.A s.n r 1 fun b a => ldS σ b a K) ∧ RdS [.int .i64] σ s'.A s'.n (qs.getD r []) ∧ ∀ K : Hp → Prop, (∀ τ, BM s (qs.set r ((qs.getD r []).set t.toNat v)) σ0 τ → K τ) → ix s'.A s'.n t 1 fun b a => st σ b a (.int .i64 v) K := by
  obtain ⟨b, off, s', σ3, hA, hn, hc, ho, hk1, _⟩ := h.at_ hr
  refine ⟨s', fun K hK => ?_, ho.rd, fun K hk => ?_⟩
  · refine Rg hA (by omega) (by omega) ?_
    simp only [Int.toNat_natCast, Nat.mul_one]
    exact VA hc hK
  · exact An.ix_stI ho (Hp.Sub.refl _) t0 (by omega) fun σ2 τ2 h2 h3 => hk _ ((hk1 _ _ h2).up h3)
theorem BM.new (h : BM s qs σ0 σ) {σ1 : Hp} (hs : Hp.Sub σ σ1) {r : Nat} (hr : r < qs.length) {s'' : SL} {xs : List Int} {σ2 : Hp} (ho : An 3 [.int .i64] σ1 s''.A s''.n s''.c xs σ2) : ∃ b off, s.A = some ⟨b, off, none⟩ ∧ s.n = qs.length ∧ σ2.wr ⟨b, off + r, none⟩ ∧ BM s (qs.set r xs) σ0 (σ2.put ⟨b, off + r, none⟩ s''.v) := by
  obtain ⟨b, off, s', σ3, hA, hn, _, ho', _, hk⟩ := (h.up hs).at_ hr
  obtain ⟨σ4, h4, h5⟩ := ho.less ho'.sub
  obtain ⟨w1, w2⟩ := hk xs s'' σ4 h4
  refine ⟨b, off, hA, hn, LL w1 h5, w2.up ?_⟩
  obtain ⟨c, e, hx, _⟩ := w1
  exact Lh h5 hx _
end
end Go.Proofs.YtecodlefcmjihaaGreat
namespace Go.Proofs.YtecodlefcmjihaaGreat
open Go.RowKit
abbrev none60 : Int := 1152921504606846976
def bOK (b : Int × Int) : Prop := (1 ≤ b.1 ∧ b.1 ≤ 1000) ∧ (1 ≤ b.2 ∧ b.2 ≤ 1000000)
def GB (b : Int × Int) (P cur : List Int) (t : Int) : Int := if 0 ≤ t - b.1 ∧ gt cur (t - b.1) < none60 then (if gt cur (t - b.1) + b.2 < gt P t then gt cur (t - b.1) + b.2 else gt P t) else gt P t
def Ee (b : Int × Int) (P : List Int) : Nat → List Int
  | 0 => List.replicate P.length none60
  | t + 1 => (Ee b P t).set t (GB b P (Ee b P t) t)
def M7 (b : Int × Int) (P : List Int) : List Int := Ee b P P.length
def Aw (m : Nat) : List (Int × Int) → List Int
  | [] => (List.replicate m none60).set 0 0
  | b :: bs => M7 b (Aw m bs)
def BW (row : List Int) (n : Int) : Nat → Int
  | 0 => n
  | k + 1 => if gt row (n + k) < gt row (BW row n k) then n + k else BW row n k
def AR (row : List Int) (b : Int × Int) : Nat → Int → Int × Int
  | 0, t => (t, 0)
  | f + 1, t => if b.1 ≤ t ∧ gt row (t - b.1) < none60 ∧ gt row (t - b.1) + b.2 = gt row t then ((AR row b f (t - b.1)).1, (AR row b f (t - b.1)).2 + 1) else (t, 0)
def Bk (m : Nat) : List (Int × Int) → Int → List Int
  | [], _ => []
  | b :: bs, t => (AR (Aw m (b :: bs)) b t.toNat t).2 :: Bk m bs (AR (Aw m (b :: bs)) b t.toNat t).1
def E2 (m : Nat) : List (Int × Int) → Int → Nat → Int
  | _, t, 0 => t
  | [], t, _ + 1 => t
  | b :: bs, t, k + 1 => E2 m bs (AR (Aw m (b :: bs)) b t.toNat t).1 k
theorem Rv {m : Nat} {bs : List (Int × Int)} {t : Int} : E2 m bs t 0 = t := by cases bs <;> rfl
theorem Cm {b : Int × Int} {P : List Int} : ∀ t, (Ee b P t).length = P.length
  | 0 => List.length_replicate ..
  | t + 1 => by rw [Ee, List.length_set, Cm t]
theorem Uv {b : Int × Int} {P : List Int} : (M7 b P).length = P.length := Cm _
theorem Ba {m : Nat} : ∀ bs : List (Int × Int), (Aw m bs).length = m
  | [] => by rw [Aw, List.length_set, List.length_replicate]
  | b :: bs => by rw [Aw, Uv, Ba bs]
theorem AQ {xs : List Int} {i : Nat} {v k : Int} (hi : i < xs.length) (hk : 0 ≤ k) : gt (xs.set i v) k = if k = i then v else gt xs k := by
  unfold gt
  simp only [List.getD, List.getElem?_set]
  by_cases h : k = i
  · subst h
    simp [hi]
  · rw [if_neg (by omega), if_neg h]
theorem Ft {n : Nat} {v k : Int} (h0 : 0 ≤ k) (h1 : k < n) : gt (List.replicate n v) k = v := by
  have : k.toNat < n := by omega
  unfold gt
  simp [List.getD, this]
theorem SG {b : Int × Int} {P : List Int} : ∀ (t : Nat), t ≤ P.length → ∀ k : Int, 0 ≤ k → k < P.length → gt (Ee b P t) k = if k < t then gt (M7 b P) k else none60 := by
  have key : ∀ (d t : Nat), t + d = P.length → ∀ k : Int, 0 ≤ k → k < t → gt (Ee b P (t + d)) k = gt (Ee b P t) k := by
    intro d
    induction d with
    | zero => intro t _ k _ _; rfl
    | succ d ih =>
      intro t ht k k0 k1
      have h1 := ih (t + 1) (by omega) k k0 (by omega)
      have e : t + (d + 1) = t + 1 + d := by omega
      rw [e, h1]
      show gt ((Ee b P t).set t _) k = _
      rw [AQ (by rw [Cm]; omega) k0, if_neg (by omega)]
  intro t
  induction t with
  | zero =>
    intro _ k k0 k1
    rw [if_neg (by omega)]
    exact Ft k0 k1
  | succ t ih =>
    intro ht k k0 k1
    have ih := ih (by omega) k k0 k1
    split
    · rename_i hk
      unfold M7
      have e : P.length = t + 1 + (P.length - (t + 1)) := by omega
      have h := key (P.length - (t + 1)) (t + 1) (by omega) k k0 hk
      rw [← e] at h
      rw [h]
    · show gt ((Ee b P t).set t _) k = _
      rw [AQ (by rw [Cm]; omega) k0, if_neg (by omega), ih, if_neg (by omega)]
def Oa (xs : List Int) : Prop := ∀ k : Int, 0 ≤ k → k < xs.length → 0 ≤ gt xs k ∧ gt xs k ≤ none60
theorem Wf {b : Int × Int} (hb : bOK b) {P cur : List Int} {t : Int} (t1 : t < P.length) (t0 : 0 ≤ t) (hP : Oa P) (hc : Oa cur) (hl : cur.length = P.length) : 0 ≤ GB b P cur t ∧ GB b P cur t ≤ none60 := by
  have h1 := hP t t0 t1
  have := hb.1
  have := hb.2
  unfold GB
  split
  · rename_i h
    have h2 := hc (t - b.1) h.1 (by omega)
    split <;> omega
  · exact h1
theorem Pn {b : Int × Int} (hb : bOK b) {P : List Int} (hP : Oa P) : ∀ t : Nat, t ≤ P.length → Oa (Ee b P t)
  | 0, _ => fun k k0 k1 => by
    rw [Cm] at k1
    show 0 ≤ gt (List.replicate P.length none60) k ∧ gt (List.replicate P.length none60) k ≤ none60
    rw [Ft k0 k1]
    decide
  | t + 1, ht => fun k k0 k1 => by
    have ih := Pn hb hP t (by omega)
    rw [Cm] at k1
    show 0 ≤ gt ((Ee b P t).set t _) k ∧ gt ((Ee b P t).set t _) k ≤ none60
    rw [AQ (by rw [Cm]; omega) k0]
    split
    · exact Wf hb (by omega) (by omega) hP ih (Cm t)
    · exact ih k k0 (by rw [Cm]; exact k1)
theorem FQ {m : Nat} : ∀ bs : List (Int × Int), (∀ b ∈ bs, bOK b) → Oa (Aw m bs)
  | [], _ => fun k k0 k1 => by
    rw [Ba] at k1
    show 0 ≤ gt ((List.replicate m none60).set 0 0) k ∧ gt ((List.replicate m none60).set 0 0) k ≤ none60
    rw [AQ (by rw [List.length_replicate]; omega) k0]
    split
    · decide
    · rw [Ft k0 k1]
      decide
  | b :: bs, h => by
    have ih := FQ (m := m) bs fun x hx => h x (List.mem_cons_of_mem _ hx)
    exact Pn (h b (List.mem_cons_self ..)) ih _ (Nat.le_refl _)
theorem PM {row : List Int} {n : Int} : ∀ k : Nat, n ≤ BW row n k ∧ BW row n k ≤ n + k
  | 0 => by
    show n ≤ n ∧ n ≤ n + ((0 : Nat) : Int)
    omega
  | k + 1 => by
    have := PM (row := row) (n := n) k
    unfold BW
    split <;> omega
theorem Rn {row : List Int} {b : Int × Int} (hb : 1 ≤ b.1) : ∀ (f : Nat) (t : Int), 0 ≤ t → 0 ≤ (AR row b f t).1 ∧ (AR row b f t).1 ≤ t ∧ 0 ≤ (AR row b f t).2 ∧ (AR row b f t).2 ≤ f
  | 0, t, h => by
    show 0 ≤ t ∧ t ≤ t ∧ (0 : Int) ≤ 0 ∧ (0 : Int) ≤ ((0 : Nat) : Int)
    omega
  | f + 1, t, h => by
    unfold AR
    split
    · rename_i h1
      have := Rn (row := row) hb f (t - b.1) (by omega)
      show 0 ≤ (AR row b f (t - b.1)).1 ∧ (AR row b f (t - b.1)).1 ≤ t ∧ 0 ≤ (AR row b f (t - b.1)).2 + 1 ∧ (AR row b f (t - b.1)).2 + 1 ≤ ((f + 1 : Nat) : Int)
      omega
    · show 0 ≤ t ∧ t ≤ t ∧ (0 : Int) ≤ 0 ∧ (0 : Int) ≤ ((f + 1 : Nat) : Int)
      omega
theorem Jk {row : List Int} {b : Int × Int} (hb : 1 ≤ b.1) {t : Int} (h : b.1 ≤ t ∧ gt row (t - b.1) < none60 ∧ gt row (t - b.1) + b.2 = gt row t) : AR row b t.toNat t = ((AR row b (t - b.1).toNat (t - b.1)).1, (AR row b (t - b.1).toNat (t - b.1)).2 + 1) := by
  have fu : ∀ (f g : Nat) (t : Int), 0 ≤ t → t ≤ f → t ≤ g → AR row b f t = AR row b g t := by
    intro f
    induction f with
    | zero =>
      intro g t h0 h1 h2
      have : t = 0 := by omega
      subst this
      cases g with
      | zero => rfl
      | succ g =>
        unfold AR
        rw [if_neg (by omega)]
    | succ f ih =>
      intro g t h0 h1 h2
      cases g with
      | zero =>
        have : t = 0 := by omega
        subst this
        unfold AR
        rw [if_neg (by omega)]
      | succ g =>
        unfold AR
        by_cases hc : b.1 ≤ t ∧ gt row (t - b.1) < none60 ∧ gt row (t - b.1) + b.2 = gt row t
        · rw [if_pos hc, if_pos hc, ih g (t - b.1) (by omega) (by omega) (by omega)]
        · rw [if_neg hc, if_neg hc]
  obtain ⟨f, hf⟩ : ∃ f, t.toNat = f + 1 := ⟨t.toNat - 1, by omega⟩
  rw [hf]
  have e : AR row b (f + 1) t = ((AR row b f (t - b.1)).1, (AR row b f (t - b.1)).2 + 1) := by
    show (if _ then _ else _) = _
    rw [if_pos h]
  rw [e, fu f (t - b.1).toNat (t - b.1) (by omega) (by omega) (by omega)]
theorem IS {row : List Int} {b : Int × Int} {t : Int} (h : ¬ (b.1 ≤ t ∧ gt row (t - b.1) < none60 ∧ gt row (t - b.1) + b.2 = gt row t)) : AR row b t.toNat t = (t, 0) := by
  cases t.toNat with
  | zero => rfl
  | succ f =>
    show (if _ then _ else _) = _
    rw [if_neg h]
theorem Cr {m : Nat} : ∀ (bs : List (Int × Int)) (t : Int), (Bk m bs t).length = bs.length
  | [], _ => rfl
  | _ :: bs, _ => by rw [Bk, List.length_cons, Cr bs, List.length_cons]
theorem NQ {m : Nat} : ∀ (bs : List (Int × Int)) (t : Int) (k : Nat) (h : k < bs.length), E2 m bs t (k + 1) = (AR (Aw m (bs.drop k)) bs[k] (E2 m bs t k).toNat (E2 m bs t k)).1 ∧ (Bk m bs t)[k]'(by rw [Cr]; exact h) = (AR (Aw m (bs.drop k)) bs[k] (E2 m bs t k).toNat (E2 m bs t k)).2
  | [], _, _, h => absurd h (by simp)
  | b :: bs, t, 0, _ => ⟨by rw [E2]; cases bs <;> rfl, rfl⟩
  | b :: bs, t, k + 1, h => NQ bs (AR (Aw m (b :: bs)) b t.toNat t).1 k (by simpa using h)
theorem Qq {m : Nat} : ∀ (bs : List (Int × Int)) (t : Int) (k : Nat), (∀ b ∈ bs, bOK b) → 0 ≤ t → 0 ≤ E2 m bs t k ∧ E2 m bs t k ≤ t
  | _, t, 0, _, h => by rw [E2]; omega
  | [], t, _ + 1, _, h => by rw [E2]; omega
  | b :: bs, t, k + 1, hb, h => by
    have h1 := Rn (row := Aw m (b :: bs)) (hb b (List.mem_cons_self ..)).1.1 t.toNat t h
    have h2 := Qq (m := m) bs (AR (Aw m (b :: bs)) b t.toNat t).1 k (fun x hx => hb x (List.mem_cons_of_mem _ hx)) h1.1
    rw [E2]
    omega
end Go.Proofs.YtecodlefcmjihaaGreat
