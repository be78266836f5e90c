/- Trimmed by wip/trim.py to what this claim rests on. -/
import Derived.Test.YtkdjkkimngeloaaXVb21
namespace Go.Proofs.Ytkdjkkimngeloaa
open Go.RowKit
def RT (js : List (List Leg)) (ar out : List Int) (js' : List (List Leg)) : Prop := js'.length = js.length ∧ ∀ i (_ : i < js.length) (_ : i < js'.length), js'[i] = shf (geI out i - geI ar i) js[i]
def EO (js : List (List Leg)) (ar out : List Int) (i k : Nat) : List (List Leg) := js.mapIdx fun z j => if z < i then shf (geI out z - geI ar z) j else if z = i then shk (geI out z - geI ar z) j k else j
theorem CN {js : List (List Leg)} {ar out : List Int} {i k : Nat} : (EO js ar out i k).length = js.length := by unfold EO; simp
theorem CI {js : List (List Leg)} {ar out : List Int} {i k z : Nat} (h : z < js.length) (h2 : z < (EO js ar out i k).length) : (EO js ar out i k)[z] = if z < i then shf (geI out z - geI ar z) js[z] else if z = i then shk (geI out z - geI ar z) js[z] k else js[z] := by
  have e : (EO js ar out i k)[z]? = some (if z < i then shf (geI out z - geI ar z) js[z] else if z = i then shk (geI out z - geI ar z) js[z] k else js[z]) := by
    unfold EO
    rw [List.getElem?_mapIdx, List.getElem?_eq_getElem h]
    rfl
  rw [List.getElem?_eq_getElem h2] at e
  exact Option.some.inj e
theorem Pf {js : List (List Leg)} {ar out : List Int} : EO js ar out 0 0 = js := by
  apply List.ext_getElem
  · exact CN
  · intro z h1 h2
    rw [CI h2 h1, if_neg (by omega)]
    split
    · rw [My]
    · rfl
theorem Pe {js : List (List Leg)} {ar out : List Int} {i : Nat} (hi : i < js.length) : EO js ar out i js[i].length = EO js ar out (i + 1) 0 := by
  apply List.ext_getElem
  · rw [CN, CN]
  · intro z h1 h2
    have hz : z < js.length := by rw [CN] at h1; exact h1
    rw [CI hz h1, CI hz h2]
    by_cases c : z < i
    · rw [if_pos c, if_pos (by omega)]
    · rw [if_neg c]
      by_cases e : z = i
      · subst e
        rw [if_pos rfl, if_pos (by omega), RL]
      · rw [if_neg e, if_neg (by omega)]
        split
        · rw [My]
        · rfl
theorem Re {js : List (List Leg)} {ar out : List Int} : RT js ar out (EO js ar out js.length 0) := by
  refine ⟨CN, fun i h1 h2 => ?_⟩
  rw [CI h1 h2, if_pos h1]
theorem PV {js : List (List Leg)} {ar out : List Int} {i k : Nat} (hi : i < js.length) (hk : k < js[i].length) : (EO js ar out i k).set i ((shk (geI out i - geI ar i) js[i] k).set k (js[i][k].1, js[i][k].2 + (geI out i - geI ar i))) = EO js ar out i (k + 1) := by
  apply List.ext_getElem
  · rw [List.length_set, CN, CN]
  · intro z h1 h2
    have hz : z < js.length := by rw [CN] at h2; exact h2
    by_cases e : i = z
    · subst e
      rw [List.getElem_set_self, CI hz h2, if_neg (by omega), if_pos rfl, RW hk]
    · rw [List.getElem_set_ne e, CI hz, CI hz h2]
      by_cases c : z < i
      · rw [if_pos c, if_pos c]
      · rw [if_neg c, if_neg c, if_neg (fun x => e x.symm), if_neg (fun x => e x.symm)]
section
variable {σ : Hp}
def SJs (xs : List (Option Addr × Nat × Nat)) (js : List (List Leg)) (W : Rel) : Rel := fun σ τ => ∃ s1 s2, Du (jsL xs js) σ s1 ∧ W s1 s2 ∧ Hp.Sub s2 τ
theorem SJs.rd {xs : List (Option Addr × Nat × Nat)} {js : List (List Leg)} {W : Rel} {τ : Hp} (hW : Ao W) (h : SJs xs js W σ τ) {i : Nat} (h1 : i < xs.length) (h2 : i < js.length) : RdS sJ τ xs[i].1 xs[i].2.1 js[i] := by
  obtain ⟨s1, s2, q1, q2, q3⟩ := h
  exact (Tk q1 h1 h2).sub ((hW.sub q2).trans q3)
theorem SJs.st {xs : List (Option Addr × Nat × Nat)} {js : List (List Leg)} {W : Rel} {τ : Hp} {K : Hp → Prop} {v : Int} (hW : Ao W) (h : SJs xs js W σ τ) {i k : Nat} (h1 : i < xs.length) (h2 : i < js.length) (hk : k < js[i].length)
    (hK : ∀ τ', SJs xs (js.set i (js[i].set k (js[i][k].1, v))) W σ τ' → K τ') : ix xs[i].1 xs[i].2.1 (k : Int) 2 fun b a => st τ b (a + 1) (.int .i64 v) K := by
  obtain ⟨s1, s2, q1, q2, q3⟩ := h
  have hl : i < (jsL xs js).length := by unfold jsL; simp; omega
  obtain ⟨s0, q4, q5⟩ := Ku D4 hl q1
  rw [Qa hl h1 h2] at q5
  obtain ⟨s1', q6, q7⟩ := Ao.oj.swap hW q5 q2
  have q7 : Ap 60 sJ s1' xs[i].1 xs[i].2.1 xs[i].2.2 js[i] s2 := q7
  obtain ⟨b, off, hA, hp⟩ := Ap.put q7 q3 (i := k) hk
  have hln : xs[i].2.1 = js[i].length := Ap.len q7
  obtain ⟨hw, σ2, ho2, hs2⟩ := hp 1 (.int .i64 v) (js[i][k].1, v) rfl
  rw [hA]
  refine ⟨by omega, by omega, ?_, ?_⟩
  · simpa [BW, Nat.add_assoc] using hw
  · have ho2 : OJ xs[i] (js[i].set k (js[i][k].1, v)) s1' σ2 := ho2
    obtain ⟨s1'', q8, q9⟩ := hW.swap Ao.oj q6 ho2
    refine hK _ ⟨s1'', σ2, ?_, q9, ?_⟩
    · rw [← RZ h1]
      exact Mu D4 Ao.oj hl q4 q8
    · simpa [BW, Nat.add_assoc] using hs2
set_option maxRecDepth 100000 in
theorem MT {w : MW} {m : Mp} {t g : Int} {A : Option Addr} {n c : Nat} {ls : List LrT} (h : MIn σ w m) (hp : m.pk.length ≤ 4294967296) (hr : m.rs.length ≤ 4294967296) (hl : RdS sL σ A n ls) (hll : ls.length ≤ 4294967296) :
    Af Try.prog CJ #[w.v, .slice A n c, .int .i64 t, .int .i64 g] σ fun v σ' => Hp.Sub σ σ' ∧
      ((¬ cE m (ls.map AN) t g = 0 ∧ v = .tuple #[.slice none 0 0, .int .i64 (cE m (ls.map AN) t g)]) ∨ (cE m (ls.map AN) t g = 0 ∧ ((PS m (ls.map AN) t ∧ v = .tuple #[.slice none 0 0, .int .i64 3]) ∨
        ∃ A' n' c' js ar out js', v = .tuple #[.slice A' n' c', .int .i64 0] ∧ F3 σ' A' n' js' ∧ IS m (ls.map AN) t js ar ∧ FX ar g (DF ls.length) out ∧ RT js ar out js'))) := by
  refine Gz _ _ _ _ _ _ _ _ _ _ _ _ _ ?_
  unfold CS
  have hn := hl.lenL
  refine Bg CC (Kn (t := t) (g := g) h hp hr hl hll) ?_
  rintro v σ2 (⟨e, rfl, hs⟩ | ⟨e0, (⟨hno, rfl, hs⟩ | ⟨b, A12, n12, c12, A14, n14, c14, xs, js, ar, s1, rfl, hst, hW, hxj, hfl⟩)⟩)
  · exact ⟨_, _, rfl, Bu (fun _ => AC ⟨hs, .inl ⟨e, rfl⟩⟩) (fun g => absurd g e)⟩
  · exact ⟨_, _, rfl, Bu (fun _ => AC ⟨hs, .inr ⟨e0, .inl ⟨hno, rfl⟩⟩⟩) (fun g => by cases g)⟩
  refine ⟨_, _, rfl, Bu (fun g => absurd rfl g) (fun _ => ?_)⟩
  obtain ⟨e1, hg⟩ := Om e0
  obtain ⟨hm, h8, hlo, ht⟩ := JI e1
  rw [List.length_map] at h8
  have hjl : js.length = ls.length := by rw [hfl.1, List.length_map]
  have hal : ar.length = ls.length := by rw [hfl.2.1, List.length_map]
  have hsm : ∀ i (h1 : i < js.length) (h2 : i < ar.length), (0 ≤ ar[i] ∧ ar[i] ≤ 158000) ∧ js[i].length ≤ 156 ∧ ∀ x ∈ js[i], F8 m x ∧ 0 ≤ x.2 ∧ x.2 ≤ ar[i] := fun i h1 h2 =>
    (hfl.2.2 i (by rw [List.length_map]; omega) h1 h2).sml hm.ok (hlo _ (List.getElem_mem _))
  refine Ag fun J7 h7 => ?_
  obtain ⟨gb, gx, ga, gs⟩ := hW.get
  rw [hn]
  refine Bg Dt (ON (n := ls.length) (by omega)) ?_
  rintro v σ12 ⟨A13, l13, c13, rfl, ho13⟩
  refine ⟨_, _, _, rfl, ?_⟩
  have hs13 : Hp.Sub σ2 σ12 := Ap.sub ho13
  refine Bg BO (Kq (g := g) (hs13 _ _ gb) (ga.sub hs13) (Ap.rd ho13) (fun x hx => ?_) (by rw [Dp]; omega) (fun x hx => ?_) ⟨hg.1, by omega⟩) ?_
  · unfold DF at hx
    obtain ⟨i, hi, rfl⟩ := List.mem_map.1 hx
    have := List.mem_range.1 hi
    show 0 ≤ (i : Int) ∧ (i : Int) < _
    omega
  · obtain ⟨i, hi, rfl⟩ := List.mem_iff_getElem.1 hx
    have := (hsm i (by omega) hi).1
    omega
  rintro v σ15 ⟨A16, l16, c16, (out : List Int), rfl, ho16, harr⟩
  refine ⟨_, _, _, rfl, ?_⟩
  have hol : out.length = ls.length := by rw [harr.1, Dp]
  have hl16 : l16 = out.length := (Ap.rd ho16).1
  have hso : ∀ x ∈ DF ls.length, 0 ≤ geI ar x ∧ geI ar x ≤ 158000 := fun x hx => by
    unfold DF at hx
    obtain ⟨i, hi, rfl⟩ := List.mem_map.1 hx
    have hi := List.mem_range.1 hi
    have e : geI ar (Int.ofNat i) = ar[i]'(by omega) := Ey (i := i) (by omega)
    rw [e]
    exact (hsm i (by omega) (by omega)).1
  have hbo := harr.bnd hg.1 (M := 158000) hso
  -- all that lies on top
  obtain ⟨W, hWp, hW0, hWf⟩ : ∃ W : Rel, Ao W ∧ W s1 σ15 ∧ ∀ s τ, W s τ → τ b = some (flO A12 n12 c12 A14 n14 c14, true) ∧ RdS [.slc] τ A12 n12 xs ∧ RdS [.int .i64] τ A14 n14 ar ∧ RdS [.int .i64] τ A16 l16 out := by
    refine ⟨(FlW b A12 n12 c12 A14 n14 c14 xs ar).seq (Rel.seq (fun s τ => Ap 3 [.int .i64] s A13 l13 c13 (DF ls.length) τ) (fun s τ => Ap 3 [.int .i64] s A16 l16 c16 out τ)), Ao.flW.seq (Ao.own.seq Ao.own), ⟨σ2, hW, σ12, ho13, ho16⟩, ?_⟩
    rintro s τ ⟨s2, q1, s3, q2, q3⟩
    obtain ⟨r1, r2, r3, _⟩ := q1.get
    have hs := (Ap.sub q2).trans (Ap.sub q3)
    exact ⟨hs _ _ r1, r2.sub hs, r3.sub hs, Ap.rd q3⟩
  have hWf' : ∀ {js' τ}, SJs xs js' W σ τ → τ b = some (flO A12 n12 c12 A14 n14 c14, true) ∧ RdS [.slc] τ A12 n12 xs ∧ RdS [.int .i64] τ A14 n14 ar ∧ RdS [.int .i64] τ A16 l16 out ∧ Hp.Sub σ τ := by
    rintro js' τ ⟨s1, s2, q1, q2, q3⟩
    obtain ⟨r1, r2, r3, r4⟩ := hWf _ _ q2
    exact ⟨q3 _ _ r1, r2.sub q3, r3.sub q3, r4.sub q3, (JN D4 q1).trans ((hWp.sub q2).trans q3)⟩
  clear gb gx ga gs hW ho13 ho16 hs13
  refine ⟨fun q i τ => ∃ k : Nat, q = ls.length - k ∧ i = k ∧ k ≤ ls.length ∧ SJs xs (EO js ar out k 0) W σ τ, ⟨_, 0, rfl, rfl, Nat.zero_le _, s1, σ15, by rw [Pf]; exact hst, hW0, Hp.Sub.refl _⟩, ?_⟩
  rintro q i τ ⟨i, rfl, rfl, hi, hS⟩ _
  obtain ⟨r1, r2, r3, r4, r5⟩ := hWf' hS
  have hsk : ∀ k, (EO js ar out i k).length = js.length := fun k => CN
  refine Bd (fun hlt => ?_) (fun hge => ?_)
  · have hil : i < ls.length := by omega
    have hij : i < js.length := by omega
    have hix : i < xs.length := by omega
    have hn12 : n12 = xs.length := r2.lenS
    obtain ⟨⟨ha0, ha1⟩, hj156, hjx⟩ := hsm i hij (by omega)
    have hoi := hbo i (by omega)
    have hgi : g * (i : Int) ≤ 100 * 8 := Int.mul_le_mul hg.2 (by omega) (by omega) (by omega)
    have eo : geI out (i : Int) = out[i]'(by omega) := Ey (by omega)
    have ea : geI ar (i : Int) = ar[i]'(by omega) := Ey (by omega)
    refine Ag fun J24 h24 => ?_
    have k24 : ∀ τ, SJs xs (EO js ar out (i + 1) 0) W σ τ → J24 τ := by
      intro τ hS
      rw [h24]
      intro _
      exact AT (by omega) (BP _ (by omega) ⟨i + 1, rfl, rfl, by omega, hS⟩)
    clear h24
    refine EN r4 (by omega) (by simp; omega) ?_
    simp only [Int.toNat_natCast]
    refine AP (DK r1 rfl ?_)
    refine QY r2 (by omega) (by simp; omega) ?_
    simp only [Int.toNat_natCast]
    have hlen : xs[i].2.1 = js[i].length := by
      have := hS.rd hWp hix (by rw [hsk]; exact hij)
      rw [CI hij, if_neg (by omega), if_pos rfl] at this
      have := this.1
      rw [this]
      exact GT
    refine ⟨fun q p τ => ∃ k : Nat, q = js[i].length - k ∧ p = k ∧ k ≤ js[i].length ∧ SJs xs (EO js ar out i k) W σ τ, ⟨_, 0, rfl, rfl, Nat.zero_le _, hS⟩, ?_⟩
    clear hS r1 r2 r3 r4 r5 τ
    rintro q p τ ⟨k, rfl, rfl, hk, hS⟩ _
    obtain ⟨r1, r2, r3, r4, r5⟩ := hWf' hS
    refine Bd (fun hlt2 => ?_) (fun hge2 => ?_)
    · have hkl : k < js[i].length := by omega
      have hnow : (EO js ar out i k)[i]'(by rw [hsk]; exact hij) = shk (geI out i - geI ar i) js[i] k := by rw [CI hij, if_neg (by omega), if_pos rfl]
      have hkl2 : k < ((EO js ar out i k)[i]'(by rw [hsk]; exact hij)).length := by rw [hnow, GT]; exact hkl
      have hrdj := hS.rd hWp hix (by rw [hsk]; exact hij)
      rw [hnow] at hrdj
      refine AP (DK r1 rfl ?_)
      refine QY r2 (by omega) (by simp; omega) ?_
      simp only [Int.toNat_natCast]
      refine Rp hrdj (by omega) (by rw [Int.toNat_natCast, GT]; exact hkl) ?_
      simp only [Int.toNat_natCast]
      rw [PY hkl]
      refine AP (DK r1 rfl ?_)
      refine EN r3 (by omega) (by simp; omega) ?_
      simp only [Int.toNat_natCast]
      have hxk := (hjx _ (List.getElem_mem hkl)).2
      refine AT (by omega) (AT (by omega) ?_)
      refine hS.st hWp hix (by rw [hsk]; exact hij) hkl2 fun τ' hS' => AT (by omega) (BP _ (by omega) ⟨k + 1, rfl, rfl, by omega, ?_⟩)
      rw [← PV hij hkl, eo, ea]
      have e2 : ((EO js ar out i k)[i]'(by rw [hsk]; exact hij))[k]'hkl2 = js[i][k] := by
        have : ∀ (q : List Leg) (hq : k < q.length), q = shk (geI out i - geI ar i) js[i] k → q[k] = js[i][k] := by
          rintro q hq rfl
          exact PY hkl
        exact this _ hkl2 hnow
      rw [e2, hnow, eo, ea] at hS'
      exact hS'
    · obtain rfl : k = js[i].length := by omega
      rw [Pe hij] at hS
      exact k24 τ hS
  · obtain rfl : i = ls.length := by omega
    rw [h7]
    intro _
    refine AP (DK r1 rfl (AC ⟨r5, .inr ⟨e0, .inr ⟨_, _, _, js, ar, out, EO js ar out ls.length 0, rfl, ⟨xs, r2, by rw [hsk]; exact hxj, fun z h1 h2 => hS.rd hWp h1 h2⟩, hfl, harr, ?_⟩⟩⟩))
    rw [← hjl]
    exact Re
set_option maxRecDepth 100000 in
theorem Mg {w : MW} {m : Mp} {t g : Int} {A : Option Addr} {n c : Nat} {ls : List LrT} (h : MIn σ w m) (hp : m.pk.length ≤ 4294967296) (hr : m.rs.length ≤ 4294967296) (hl : RdS sL σ A n ls) (hll : ls.length ≤ 4294967296) :
    Af Try.prog CY #[w.v, .slice A n c, .int .i64 t, .int .i64 g] σ fun v σ' => Hp.Sub σ σ' ∧
      ((¬ cE m (ls.map AN) t g = 0 ∧ v = .tuple #[.slice none 0 0, .int .i64 (cE m (ls.map AN) t g)]) ∨ (cE m (ls.map AN) t g = 0 ∧ ((PS m (ls.map AN) t ∧ v = .tuple #[.slice none 0 0, .int .i64 3]) ∨
        ∃ A' n' c' js ar out, v = .tuple #[.slice A' n' c', .int .i64 0] ∧ RdS [.int .i64] σ' A' n' out ∧ IS m (ls.map AN) t js ar ∧ FX ar g (DF ls.length) out))) := by
  refine Gl _ _ _ _ _ _ _ _ _ _ _ _ _ ?_
  unfold CU
  have hn := hl.lenL
  refine Bg CC (Kn (t := t) (g := g) h hp hr hl hll) ?_
  rintro v σ2 (⟨e, rfl, hs⟩ | ⟨e0, (⟨hno, rfl, hs⟩ | ⟨b, A12, n12, c12, A14, n14, c14, xs, js, ar, s1, rfl, hst, hW, hxj, hfl⟩)⟩)
  · exact ⟨_, _, rfl, Bu (fun _ => AC ⟨hs, .inl ⟨e, rfl⟩⟩) (fun g => absurd g e)⟩
  · exact ⟨_, _, rfl, Bu (fun _ => AC ⟨hs, .inr ⟨e0, .inl ⟨hno, rfl⟩⟩⟩) (fun g => by cases g)⟩
  refine ⟨_, _, rfl, Bu (fun g => absurd rfl g) (fun _ => ?_)⟩
  obtain ⟨e1, hg⟩ := Om e0
  obtain ⟨hm, h8, hlo, ht⟩ := JI e1
  rw [List.length_map] at h8
  have hjl : js.length = ls.length := by rw [hfl.1, List.length_map]
  have hal : ar.length = ls.length := by rw [hfl.2.1, List.length_map]
  obtain ⟨gb, gx, ga, gs⟩ := hW.get
  rw [hn]
  refine Bg Dt (ON (n := ls.length) (by omega)) ?_
  rintro v σ12 ⟨A13, l13, c13, rfl, ho13⟩
  refine ⟨_, _, _, rfl, ?_⟩
  have hs13 : Hp.Sub σ2 σ12 := Ap.sub ho13
  refine Bg BO (Kq (g := g) (hs13 _ _ gb) (ga.sub hs13) (Ap.rd ho13) (fun x hx => ?_) (by rw [Dp]; omega) (fun x hx => ?_) ⟨hg.1, by omega⟩) ?_
  · unfold DF at hx
    obtain ⟨i, hi, rfl⟩ := List.mem_map.1 hx
    have := List.mem_range.1 hi
    show 0 ≤ (i : Int) ∧ (i : Int) < _
    omega
  · obtain ⟨i, hi, rfl⟩ := List.mem_iff_getElem.1 hx
    have := ((hfl.2.2 i (by rw [List.length_map]; omega) (by omega) hi).sml hm.ok (hlo _ (List.getElem_mem _))).1
    omega
  rintro v σ15 ⟨A16, l16, c16, (out : List Int), rfl, ho16, harr⟩
  exact ⟨_, _, _, rfl, AC ⟨(JN D4 hst).trans (gs.trans (hs13.trans (Ap.sub ho16))), .inr ⟨e0, .inr ⟨_, _, _, js, ar, out, rfl, Ap.rd ho16, hfl, harr⟩⟩⟩⟩
end
end Go.Proofs.Ytkdjkkimngeloaa
