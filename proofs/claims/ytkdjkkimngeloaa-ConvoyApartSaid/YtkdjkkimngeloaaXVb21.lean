/- Trimmed by wip/trim.py to what this claim rests on. -/
import Derived.Test.YtkdjkkimngeloaaXVa8
import Derived.Test.YtkdjkkimngeloaaXVb18
import Derived.Test.YtkdjkkimngeloaaXC5
namespace Go.Proofs.Ytkdjkkimngeloaa
open Go.RowKit
def OJ (x : Option Addr × Nat × Nat) (j : List Leg) : Rel := S6 x.1 x.2.1 x.2.2 j
def jsL (xs : List (Option Addr × Nat × Nat)) (js : List (List Leg)) : List Rel := List.zipWith OJ xs js
theorem Ao.oj {x : Option Addr × Nat × Nat} {j : List Leg} : Ao (OJ x j) := Ao.ownJ
theorem D4 {xs : List (Option Addr × Nat × Nat)} {js : List (List Leg)} : ∀ R ∈ jsL xs js, Ao R := fun R hR => by
  unfold jsL at hR
  obtain ⟨i, hi, rfl⟩ := List.mem_iff_getElem.1 hR
  rw [List.getElem_zipWith]
  exact Ao.oj
theorem QI {xs : List (Option Addr × Nat × Nat)} {js : List (List Leg)} {x : Option Addr × Nat × Nat} {j : List Leg} (h : xs.length = js.length) : jsL (xs ++ [x]) (js ++ [j]) = jsL xs js ++ [OJ x j] := by
  unfold jsL
  rw [List.zipWith_append h]
  rfl
theorem Qa {xs : List (Option Addr × Nat × Nat)} {js : List (List Leg)} {i : Nat} (h : i < (jsL xs js).length) (h1 : i < xs.length) (h2 : i < js.length) : (jsL xs js)[i] = OJ xs[i] js[i] := by
  have e : (jsL xs js)[i]? = some (OJ xs[i] js[i]) := by
    unfold jsL
    rw [List.getElem?_zipWith, List.getElem?_eq_getElem h1, List.getElem?_eq_getElem h2]
  rw [List.getElem?_eq_getElem h] at e
  exact Option.some.inj e
theorem RZ {xs : List (Option Addr × Nat × Nat)} {js : List (List Leg)} {i : Nat} {j : List Leg} (h1 : i < xs.length) : (jsL xs js).set i (OJ xs[i] j) = jsL xs (js.set i j) := by
  apply List.ext_getElem?
  intro k
  unfold jsL
  rw [List.getElem?_zipWith]
  by_cases e : i = k
  · subst e
    by_cases h2 : i < js.length
    · rw [List.getElem?_set_self (by simp; omega), List.getElem?_set_self h2, List.getElem?_eq_getElem h1]
    · rw [List.getElem?_eq_none (by simp; omega), List.getElem?_eq_none (l := js.set i j) (by simp; omega)]
      cases xs[i]? <;> rfl
  · rw [List.getElem?_set_ne e, List.getElem?_set_ne e, List.getElem?_zipWith]
theorem JN : ∀ {rs : List Rel} {σ σ' : Hp}, (∀ R ∈ rs, Ao R) → Du rs σ σ' → Hp.Sub σ σ' := fun hp h => (Ao.star hp).sub h
theorem Tk {xs : List (Option Addr × Nat × Nat)} {js : List (List Leg)} {σ σ' : Hp} (h : Du (jsL xs js) σ σ') {i : Nat} (h1 : i < xs.length) (h2 : i < js.length) : RdS sJ σ' xs[i].1 xs[i].2.1 js[i] := by
  have hl : i < (jsL xs js).length := by unfold jsL; simp; omega
  obtain ⟨σ1, _, h3⟩ := Ku D4 hl h
  rw [Qa hl h1 h2] at h3
  exact Ap.rd h3
abbrev flO (A : Option Addr) (n c : Nat) (A' : Option Addr) (n' c' : Nat) : Obj := .cells #[.slice A n c, .slice A' n' c'] 115 (0, 0)
def FlW (b : Nat) (A : Option Addr) (n c : Nat) (A' : Option Addr) (n' c' : Nat) (xs : List (Option Addr × Nat × Nat)) (ar : List Int) : Rel :=
  Rel.seq (fun s τ => Ap 32 [.slc] s A n c xs τ) (Rel.seq (fun s τ => Ap 3 [.int .i64] s A' n' c' ar τ) (Blk b (flO A n c A' n' c')))
theorem Ao.flW {b : Nat} {A A' : Option Addr} {n c n' c' : Nat} {xs : List (Option Addr × Nat × Nat)} {ar : List Int} : Ao (FlW b A n c A' n' c' xs ar) := Ao.own.seq (Ao.own.seq Ao.blk)
theorem FlW.get {b : Nat} {A A' : Option Addr} {n c n' c' : Nat} {xs : List (Option Addr × Nat × Nat)} {ar : List Int} {s τ : Hp} (h : FlW b A n c A' n' c' xs ar s τ) : τ b = some (flO A n c A' n' c', true) ∧ RdS [.slc] τ A n xs ∧ RdS [.int .i64] τ A' n' ar ∧ Hp.Sub s τ := by
  obtain ⟨s1, h1, s2, h2, h3⟩ := h
  exact ⟨h3.get, (Ap.rd h1).sub ((Ap.sub h2).trans h3.sub), (Ap.rd h2).sub h3.sub, (Ap.sub h1).trans ((Ap.sub h2).trans h3.sub)⟩
section
variable {σ : Hp}
set_option maxRecDepth 20000 in
theorem ON {n : Nat} (hn : n ≤ 1000000) : Af Try.prog J4 #[.int .i64 (n : Int)] σ fun v σ' => ∃ A n' c, v = .slice A n' c ∧ Ap 3 [.int .i64] σ A n' c (DF n) σ' := by
  refine HM _ _ _ ?_
  unfold Eb
  refine Ag fun J3 h3 => ?_
  refine ⟨fun q (xs : List Int) i τ => ∃ k : Nat, q = n - k ∧ i = k ∧ k ≤ n ∧ τ = σ ∧ xs = DF k, ⟨n, [], σ, Ap.nil .., 0, rfl, rfl, Nat.zero_le _, rfl, rfl⟩, ?_⟩
  rintro q xs i τ ⟨k, rfl, rfl, hk, rfl, rfl⟩ _
  refine Bd (fun hlt => ?_) (fun hge => ?_)
  · exact Bh (by rw [Dp, List.length_singleton]; omega) (AT (by omega) (BP _ (by omega) ⟨k + 1, rfl, rfl, by omega, rfl, PT.symm⟩))
  · obtain rfl : k = n := by omega
    rw [h3]
    intro _ A n' c σ6 ho
    exact AC ⟨A, n', c, rfl, ho⟩
set_option maxRecDepth 20000 in
theorem Kq {b : Nat} {A A' oA : Option Addr} {n c n' c' on oc : Nat} {ar os : List Int} {g : Int} {rw1 : Bool} (hb : σ b = some (flO A n c A' n' c', rw1)) (hr : RdS [.int .i64] σ A' n' ar) (ho : RdS [.int .i64] σ oA on os) (hos : ∀ x ∈ os, 0 ≤ x ∧ x < ar.length) (hl : os.length ≤ 1000000)
    (ha : ∀ x ∈ ar, 0 ≤ x ∧ x ≤ 1000000000) (hg : 0 ≤ g ∧ g ≤ 1000000) : Af Try.prog EX #[.pointer (some ⟨b, 0, none⟩), .slice oA on oc, .int .i64 g] σ fun v σ' => ∃ A n c out, v = .slice A n c ∧ Ap 3 [.int .i64] σ A n c out σ' ∧ FX ar g os out := by
  refine D1 _ _ _ _ _ _ _ ?_
  unfold BM
  have hon : on = os.length := ho.1
  have hnn : n' = ar.length := hr.1
  have hso : ∀ x ∈ os, 0 ≤ geI ar x ∧ geI ar x ≤ 1000000000 := fun x hx => by
    obtain ⟨h1, h2⟩ := hos x hx
    rw [Nl (by omega)]
    exact ha _ (List.getElem_mem _)
  refine Ag fun J3 h3 => ?_
  refine ⟨fun q (xs : List Int) i τ => ∃ k : Nat, q = os.length - k ∧ i = k ∧ k ≤ os.length ∧ τ = σ ∧ FX ar g (os.take k) xs, ⟨os.length, [], σ, Ap.nil .., 0, rfl, rfl, Nat.zero_le _, rfl, FX.zero⟩, ?_⟩
  rintro q xs i τ ⟨k, rfl, rfl, hk, rfl, hx⟩ _
  have hxl : xs.length = k := by rw [hx.1, List.length_take]; omega
  refine Bd (fun hlt => ?_) (fun hge => ?_)
  · have hkl : k < os.length := by omega
    have hok := hos _ (List.getElem_mem hkl)
    have hsk := hso _ (List.getElem_mem hkl)
    have htk : os.take (k + 1) = os.take k ++ [os[k]] := List.take_succ_eq_append_getElem hkl
    refine Ag fun J17 h17 => ?_
    have k17 : ∀ y : Int, (y = if xs.length = 0 then geI ar os[k] else max (geI ar os[k]) (geI xs ((xs.length - 1 : Nat) : Int) + g)) → J17 (xs ++ [y]) τ := by
      intro y hy
      rw [h17]
      intro _
      refine AT (by omega) (BP _ (by omega) ⟨k + 1, rfl, rfl, by omega, rfl, ?_⟩)
      rw [htk]
      exact hx.add hy
    clear h17
    refine EN ho (by omega) (by simpa using hkl) ?_
    simp only [Int.toNat_natCast]
    refine AP (DK hb rfl (EN hr hok.1 (by omega) ?_))
    rw [← Nl (xs := ar) (by omega)]
    refine Ag fun J33 h33 => ?_
    have k33 : ∀ y : Int, (y = if xs.length = 0 then geI ar os[k] else max (geI ar os[k]) (geI xs ((xs.length - 1 : Nat) : Int) + g)) → J33 y τ := by
      intro y hy
      rw [h33]
      intro _
      exact Bh (by show xs.length + 1 ≤ _; omega) (k17 y hy)
    clear h33
    refine Bd (fun gk => ?_) (fun gk => k33 _ (by rw [if_pos (by omega)]))
    have e1 : ((k : Int) - 1) = ((k - 1 : Nat) : Int) := by omega
    refine AT (by omega) ?_
    rw [e1]
    refine ⟨by omega, by omega, S1 (show (((k - 1 : Nat) : Int)).toNat < xs.length by rw [Int.toNat_natCast]; omega) ?_⟩
    simp only [Int.toNat_natCast]
    have hbn := hx.bnd hg.1 (M := 1000000000) (fun x hx2 => hso x (List.mem_of_mem_take hx2)) (k - 1) (by omega)
    have hgm : g * ((k - 1 : Nat) : Int) ≤ 1000000 * 1000000 := Int.mul_le_mul hg.2 (by omega) (by omega) (by omega)
    refine AT (by omega) (k33 _ ?_)
    have e2 : geI xs ((xs.length - 1 : Nat) : Int) = xs[k - 1]'(by omega) := by
      rw [Ey (by omega)]
      congr 1
      omega
    have hne : ¬ xs.length = 0 := by omega
    rw [if_neg hne, e2]
    generalize geI ar os[k] = p
    generalize xs[k - 1]'(by omega) = q2
    by_cases c : q2 + g > p
    · rw [if_pos c]; omega
    · rw [if_neg c]; omega
  · obtain rfl : k = os.length := by omega
    rw [List.take_length] at hx
    rw [h3]
    intro _ A3 n3 c3 σ6 ho3
    exact AC ⟨A3, n3, c3, xs, rfl, ho3, hx⟩
theorem S7 {A : Option Addr} {n : Nat} {xs : List Rdt} {i : Int} {K : Int → Prop} (h : RdS sR σ A n xs) (hi : 0 ≤ i) (hn : i.toNat < xs.length) (hk : K xs[i.toNat].2.2.1) :
    ix A n i 5 fun b a => ldI σ .i64 b (a + 2) K := by
  refine Hd (ss := sR) h rfl hi hn fun b o hc => ?_
  exact BA (hc 2 (by decide)) hk
def PS (m : Mp) (ls : List Lry) (t : Int) : Prop := ∃ l ∈ ls, Non m l t
theorem IS.nn {m : Mp} {ls : List Lry} {t : Int} {js : List (List Leg)} {ar : List Int} (h : IS m ls t js ar) : ¬ PS m ls t := fun ⟨l, hl, hn⟩ => by
  obtain ⟨i, hi, rfl⟩ := List.mem_iff_getElem.1 hl
  exact (h.2.2 i hi (by rw [h.1]; exact hi) (by rw [h.2.1]; exact hi)).nn hn
theorem Om {m : Mp} {ls : List Lry} {t g : Int} (h : cE m ls t g = 0) : eT m ls t = 0 ∧ 0 ≤ g ∧ g ≤ 100 := by
  unfold cE at h
  by_cases e1 : eT m ls t = 0
  · rw [if_pos e1] at h
    by_cases e2 : 0 ≤ g ∧ g ≤ 100
    · exact ⟨e1, e2⟩
    · rw [if_neg e2] at h
      cases h
  · rw [if_neg e1] at h
    exact absurd h e1
theorem Bst.sml {m : Mp} {l : Lry} {t a : Int} {js : List Leg} (hm : BJ m) (hl : AZ m l) (h : Bst m l t (a, js)) : (0 ≤ a ∧ a ≤ 158000) ∧ js.length ≤ 156 ∧ ∀ x ∈ js, F8 m x ∧ 0 ≤ x.2 ∧ x.2 ≤ a := by
  obtain ⟨h1, h2, h3, h4⟩ := h.short hm hl
  have h5 : (m.pk.length + 1) * m.pk.length ≤ 13 * 12 := Nat.mul_le_mul (by have := hm.n; omega) hm.n.2
  have hy := hl.y
  exact ⟨⟨h3, by omega⟩, by omega, h2⟩
set_option maxRecDepth 100000 in
theorem Kn {w : MW} {m : Mp} {t g : Int} {A : Option Addr} {n c : Nat} {ls : List LrT} (h : MIn σ w m) (hp : m.pk.length ≤ 4294967296) (hr : m.rs.length ≤ 4294967296) (hl : RdS sL σ A n ls) (hll : ls.length ≤ 4294967296) :
    Af Try.prog Ie #[w.v, .slice A n c, .int .i64 t, .int .i64 g] σ fun v σ' =>
      (¬ cE m (ls.map AN) t g = 0 ∧ v = .tuple #[.pointer none, .int .i64 (cE m (ls.map AN) t g)] ∧ Hp.Sub σ σ') ∨ (cE m (ls.map AN) t g = 0 ∧ ((PS m (ls.map AN) t ∧ v = .tuple #[.pointer none, .int .i64 3] ∧ Hp.Sub σ σ') ∨
        ∃ b A12 n12 c12 A14 n14 c14 xs js ar s1, v = .tuple #[.pointer (some ⟨b, 0, none⟩), .int .i64 0] ∧ Du (jsL xs js) σ s1 ∧ FlW b A12 n12 c12 A14 n14 c14 xs ar s1 σ' ∧ xs.length = js.length ∧ IS m (ls.map AN) t js ar)) := by
  refine Gi _ _ _ _ _ _ _ _ _ _ _ _ _ ?_
  unfold CZ
  have hn := hl.lenL
  refine clI Be (El h hp hr hl hll) ?_
  refine Bu (fun e => AC (.inl ⟨?_, ?_, Hp.Sub.refl _⟩)) (fun e => ?_)
  · unfold cE; rw [if_neg e]; exact e
  · unfold cE; rw [if_neg e]
  obtain ⟨hm, h8, hlo, ht⟩ := JI e
  rw [List.length_map] at h8
  refine BF (fun g1 => CX ?_) (fun g1 => C1 (AC (.inl ⟨?_, ?_, Hp.Sub.refl _⟩)))
  case refine_2 => unfold cE; rw [if_pos e, if_neg g1]; decide
  case refine_3 => unfold cE; rw [if_pos e, if_neg g1]
  have hc : cE m (ls.map AN) t g = 0 := by unfold cE; rw [if_pos e, if_pos g1]
  refine Ag fun J9 h9 => ?_
  refine ⟨fun q i (xs : List (Option Addr × Nat × Nat)) (ar : List Int) τ => ∃ (k : Nat) (js : List (List Leg)), q = ls.length - k ∧ i = k ∧ k ≤ ls.length ∧ Du (jsL xs js) σ τ ∧ xs.length = js.length ∧ IS m ((ls.map AN).take k) t js ar, ⟨ls.length, [], σ, Ap.nil .., [], σ, Ap.nil .., 0, [], rfl, rfl, Nat.zero_le _, rfl, rfl, rfl, rfl, fun i hi => absurd hi (Nat.not_lt_zero _)⟩, ?_⟩
  rintro q i xs ar τ ⟨k, js, rfl, rfl, hk, hst, hxj, hfl⟩ _
  have hjl : js.length = k := by rw [hfl.1, List.length_take, List.length_map]; omega
  have hal : ar.length = k := by rw [hfl.2.1, List.length_take, List.length_map]; omega
  have hs := JN D4 hst
  refine Bd (fun hlt => ?_) (fun hge => ?_)
  · have hkl : k < ls.length := by omega
    have hkm : k < (ls.map AN).length := by rw [List.length_map]; exact hkl
    have hlk : AZ m (AN ls[k]) := hlo _ (List.mem_map_of_mem (List.getElem_mem hkl))
    have htk : (ls.map AN).take (k + 1) = (ls.map AN).take k ++ [AN ls[k]] := by
      rw [List.take_succ_eq_append_getElem hkm, List.getElem_map]
    refine Ag fun J31 h31 => ?_
    refine Oi (hl.sub hs) (by omega) (by simpa using hkl) ?_
    simp only [Int.toNat_natCast]
    refine Bg B4 (OU (l := AN ls[k]) (t := t) (h.up hs) hm.ok hlk) ?_
    rintro v σ46 (⟨rfl, rfl, hno⟩ | ⟨A47, l47, c47, (j : List Leg), a, rfl, ho, hb⟩)
    · exact ⟨_, _, _, _, rfl, Hf (fun _ => AC (.inr ⟨hc, .inl ⟨⟨_, List.mem_map_of_mem (List.getElem_mem hkl), hno⟩, rfl, hs⟩⟩)) (fun e => by cases e)⟩
    · refine ⟨_, _, _, _, rfl, Hf (fun e => by cases e) (fun _ => ?_)⟩
      have hln : l47 = j.length := (Ap.rd ho).1
      obtain ⟨⟨ha0, ha1⟩, hj156, hjx⟩ := hb.sml hm.ok hlk
      have hst2 : Du (jsL (xs ++ [(A47, l47, c47)]) (js ++ [j])) σ σ46 := by
        rw [QI hxj]
        exact PG D4 Ao.oj hst ho
      have hs2 : Hp.Sub τ σ46 := Ap.sub ho
      have hfl2 : IS m ((ls.map AN).take (k + 1)) t (js ++ [j]) (ar ++ [a]) := by
        refine ⟨by rw [htk]; simp [hfl.1], by rw [htk]; simp [hfl.2.1], fun z h1 h2 h3 => ?_⟩
        by_cases ez : z < k
        · have e1 : ((ls.map AN).take (k + 1))[z]'h1 = ((ls.map AN).take k)[z]'(by rw [List.length_take]; omega) := by rw [List.getElem_take, List.getElem_take]
          have e2 : (js ++ [j])[z]'h2 = js[z]'(by omega) := List.getElem_append_left (by omega)
          have e3 : (ar ++ [a])[z]'h3 = ar[z]'(by omega) := List.getElem_append_left (by omega)
          rw [e1, e2, e3]
          exact hfl.2.2 z _ _ _
        · have ek : z = k := by
            have : z < js.length + 1 := by simpa using h2
            omega
          subst ek
          have e1 : ((ls.map AN).take (z + 1))[z]'h1 = AN ls[z] := by rw [List.getElem_take, List.getElem_map]
          have e2 : (js ++ [j])[z]'h2 = j := by rw [List.getElem_append_right (by omega)]; simp [hjl]
          have e3 : (ar ++ [a])[z]'h3 = a := by rw [List.getElem_append_right (by omega)]; simp [hal]
          rw [e1, e2, e3]
          exact hb
      have k31 : J31 (xs ++ [(A47, l47, c47)]) (ar ++ [a]) σ46 := by
        rw [h31]
        intro _
        exact AT (by omega) (BP _ (by omega) ⟨k + 1, js ++ [j], rfl, rfl, by omega, hst2, by simp [hxj], hfl2⟩)
      clear h31
      refine Ag fun J51 h51 => ?_
      have k51 : J51 a σ46 := by
        rw [h51]
        intro _
        have one : BG (List.length xs + List.length ([(A47, l47, c47)] : List (Option Addr × Nat × Nat))) (BG (List.length ar + List.length ([a] : List Int)) (J31 (xs ++ ([(A47, l47, c47)] : List (Option Addr × Nat × Nat))) (ar ++ ([a] : List Int)) σ46)) :=
          Bh (by show xs.length + 1 ≤ _; omega) (Bh (by show ar.length + 1 ≤ _; omega) k31)
        exact ⟨one, one⟩
      clear h51
      have hlast := hb.last
      refine Bd (fun gn => ?_) (fun gn => ?_)
      · have e1 : ((l47 : Int) - 1) = ((j.length - 1 : Nat) : Int) := by omega
        refine AT (by omega) ?_
        rw [e1]
        have hjk : j.length - 1 < j.length := by omega
        obtain ⟨hok, hae⟩ := hlast.2 (j.length - 1) hjk (by omega)
        have hrdj := Ap.rd ho
        refine Rp hrdj (by omega) (by rw [Int.toNat_natCast]; exact hjk) ?_
        refine AT (by omega) ?_
        refine SX hrdj (by omega) (by rw [Int.toNat_natCast]; exact hjk) ?_
        simp only [Int.toNat_natCast]
        have hrk : (j[j.length - 1]).1.toNat < m.rs.length := by have := hok.1; have := hok.2; omega
        refine S7 ((h.up hs).up hs2).r hok.1 hrk ?_
        rw [← LS hrk]
        have hx2 := (hjx _ (List.getElem_mem hjk)).2
        obtain ⟨_, _, _, ⟨_, g5⟩, _⟩ := hm.ok.rd (x := j[j.length - 1]) hok
        refine AT (by omega) ?_
        rw [← hae]
        exact k51
      · have hj0 : j = [] := List.eq_nil_of_length_eq_zero (by omega)
        have hae := hlast.1 hj0
        rw [hae] at k51
        exact k51
  · obtain rfl : k = ls.length := by omega
    rw [List.take_of_length_le (by rw [List.length_map]; exact Nat.le_refl _)] at hfl
    rw [h9]
    intro _ A12 l12 c12 σ13 ho1 A14 l14 c14 σ15 ho2 b16 nb
    exact AC (.inr ⟨hc, .inr ⟨b16, A12, l12, c12, A14, l14, c14, xs, js, ar, τ, rfl, hst, ⟨σ13, ho1, σ15, ho2, nb, rfl⟩, hxj, hfl⟩⟩)
end
end Go.Proofs.Ytkdjkkimngeloaa
