/- Trimmed by wip/trim.py to what this claim rests on. -/
import Derived.Test.YtecodlefcmjihaaGreatWSb1
import Derived.Test.YtecodlefcmjihaaGreatWTk7
import Derived.Test.YtecodlefcmjihaaGreatWSe1
namespace Go.Proofs.YtecodlefcmjihaaGreat
open Go.RowKit
def Vp (B : List BthG) (G : List Grp) (v : Vis) : Dl := (v.left, 2, v.1, v.ride, (bd B v.ride).price * (gd G v.1).size)
def rid (B : List BthG) (G : List Grp) : List Vis → List Dl
  | [] => []
  | v :: V => if v.on = true then Vp B G v :: rid B G V else rid B G V
theorem Li {B : List BthG} {G : List Grp} {v : Vis} {V : List Vis} : rid B G (v :: V) = if v.on = true then Vp B G v :: rid B G V else rid B G V := rfl
theorem Tf {B : List BthG} {G : List Grp} : ∀ {V W : List Vis}, rid B G (V ++ W) = rid B G V ++ rid B G W
  | [], _ => rfl
  | v :: V, W => by
    rw [List.cons_append, Li, Li, Tf (V := V)]
    split <;> rfl
theorem LF {B : List BthG} {G : List Grp} : ∀ {V : List Vis} {d : Dl}, d ∈ rid B G V → ∃ v ∈ V, v.on = true ∧ d = Vp B G v
  | [], _, h => by cases h
  | v :: V, d, h => by
    unfold rid at h
    split at h
    · rename_i hon
      rcases List.mem_cons.1 h with h | h
      · exact ⟨v, List.mem_cons_self .., hon, h⟩
      · obtain ⟨u, hu, q⟩ := LF h
        exact ⟨u, List.mem_cons_of_mem _ hu, q⟩
    · obtain ⟨u, hu, q⟩ := LF h
      exact ⟨u, List.mem_cons_of_mem _ hu, q⟩
theorem Oi {B : List BthG} {G : List Grp} : ∀ {V : List Vis}, (V.Pairwise fun u v => u.left ≤ v.left) → (rid B G V).Pairwise fun a b => a.1 ≤ b.1
  | [], _ => List.Pairwise.nil
  | v :: V, h => by
    rw [List.pairwise_cons] at h
    unfold rid
    split
    · rw [List.pairwise_cons]
      refine ⟨fun d hd => ?_, Oi h.2⟩
      obtain ⟨u, hu, _, rfl⟩ := LF hd
      exact h.1 u hu
    · exact Oi h.2
section
variable {B : List BthG} {G : List Grp} {V : List Vis} {tk hd : List Int} {w : Int} {hm : List Int} {p b : Int}
theorem Sy {F : Fai} {g : Int} : ∀ {V : List Vis}, sm (pcd F g) (rid B G V) = -pg B G V g
  | [] => rfl
  | v :: V => by
    have ih := Sy (F := F) (g := g) (V := V)
    have e : pg B G (v :: V) g = (if v.on = true ∧ v.1 = g then (bd B v.ride).price * (gd G v.1).size else 0) + pg B G V g := rfl
    rw [e]
    unfold rid
    split
    · rename_i hon
      rw [Gf, ih]
      have e2 : pcd F g (Vp B G v) = if v.1 = g then -((bd B v.ride).price * (gd G v.1).size) else 0 := rfl
      rw [e2]
      by_cases c : v.1 = g
      · rw [if_pos c, if_pos ⟨hon, c⟩]; omega
      · rw [if_neg c, if_neg (fun h => c h.2)]; omega
    · rename_i hon
      rw [ih, if_neg (fun h => hon h.1)]; omega
theorem Si : ∀ {V : List Vis} {g : Int}, (∀ v ∈ V, 0 ≤ (bd B v.ride).price * (gd G v.1).size) → (0 ≤ pg B G V g ∧ ∀ v ∈ V, v.on = true → v.1 = g → (bd B v.ride).price * (gd G v.1).size ≤ pg B G V g)
  | [], _, _ => ⟨Int.le_refl _, fun v hv => by cases hv⟩
  | u :: V, g, h => by
    obtain ⟨i0, ih⟩ := Si (V := V) (g := g) fun v hv => h v (List.mem_cons_of_mem _ hv)
    have hu := h u (List.mem_cons_self ..)
    have e : pg B G (u :: V) g = (if u.on = true ∧ u.1 = g then (bd B u.ride).price * (gd G u.1).size else 0) + pg B G V g := rfl
    rw [e]
    refine ⟨?_, fun v hv hon hg => ?_⟩
    · split <;> omega
    · rcases List.mem_cons.1 hv with rfl | hv
      · rw [if_pos ⟨hon, hg⟩]; omega
      · have := ih v hv hon hg
        split <;> omega
end
end Go.Proofs.YtecodlefcmjihaaGreat
namespace Go.Proofs.YtecodlefcmjihaaGreat
open Go.RowKit
def vW (w : Int × Int → Int) : List (Int × Int) → List Int → Int
  | b :: bs, k :: ks => k * w b + vW w bs ks
  | _, _ => 0
theorem UA : ∀ (bs : List (Int × Int)) (ks : List Int), vW Prod.fst bs ks = vT bs ks
  | [], _ => by simp [vW, vT]
  | _ :: _, [] => by simp [vW, vT]
  | b :: bs, k :: ks => by show k * b.1 + _ = k * b.1 + _; rw [UA bs ks]
theorem Xz : ∀ (bs : List (Int × Int)) (ks : List Int), vW Prod.snd bs ks = vP bs ks
  | [], _ => by simp [vW, vP]
  | _ :: _, [] => by simp [vW, vP]
  | b :: bs, k :: ks => by show k * b.2 + _ = k * b.2 + _; rw [Xz bs ks]
theorem Tn {w : Int × Int → Int} : ∀ {bs : List (Int × Int)} {ks : List Int} {b : Int × Int} {k : Int}, ks.length = bs.length → vW w (bs ++ [b]) (ks ++ [k]) = vW w bs ks + k * w b
  | [], [], _, _, _ => by simp [vW]
  | [], _ :: _, _, _, h => by simp at h
  | _ :: _, [], _, _, h => by simp at h
  | x :: bs, y :: ks, b, k, h => by
    have ih := Tn (w := w) (bs := bs) (ks := ks) (b := b) (k := k) (by simpa using h)
    show y * w x + vW w (bs ++ [b]) (ks ++ [k]) = y * w x + vW w bs ks + k * w b
    rw [ih]; omega
theorem PF {w : Int × Int → Int} {bs : List (Int × Int)} {ks : List Int} {j : Nat} (hl : ks.length = bs.length) (h : j < bs.length) : vW w (bs.take (j + 1)) (ks.take (j + 1)) = vW w (bs.take j) (ks.take j) + gt ks j * w (bs.getD j (0, 0)) := by
  rw [List.take_succ_eq_append_getElem h, List.take_succ_eq_append_getElem (by omega), Tn (by simp [hl]), Cd (by omega)]
  have e : bs.getD j (0, 0) = bs[j] := by simp [List.getD, h]
  rw [e]
def spK (i : Int) (ms : List Int) : Nat → List Dl
  | 0 => []
  | b + 1 => spK i ms b ++ List.replicate (gt ms b).toNat (((0 : Int), (1 : Int), (0 : Int), i, (b : Int)) : Dl)
def Cl (bs : List (Int × Int)) (n : Int) : List Int := Bk (n + 1001).toNat bs (sel bs n)
def Bh (G : List Grp) (hd : List Int) (i : Nat) : Int := (gd G i).tokens - gt hd i
def spD (bs : List (Int × Int)) (G : List Grp) (hd : List Int) : Nat → List Dl
  | 0 => []
  | i + 1 => spD bs G hd i ++ spK i (Cl bs (Bh G hd i)) bs.length
def BZ (G : List Grp) (hd : List Int) (k : Nat) : List Int := (List.range k).map (Bh G hd)
theorem FG {G : List Grp} {hd : List Int} {k : Nat} : BZ G hd (k + 1) = BZ G hd k ++ [Bh G hd k] := by
  unfold BZ
  rw [List.range_succ, List.map_append]
  rfl
theorem Vi {f : Dl → Int} {d : Dl} : ∀ n : Nat, sm f (List.replicate n d) = n * f d
  | 0 => by simp [sm, AB]
  | n + 1 => by
    rw [List.replicate_succ, Gf, Vi n, Int.natCast_add, Int.add_mul]
    simp
    omega
theorem Vg {f : Dl → Int} {i c : Int} {w : Int × Int → Int} {bs : List (Int × Int)} {ms : List Int} (hl : ms.length = bs.length) (h0 : KJ ms) : ∀ b : Nat, b ≤ bs.length → (∀ j : Nat, j < b → f (0, 1, 0, i, (j : Int)) = c * w (bs.getD j (0, 0))) → sm f (spK i ms b) = c * vW w (bs.take b) (ms.take b)
  | 0, _, _ => by simp [spK, sm, AB, vW]
  | b + 1, hb, h => by
    have hg : 0 ≤ gt ms b := by rw [Cd (show b < ms.length by omega)]; exact h0 _ (List.getElem_mem _)
    unfold spK
    rw [LZ, Vg hl h0 b (by omega) (fun j hj => h j (by omega)), Vi, h b (by omega), PF hl (by omega), Int.mul_add]
    have e : ((gt ms b).toNat : Int) = gt ms b := by omega
    rw [e, Int.mul_left_comm]
theorem SR {i : Int} {ms : List Int} : ∀ {b : Nat} {d : Dl}, d ∈ spK i ms b → ∃ j : Nat, j < b ∧ d = (0, 1, 0, i, (j : Int))
  | 0, _, h => by cases h
  | b + 1, d, h => by
    rcases List.mem_append.1 h with h | h
    · obtain ⟨j, hj, e⟩ := SR h
      exact ⟨j, by omega, e⟩
    · exact ⟨b, by omega, List.eq_of_mem_replicate h⟩
theorem Tk {bs : List (Int × Int)} {G : List Grp} {hd : List Int} : ∀ {k : Nat} {d : Dl}, d ∈ spD bs G hd k → ∃ i : Nat, i < k ∧ ∃ j : Nat, j < bs.length ∧ d = (0, 1, 0, (i : Int), (j : Int))
  | 0, _, h => by cases h
  | k + 1, d, h => by
    rcases List.mem_append.1 h with h | h
    · obtain ⟨i, hi, q⟩ := Tk h
      exact ⟨i, by omega, q⟩
    · obtain ⟨j, hj, e⟩ := SR h
      exact ⟨k, by omega, j, hj, e⟩
def spF (p b : Int) (bs : List (Int × Int)) : Fai := ⟨p, b, [100000], [0], bs, 0, 0, 1⟩
section
variable {B : List BthG} {G : List Grp} {V : List Vis} {tk hd : List Int} {w : Int} {hm : List Int} {bs : List (Int × Int)} {p b : Int}
theorem Ns {f : Dl → Int} {v : List (Int × Int) → List Int → Int} {wt : Int × Int → Int} (hvw : ∀ ks, vW wt bs ks = v bs ks) (hbs : ∀ b ∈ bs, bOK b) (hn : ∀ i : Nat, i < G.length → 0 ≤ Bh G hd i ∧ ¬ prc bs (Bh G hd i) = none60) {c : Nat → Int}
    (hf : ∀ (i j : Nat), i < G.length → j < bs.length → f (0, 1, 0, (i : Int), (j : Int)) = c i * wt (bs.getD j (0, 0))) : ∀ k : Nat, k ≤ G.length → sm f (spD bs G hd k) = AB ((List.range k).map fun i => c i * v bs (Cl bs (Bh G hd i)))
  | 0, _ => rfl
  | k + 1, hk => by
    obtain ⟨n0, n1⟩ := hn k (by omega)
    obtain ⟨_, _, s3, s4, _⟩ := HU hbs n0 n1
    unfold spD
    rw [LZ, Ns hvw hbs hn hf k (by omega), List.range_succ, List.map_append, Cn]
    have e := Vg (f := f) (i := (k : Int)) (c := c k) (w := wt) (bs := bs) (ms := Cl bs (Bh G hd k)) s4 s3 bs.length (Nat.le_refl _) fun j hj => hf k j (by omega) hj
    have e2 : (Cl bs (Bh G hd k)).take bs.length = Cl bs (Bh G hd k) := List.take_of_length_le (by rw [show (Cl bs (Bh G hd k)).length = bs.length from s4]; exact Nat.le_refl _)
    rw [e, List.take_length, e2, hvw]
    simp [AB]
theorem O9 {h : Nat → Int} {g : Nat} : ∀ k : Nat, AB ((List.range k).map fun i => (if i = g then 1 else 0) * h i) = if g < k then h g else 0
  | 0 => rfl
  | k + 1 => by
    rw [List.range_succ, List.map_append, Cn, O9 k]
    show _ + ((if k = g then 1 else 0) * h k + 0) = _
    by_cases c : k = g
    · subst c
      rw [if_pos rfl, if_neg (by omega), if_pos (by omega)]; omega
    · rw [if_neg c]
      by_cases c2 : g < k
      · rw [if_pos c2, if_pos (by omega)]; omega
      · rw [if_neg c2, if_neg (by omega)]; omega
structure Ye (B : List BthG) (G : List Grp) (V : List Vis) (bs : List (Int × Int)) (hd : List Int) : Prop where
  pos : N7 (spF G.length B.length bs) (spD bs G hd G.length ++ rid B G V)
  p : ∀ k : Nat, k < G.length → gt (JE (spF G.length B.length bs) (spD bs G hd G.length ++ rid B G V)).purses k = sel bs (Bh G hd k) - Bh G hd k
  lp : (JE (spF G.length B.length bs) (spD bs G hd G.length ++ rid B G V)).purses.length = G.length
  c : (JE (spF G.length B.length bs) (spD bs G hd G.length ++ rid B G V)).cash = [AB ((BZ G hd G.length).map (prc bs))]
theorem Yd (hv : Val w B G) (D : Dn w B G V hm) (_ : MnD B G V tk hd) (Mg : MgD B G V hd) (hok : FOK (spF G.length B.length bs)) (hn : ∀ i : Nat, i < G.length → (0 ≤ Bh G hd i ∧ Bh G hd i ≤ 1000) ∧ ¬ prc bs (Bh G hd i) = none60)
    (hs : AB ((List.range G.length).map fun i => sel bs (Bh G hd i)) ≤ 100000) (hl : ∀ v ∈ V, v.on = true → v.left ≤ 1440) : Ye B G V bs hd := by
  have hbs : ∀ b ∈ bs, bOK b := hok.bOK
  have hn' : ∀ i : Nat, i < G.length → 0 ≤ Bh G hd i ∧ ¬ prc bs (Bh G hd i) = none60 := fun i hi => ⟨(hn i hi).1.1, (hn i hi).2⟩
  have hso : ∀ i : Nat, i < G.length → vT bs (Cl bs (Bh G hd i)) = sel bs (Bh G hd i) ∧ vP bs (Cl bs (Bh G hd i)) = prc bs (Bh G hd i) := fun i hi => by
    obtain ⟨s1, s2, _⟩ := HU hbs (hn' i hi).1 (hn' i hi).2
    exact ⟨s1, s2⟩
  have hride : ∀ v ∈ V, 0 ≤ v.ride ∧ v.ride < B.length := fun v hv' => by
    obtain ⟨_, a2, a3, _⟩ := D.vi v hv'
    rw [a3]
    exact hv.want a2.1 a2.2
  have hpay : ∀ v ∈ V, 0 ≤ (bd B v.ride).price * (gd G v.1).size := fun v hv' => by
    have h1 := hride v hv'
    obtain ⟨a1, _⟩ := D.vi v hv'
    have h2 := (hv.gr a1.1 a1.2).2.1
    exact Int.mul_nonneg (hv.bt h1.1 h1.2).2.1.1 (by omega)
  have hbu : ∀ j : Nat, bu (spF G.length B.length bs) (j : Int) = bs.getD j (0, 0) := fun j => by
    unfold bu
    rw [Int.toNat_natCast]
    rfl
  have mapc : ∀ {h h' : Nat → Int}, (∀ i, i < G.length → h i = h' i) → AB ((List.range G.length).map h) = AB ((List.range G.length).map h') := fun {h h'} e => by
    rw [List.map_congr_left fun i hi => e i (List.mem_range.1 hi)]
  have hpcd : ∀ g : Nat, g < G.length → sm (pcd (spF G.length B.length bs) g) (spD bs G hd G.length) = sel bs (Bh G hd g) := fun g hg => by
    rw [Ns (v := vT) (wt := Prod.fst) (UA bs) hbs hn' (c := fun i => if i = g then 1 else 0) (fun i j hi hj => by
      show (if (1 : Int) = 1 then (if (i : Int) = (g : Int) then (bu (spF G.length B.length bs) (j : Int)).1 else 0) else _) = _
      rw [if_pos rfl, hbu]
      by_cases c : i = g
      · rw [if_pos (by omega), if_pos c, Int.one_mul]
      · rw [if_neg (by omega), if_neg c, Int.zero_mul]) G.length (Nat.le_refl _)]
    rw [O9 (h := fun i => vT bs (Cl bs (Bh G hd i))), if_pos hg, (hso g hg).1]
  have hsld : sm (sld (spF G.length B.length bs)) (spD bs G hd G.length) = AB ((List.range G.length).map fun i => sel bs (Bh G hd i)) := by
    rw [Ns (v := vT) (wt := Prod.fst) (UA bs) hbs hn' (c := fun _ => 1) (fun i j hi hj => by
      show (if (1 : Int) = 1 then (bu (spF G.length B.length bs) (j : Int)).1 else _) = _
      rw [if_pos rfl, hbu, Int.one_mul]) G.length (Nat.le_refl _)]
    exact mapc fun i hi => by rw [Int.one_mul, (hso i hi).1]
  have hind : sm (ind (spF G.length B.length bs)) (spD bs G hd G.length) = AB ((BZ G hd G.length).map (prc bs)) := by
    rw [Ns (v := vP) (wt := Prod.snd) (Xz bs) hbs hn' (c := fun _ => 1) (fun i j hi hj => by
      show (if (1 : Int) = 1 then (bu (spF G.length B.length bs) (j : Int)).2 else _) = _
      rw [if_pos rfl, hbu, Int.one_mul]) G.length (Nat.le_refl _)]
    unfold BZ
    rw [List.map_map]
    exact mapc fun i hi => by rw [Int.one_mul, (hso i hi).2]; rfl
  have hpg : ∀ g : Nat, g < G.length → pg B G V g = Bh G hd g := fun g hg => by
    have := Mg.g g (by omega) (by omega)
    unfold Bh
    omega
  have hpcd2 : ∀ g : Nat, g < G.length → sm (pcd (spF G.length B.length bs) g) (spD bs G hd G.length ++ rid B G V) = sel bs (Bh G hd g) - Bh G hd g := fun g hg => by
    rw [LZ, hpcd g hg, Sy, hpg g hg]
    omega
  have r0 : ∀ f : Dl → Int, (∀ d ∈ rid B G V, f d = 0) → sm f (rid B G V) = 0 := fun f hf => by
    have h1 := Rx (f := f) (D := rid B G V) fun d hd => by rw [hf d hd]; omega
    have h2 := P4 (f := f) (D := rid B G V) fun d hd => by rw [hf d hd]; omega
    omega
  have R : G1 (spF G.length B.length bs) (spD bs G hd G.length) (rid B G V) := by
    refine ⟨rfl, rfl, by show (0 : Int) ≤ (G.length : Int); omega, fun n n0 n1 => ?_, fun d hd => ?_, fun d hd => ?_, Oi Mg.s, ?_, fun g g0 g1 => ?_⟩
    · exact Int.le_trans (by omega) (hok.bu n0 n1).1.1
    · obtain ⟨i, hi, j, hj, rfl⟩ := Tk hd
      exact ⟨rfl, rfl, rfl, ⟨by show (0 : Int) ≤ (i : Int); omega, by show (i : Int) < (G.length : Int); omega⟩, ⟨by show (0 : Int) ≤ (j : Int); omega, by show (j : Int) < (bs.length : Int); omega⟩⟩
    · obtain ⟨v, hv', hon, rfl⟩ := LF hd
      obtain ⟨a1, _, _, _, _, _, _, a8⟩ := D.vi v hv'
      have h1 := (Si (B := B) (G := G) (V := V) (g := v.1) hpay).2 v hv' hon rfl
      obtain ⟨k, hk⟩ := Int.eq_ofNat_of_zero_le a1.1
      have h2 := hpg k (by omega)
      have h4 := (hn k (by omega)).1
      rw [← hk] at h2
      refine ⟨⟨a8, hl v hv' hon⟩, rfl, a1, hride v hv', ⟨hpay v hv', ?_⟩⟩
      show (bd B v.ride).price * (gd G v.1).size ≤ 1000
      omega
    · rw [hsld]; exact hs
    · have g1 : g < (G.length : Int) := g1
      obtain ⟨k, rfl⟩ := Int.eq_ofNat_of_zero_le g0
      rw [hpcd2 k (by omega)]
      have := (L7 (bs := bs) (hn' k (by omega)).1).1
      omega
  have L := R.left
  have hlp : (JE (spF G.length B.length bs) (spD bs G hd G.length ++ rid B G V)).purses.length = G.length := by
    rw [L.lp]
    show ((G.length : Int)).toNat = _
    omega
  refine ⟨R.pos, fun k hk => ?_, hlp, ?_⟩
  · rw [L.p k (by omega) (by show (k : Int) < (G.length : Int); omega), hpcd2 k hk]
  · have h1 := L.c
    have h2 := L.lc
    rw [LZ, hind, r0 _ fun d hd => by
      obtain ⟨v, _, _, rfl⟩ := LF hd
      rfl] at h1
    have h3 : gt (spF G.length B.length bs).cash 0 = 0 := rfl
    rw [h3] at h1
    match hc : (JE (spF G.length B.length bs) (spD bs G hd G.length ++ rid B G V)).cash, h2 with
    | [x], _ =>
      rw [hc] at h1
      have h1 : x = 0 + (AB ((BZ G hd G.length).map (prc bs)) + 0) := h1
      rw [h1]
      congr 1
      omega
end
end Go.Proofs.YtecodlefcmjihaaGreat
