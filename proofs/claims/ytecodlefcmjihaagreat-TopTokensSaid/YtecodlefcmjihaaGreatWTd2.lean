/- Trimmed by wip/trim.py to what this claim rests on. -/
import Derived.Test.YtecodlefcmjihaaGreatWTd1
import Derived.Test.YtecodlefcmjihaaGreatWTk9
namespace Go.Proofs.YtecodlefcmjihaaGreat
open Go.RowKit
def exP : List (Int × Int) := [(1, 10), (2, 20), (4, 40), (8, 80), (16, 160), (32, 320)]
theorem exP_snoc : ∀ k : Nat, k < 6 → exP.take k ++ [((1 * 2 ^ (min (k : Int).toNat (IntKind.bits .i64)), 10 * 2 ^ (min (k : Int).toNat (IntKind.bits .i64))) : Int × Int)] = exP.take (k + 1) := by decide
theorem exP_wk : ∀ k : Nat, k < 6 → (1 * 2 ^ (min (k : Int).toNat (IntKind.bits .i64)) : Int) ≤ 32 ∧ 0 ≤ (1 * 2 ^ (min (k : Int).toNat (IntKind.bits .i64)) : Int) ∧ (10 * 2 ^ (min (k : Int).toNat (IntKind.bits .i64)) : Int) ≤ 320 ∧ 0 ≤ (10 * 2 ^ (min (k : Int).toNat (IntKind.bits .i64)) : Int) := by decide
theorem exP_get : ∀ k : Nat, k < 6 → exP.getD k (0, 0) = ((2 : Int) ^ k, 10 * (2 : Int) ^ k) := by decide
theorem bit_eq : ∀ t : Nat, t < 64 → ∀ b : Nat, b < 6 → (((BitVec.ofInt (IntKind.bits .i64) (Int.fdiv (t : Int) (2 ^ (min (b : Int).toNat (IntKind.bits .i64)))) &&& BitVec.ofInt (IntKind.bits .i64) 1).toNat : Nat) : Int) = ((t / 2 ^ b % 2 : Nat) : Int) := by
  intro t _ b hb
  have h1 : ∀ w, w = 64 → (((BitVec.ofInt w (Int.fdiv (t : Int) (2 ^ (min (b : Int).toNat w))) &&& BitVec.ofInt w 1).toNat : Nat) : Int) = ((t / 2 ^ b % 2 : Nat) : Int) := by
    rintro w rfl
    have e1 : min (b : Int).toNat 64 = b := by omega
    rw [e1, BitVec.toNat_and, BitVec.toNat_ofInt, BitVec.toNat_ofInt]
    have e2 : ((1 : Int) % ((2 ^ 64 : Nat) : Int)).toNat = 2 ^ 1 - 1 := by decide
    have e3 : Int.fdiv (t : Int) (2 ^ b) = ((t / 2 ^ b : Nat) : Int) := by
      rw [Int.fdiv_eq_ediv_of_nonneg _ (Int.le_of_lt (Int.pow_pos (by omega)))]
      norm_cast
    rw [e2, e3, Nat.and_two_pow_sub_one_eq_mod]
    have e4 : t / 2 ^ b ≤ t := Nat.div_le_self _ _
    generalize t / 2 ^ b = q at *
    omega
  exact h1 _ rfl
def salB (i : Int) (t : Nat) : Nat → List Dl
  | 0 => []
  | b + 1 => salB i t b ++ (if t / 2 ^ b % 2 = 1 then [(((0 : Int), (1 : Int), (0 : Int), i, (b : Int)) : Dl)] else [])
def sal (G : List Grp) : Nat → List Dl
  | 0 => []
  | i + 1 => sal G i ++ salB i (gd G i).tokens.toNat 6
def ridD (B : List BthG) (G : List Grp) (v : Vis) : Dl := (v.left, 2, v.1, v.ride, (bd B v.ride).price * (gd G v.1).size)
def rid (B : List BthG) (G : List Grp) : List Vis → List Dl
  | [] => []
  | v :: V => if v.on = true then ridD B G v :: rid B G V else rid B G V
theorem rid_cons {B : List BthG} {G : List Grp} {v : Vis} {V : List Vis} : rid B G (v :: V) = if v.on = true then ridD B G v :: rid B G V else rid B G V := rfl
theorem rid_app {B : List BthG} {G : List Grp} : ∀ {V W : List Vis}, rid B G (V ++ W) = rid B G V ++ rid B G W
  | [], _ => rfl
  | v :: V, W => by
    rw [List.cons_append, rid_cons, rid_cons, rid_app (V := V)]
    split <;> rfl
theorem rid_mem {B : List BthG} {G : List Grp} : ∀ {V : List Vis} {d : Dl}, d ∈ rid B G V → ∃ v ∈ V, v.on = true ∧ d = ridD B G v
  | [], _, h => by cases h
  | v :: V, d, h => by
    unfold rid at h
    split at h
    · rename_i hon
      rcases List.mem_cons.1 h with h | h
      · exact ⟨v, List.mem_cons_self .., hon, h⟩
      · obtain ⟨u, hu, q⟩ := rid_mem h
        exact ⟨u, List.mem_cons_of_mem _ hu, q⟩
    · obtain ⟨u, hu, q⟩ := rid_mem h
      exact ⟨u, List.mem_cons_of_mem _ hu, q⟩
theorem rid_pair {B : List BthG} {G : List Grp} : ∀ {V : List Vis}, (V.Pairwise fun u v => u.left ≤ v.left) → (rid B G V).Pairwise fun a b => a.1 ≤ b.1
  | [], _ => List.Pairwise.nil
  | v :: V, h => by
    rw [List.pairwise_cons] at h
    unfold rid
    split
    · rw [List.pairwise_cons]
      refine ⟨fun d hd => ?_, rid_pair h.2⟩
      obtain ⟨u, hu, _, rfl⟩ := rid_mem hd
      exact h.1 u hu
    · exact rid_pair h.2
theorem salB_mem {i : Int} {t : Nat} : ∀ {k : Nat} {d : Dl}, d ∈ salB i t k → ∃ b : Nat, b < k ∧ d = (0, 1, 0, i, (b : Int))
  | 0, _, h => by cases h
  | k + 1, d, h => by
    rcases List.mem_append.1 h with h | h
    · obtain ⟨b, hb, e⟩ := salB_mem h
      exact ⟨b, by omega, e⟩
    · split at h
      · rw [List.mem_singleton] at h
        exact ⟨k, by omega, h⟩
      · cases h
theorem sal_mem {G : List Grp} : ∀ {k : Nat} {d : Dl}, d ∈ sal G k → ∃ i : Nat, i < k ∧ ∃ b : Nat, b < 6 ∧ d = (0, 1, 0, (i : Int), (b : Int))
  | 0, _, h => by cases h
  | k + 1, d, h => by
    rcases List.mem_append.1 h with h | h
    · obtain ⟨i, hi, q⟩ := sal_mem h
      exact ⟨i, by omega, q⟩
    · obtain ⟨b, hb, e⟩ := salB_mem h
      exact ⟨k, by omega, b, hb, e⟩
theorem sm_salB {f : Dl → Int} {i c : Int} {t : Nat} : ∀ k : Nat, (∀ b : Nat, b < k → f (0, 1, 0, i, (b : Int)) = c * (2 : Int) ^ b) → sm f (salB i t k) = c * ((t % 2 ^ k : Nat) : Int)
  | 0, _ => by
    show (0 : Int) = _
    rw [Nat.pow_zero, Nat.mod_one]
    simp
  | k + 1, h => by
    unfold salB
    rw [sm_app, sm_salB k fun b hb => h b (by omega), Nat.mod_pow_succ]
    have e : t / 2 ^ k % 2 = 0 ∨ t / 2 ^ k % 2 = 1 := by omega
    rcases e with e | e
    · rw [e, if_neg (by omega), sm_nil, Nat.mul_zero, Nat.add_zero, Int.add_zero]
    · rw [e, if_pos rfl, sm_cons, sm_nil, Nat.mul_one, h k (by omega), Int.natCast_add, Int.mul_add, Int.add_zero]
      norm_cast
theorem sumI_gmap {G : List Grp} {k : Nat} (h : k < G.length) : sumI ((G.take (k + 1)).map Grp.tokens) = sumI ((G.take k).map Grp.tokens) + (gd G k).tokens := by
  rw [List.take_succ_eq_append_getElem h, List.map_append, sumI_app]
  have e : gd G k = G[k] := by simp [gd, List.getD, h]
  rw [e]
  simp [sumI]
def topF (p b : Int) : Fai := ⟨p, b, [100000], [0], exP, 10, 0, 1⟩
theorem topF_ok {p b : Int} (hp : 0 ≤ p ∧ p ≤ 20) (hb : 0 ≤ b ∧ b ≤ 12) : FOK (topF p b) := by
  refine ⟨by show 1 ≤ 1 ∧ 1 ≤ 8; omega, rfl, hp, hb, by show 6 ≤ 6; omega, ?_, ?_, by show (0 : Int) ≤ 10 ∧ (10 : Int) ≤ 1000; omega, by show (0 : Int) ≤ 0 ∧ (0 : Int) ≤ 1000000; omega, by show (1 : Int) ≤ 1 ∧ (1 : Int) ≤ 1440; omega, ?_⟩
  · intro k hk
    have hk : k < 1 := hk
    obtain rfl : k = 0 := by omega
    show (0 : Int) ≤ 100000 ∧ (100000 : Int) ≤ 100000
    omega
  · intro k hk
    have hk : k < 1 := hk
    obtain rfl : k = 0 := by omega
    show (0 : Int) ≤ 0 ∧ (0 : Int) ≤ 1000000
    omega
  · show ∀ k < 6, (1 ≤ (exP.getD k (0, 0)).1 ∧ (exP.getD k (0, 0)).1 ≤ 1000) ∧ (1 ≤ (exP.getD k (0, 0)).2 ∧ (exP.getD k (0, 0)).2 ≤ 1000000) ∧ 10 * (exP.getD k (0, 0)).1 ≤ (exP.getD k (0, 0)).2
    decide
theorem bu_top {p b : Int} {k : Nat} (h : k < 6) : bu (topF p b) (k : Int) = ((2 : Int) ^ k, 10 * (2 : Int) ^ k) := by
  unfold bu
  rw [Int.toNat_natCast]
  exact exP_get k h
section
variable {B : List BthG} {G : List Grp} {V : List Vis} {tk hd : List Int} {w : Int} {hm : List Int} {p b : Int}
theorem sal_pcd {g : Nat} (ht : ∀ i : Nat, i < G.length → 0 ≤ (gd G i).tokens ∧ (gd G i).tokens ≤ 63) : ∀ k : Nat, k ≤ G.length → sm (pcd (topF p b) g) (sal G k) = if g < k then (gd G g).tokens else 0
  | 0, _ => rfl
  | k + 1, hk => by
    unfold sal
    have h := ht k (by omega)
    have e : sm (pcd (topF p b) g) (salB k (gd G k).tokens.toNat 6) = (if k = g then 1 else 0) * (((gd G k).tokens.toNat % 2 ^ 6 : Nat) : Int) := sm_salB 6 fun j hj => by
      show (if (1 : Int) = 1 then (if (k : Int) = (g : Int) then (bu (topF p b) (j : Int)).1 else 0) else _) = _
      rw [if_pos rfl, bu_top hj]
      by_cases c : k = g
      · rw [if_pos (by omega), if_pos c, Int.one_mul]
      · rw [if_neg (by omega), if_neg c, Int.zero_mul]
    have e2 : (((gd G k).tokens.toNat % 2 ^ 6 : Nat) : Int) = (gd G k).tokens := by
      have : (2 : Nat) ^ 6 = 64 := rfl
      rw [this]
      omega
    rw [sm_app, sal_pcd ht k (by omega), e, e2]
    by_cases c : g = k
    · subst c
      rw [if_neg (by omega), if_pos rfl, if_pos (by omega)]; omega
    · rw [if_neg (show ¬ k = g from fun h => c h.symm)]
      by_cases c2 : g < k
      · rw [if_pos c2, if_pos (by omega)]; omega
      · rw [if_neg c2, if_neg (by omega)]; omega
theorem sal_gen {f : Dl → Int} {c : Int} (ht : ∀ i : Nat, i < G.length → 0 ≤ (gd G i).tokens ∧ (gd G i).tokens ≤ 63) (hf : ∀ (i : Int) (j : Nat), j < 6 → f (0, 1, 0, i, (j : Int)) = c * (2 : Int) ^ j) : ∀ k : Nat, k ≤ G.length → sm f (sal G k) = c * sumI ((G.take k).map Grp.tokens)
  | 0, _ => by simp [sal, sm, sumI]
  | k + 1, hk => by
    unfold sal
    have h := ht k (by omega)
    have e2 : (((gd G k).tokens.toNat % 2 ^ 6 : Nat) : Int) = (gd G k).tokens := by
      have : (2 : Nat) ^ 6 = 64 := rfl
      rw [this]
      omega
    rw [sm_app, sal_gen ht hf k (by omega), sm_salB 6 fun j hj => hf k j hj, e2, sumI_gmap (by omega), Int.mul_add]
theorem rid_pcd {F : Fai} {g : Int} : ∀ {V : List Vis}, sm (pcd F g) (rid B G V) = -pg B G V g
  | [] => rfl
  | v :: V => by
    have ih := rid_pcd (F := F) (g := g) (V := V)
    have e : pg B G (v :: V) g = (if v.on = true ∧ v.1 = g then (bd B v.ride).price * (gd G v.1).size else 0) + pg B G V g := rfl
    rw [e]
    unfold rid
    split
    · rename_i hon
      rw [sm_cons, ih]
      have e2 : pcd F g (ridD B G v) = if v.1 = g then -((bd B v.ride).price * (gd G v.1).size) else 0 := rfl
      rw [e2]
      by_cases c : v.1 = g
      · rw [if_pos c, if_pos ⟨hon, c⟩]; omega
      · rw [if_neg c, if_neg (fun h => c h.2)]; omega
    · rename_i hon
      rw [ih, if_neg (fun h => hon h.1)]; omega
theorem rid_bxd {r : Int} : ∀ {V : List Vis}, sm (bxd r) (rid B G V) = pd B G V r
  | [] => rfl
  | v :: V => by
    have ih := rid_bxd (r := r) (V := V)
    have e : pd B G (v :: V) r = (if v.on = true ∧ v.ride = r then (bd B r).price * (gd G v.1).size else 0) + pd B G V r := rfl
    rw [e]
    unfold rid
    split
    · rename_i hon
      rw [sm_cons, ih]
      have e2 : bxd r (ridD B G v) = if v.ride = r then (bd B v.ride).price * (gd G v.1).size else 0 := rfl
      rw [e2]
      by_cases c : v.ride = r
      · rw [if_pos c, if_pos ⟨hon, c⟩, c]
      · rw [if_neg c, if_neg (fun h => c h.2)]
    · rename_i hon
      rw [ih, if_neg (fun h => hon h.1)]; omega
theorem sum_one {n : Nat} {k x : Int} : sumI ((List.range n).map fun r : Nat => if k = (r : Int) then x else 0) = if 0 ≤ k ∧ k < n then x else 0 := by
  induction n with
  | zero => rw [if_neg (by omega)]; rfl
  | succ n ih =>
    rw [List.range_succ, List.map_append, sumI_app, ih]
    show _ + ((if k = (n : Int) then x else 0) + 0) = _
    by_cases c : k = (n : Int)
    · rw [if_pos c, if_neg (by omega), if_pos (by omega)]; omega
    · rw [if_neg c]
      by_cases c2 : 0 ≤ k ∧ k < n
      · rw [if_pos c2, if_pos (by omega)]; omega
      · rw [if_neg c2, if_neg (by omega)]; omega
theorem sum_two {n : Nat} {f g : Nat → Int} : sumI ((List.range n).map fun r : Nat => f r + g r) = sumI ((List.range n).map f) + sumI ((List.range n).map g) := by
  induction n with
  | zero => rfl
  | succ n ih =>
    rw [List.range_succ, List.map_append, List.map_append, List.map_append, sumI_app, sumI_app, sumI_app, ih]
    show _ + (f n + g n + (0 : Int)) = _ + (f n + (0 : Int)) + (_ + (g n + (0 : Int)))
    omega
theorem rid_tkd : ∀ {V : List Vis}, (∀ v ∈ V, 0 ≤ v.ride ∧ v.ride < B.length) → sm tkd (rid B G V) = sumI ((List.range B.length).map fun r : Nat => pd B G V r)
  | [], _ => by
    show (0 : Int) = sumI ((List.range B.length).map fun _ : Nat => 0)
    rw [List.map_const', sumI_rep0]
  | v :: V, h => by
    have ih := rid_tkd (V := V) fun u hu => h u (List.mem_cons_of_mem _ hu)
    have hv := h v (List.mem_cons_self ..)
    have e : (fun r : Nat => pd B G (v :: V) r) = fun r : Nat => (if v.ride = (r : Int) then (if v.on = true then (bd B v.ride).price * (gd G v.1).size else 0) else 0) + pd B G V r := by
      funext r
      show (if v.on = true ∧ v.ride = (r : Int) then (bd B r).price * (gd G v.1).size else 0) + pd B G V r = _
      congr 1
      by_cases c : v.ride = (r : Int)
      · rw [if_pos c]
        by_cases c2 : v.on = true
        · rw [if_pos ⟨c2, c⟩, if_pos c2, c]
        · rw [if_neg (fun h => c2 h.1), if_neg c2]
      · rw [if_neg (fun h => c h.2), if_neg c]
    rw [e, sum_two, sum_one, if_pos hv, ← ih, rid_cons]
    split
    · rw [sm_cons]; rfl
    · omega
theorem pay_le : ∀ {V : List Vis} {g : Int}, (∀ v ∈ V, 0 ≤ (bd B v.ride).price * (gd G v.1).size) → (0 ≤ pg B G V g ∧ ∀ v ∈ V, v.on = true → v.1 = g → (bd B v.ride).price * (gd G v.1).size ≤ pg B G V g)
  | [], _, _ => ⟨Int.le_refl _, fun v hv => by cases hv⟩
  | u :: V, g, h => by
    obtain ⟨i0, ih⟩ := pay_le (V := V) (g := g) fun v hv => h v (List.mem_cons_of_mem _ hv)
    have hu := h u (List.mem_cons_self ..)
    have e : pg B G (u :: V) g = (if u.on = true ∧ u.1 = g then (bd B u.ride).price * (gd G u.1).size else 0) + pg B G V g := rfl
    rw [e]
    refine ⟨?_, fun v hv hon hg => ?_⟩
    · split <;> omega
    · rcases List.mem_cons.1 hv with rfl | hv
      · rw [if_pos ⟨hon, hg⟩]; omega
      · have := ih v hv hon hg
        split <;> omega
structure TokD (B : List BthG) (G : List Grp) (V : List Vis) (tk hd : List Int) : Prop where
  ok : FOK (topF G.length B.length)
  pos : posAll (topF G.length B.length) (sal G G.length ++ rid B G V)
  p : ∀ k : Nat, k < G.length → gt (runD (topF G.length B.length) (sal G G.length ++ rid B G V)).purses k = gt hd k
  lp : (runD (topF G.length B.length) (sal G G.length ++ rid B G V)).purses.length = G.length
  b : (runD (topF G.length B.length) (sal G G.length ++ rid B G V)).boxes = tk
  so : (runD (topF G.length B.length) (sal G G.length ++ rid B G V)).sold = sumI (G.map Grp.tokens)
  ta : (runD (topF G.length B.length) (sal G G.length ++ rid B G V)).taken = sumI tk
  he : sumI (runD (topF G.length B.length) (sal G G.length ++ rid B G V)).purses = sumI hd
  i : (runD (topF G.length B.length) (sal G G.length ++ rid B G V)).inc = 10 * sumI (G.map Grp.tokens)
theorem tokD (hv : Val w B G) (D : Dn w B G V hm) (M : MnD B G V tk hd) (Mg : MgD B G V hd) (hG : G.length ≤ 12) (ht : ∀ i : Nat, i < G.length → (gd G i).tokens ≤ 63) (hl : ∀ v ∈ V, v.on = true → v.left ≤ 1440) : TokD B G V tk hd := by
  have ht' : ∀ i : Nat, i < G.length → 0 ≤ (gd G i).tokens ∧ (gd G i).tokens ≤ 63 := fun i hi => ⟨(hv.gr (g := (i : Int)) (by omega) (by omega)).2.2.1.1, ht i hi⟩
  have hm8 := hv.m
  have hok : FOK (topF G.length B.length) := topF_ok ⟨by omega, by omega⟩ ⟨by omega, by omega⟩
  have hride : ∀ v ∈ V, 0 ≤ v.ride ∧ v.ride < B.length := fun v hv' => by
    obtain ⟨_, a2, a3, _⟩ := D.vi v hv'
    rw [a3]
    exact hv.want a2.1 a2.2
  have hpay : ∀ v ∈ V, 0 ≤ (bd B v.ride).price * (gd G v.1).size := fun v hv' => by
    have h1 := hride v hv'
    obtain ⟨a1, _⟩ := D.vi v hv'
    have h2 := (hv.gr a1.1 a1.2).2.1
    exact Int.mul_nonneg (hv.bt h1.1 h1.2).2.1.1 (by omega)
  have hpcd : ∀ g : Int, 0 ≤ g → g < G.length → sm (pcd (topF G.length B.length) g) (sal G G.length ++ rid B G V) = gt hd g := fun g g0 g1 => by
    obtain ⟨k, rfl⟩ := Int.eq_ofNat_of_zero_le g0
    have := Mg.g k g0 g1
    rw [sm_app, sal_pcd ht' G.length (Nat.le_refl _), if_pos (by omega), rid_pcd]
    omega
  have hall : sumI ((G.take G.length).map Grp.tokens) = sumI (G.map Grp.tokens) := by rw [List.take_length]
  have hsld : sm (sld (topF G.length B.length)) (sal G G.length) = sumI (G.map Grp.tokens) := by
    rw [sal_gen (c := 1) ht' (fun i j hj => by show (if (1 : Int) = 1 then _ else _) = _; rw [if_pos rfl, bu_top hj, Int.one_mul]) G.length (Nat.le_refl _), hall, Int.one_mul]
  have hind : sm (ind (topF G.length B.length)) (sal G G.length) = 10 * sumI (G.map Grp.tokens) := by
    rw [sal_gen (c := 10) ht' (fun i j hj => by show (if (1 : Int) = 1 then _ else _) = _; rw [if_pos rfl, bu_top hj]) G.length (Nat.le_refl _), hall]
  have r0 : ∀ f : Dl → Int, (∀ d ∈ rid B G V, f d = 0) → sm f (rid B G V) = 0 := fun f hf => by
    have h1 := sm_pos (f := f) (D := rid B G V) fun d hd => by rw [hf d hd]; omega
    have h2 := sm_neg (f := f) (D := rid B G V) fun d hd => by rw [hf d hd]; omega
    omega
  have s0 : ∀ f : Dl → Int, (∀ d ∈ sal G G.length, f d = 0) → sm f (sal G G.length) = 0 := fun f hf => by
    have h1 := sm_pos (f := f) (D := sal G G.length) fun d hd => by rw [hf d hd]; omega
    have h2 := sm_neg (f := f) (D := sal G G.length) fun d hd => by rw [hf d hd]; omega
    omega
  have hst : sumI (G.map Grp.tokens) ≤ 100000 := by
    have := (sumI_le (xs := G.map Grp.tokens) (m := 63) fun x hx => by
      obtain ⟨g, hg, rfl⟩ := List.mem_map.1 hx
      obtain ⟨i, hi, rfl⟩ := List.getElem_of_mem hg
      have := ht' i hi
      have e : gd G i = G[i] := by simp [gd, List.getD, hi]
      rw [e] at this
      exact this).2
    rw [List.length_map] at this
    omega
  have R : Right (topF G.length B.length) (sal G G.length) (rid B G V) := by
    refine ⟨rfl, rfl, by show (0 : Int) ≤ (G.length : Int); omega, fun n n0 n1 => ?_, fun d hd => ?_, fun d hd => ?_, rid_pair Mg.s, ?_, fun g g0 g1 => ?_⟩
    · exact Int.le_trans (by omega) (hok.bu n0 n1).1.1
    · obtain ⟨i, hi, b, hb, rfl⟩ := sal_mem hd
      exact ⟨rfl, rfl, rfl, ⟨by show (0 : Int) ≤ (i : Int); omega, by show (i : Int) < (G.length : Int); omega⟩, ⟨by show (0 : Int) ≤ (b : Int); omega, by show (b : Int) < ((6 : Nat) : Int); omega⟩⟩
    · obtain ⟨v, hv', hon, rfl⟩ := rid_mem hd
      obtain ⟨a1, _, _, _, _, _, _, a8⟩ := D.vi v hv'
      have h1 := (pay_le (B := B) (G := G) (V := V) (g := v.1) hpay).2 v hv' hon rfl
      have h2 := Mg.g v.1 a1.1 a1.2
      have h3 := (M.h v.1 a1.1 a1.2).1
      obtain ⟨k, hk⟩ := Int.eq_ofNat_of_zero_le a1.1
      have h4 := ht' k (by omega)
      rw [← hk] at h4
      refine ⟨⟨a8, hl v hv' hon⟩, rfl, a1, hride v hv', ⟨hpay v hv', ?_⟩⟩
      show (bd B v.ride).price * (gd G v.1).size ≤ 1000
      omega
    · rw [hsld]; exact hst
    · have g1 : g < (G.length : Int) := g1
      rw [hpcd g g0 g1]
      exact (M.h g g0 g1).1
  have L := R.left
  have hlp : (runD (topF G.length B.length) (sal G G.length ++ rid B G V)).purses.length = G.length := by
    rw [L.lp]
    show ((G.length : Int)).toNat = _
    omega
  have hlb : (runD (topF G.length B.length) (sal G G.length ++ rid B G V)).boxes.length = B.length := by
    rw [L.lb]
    show ((B.length : Int)).toNat = _
    omega
  have hpk : ∀ k : Nat, k < G.length → gt (runD (topF G.length B.length) (sal G G.length ++ rid B G V)).purses k = gt hd k := fun k hk => by
    rw [L.p k (by omega) (by show (k : Int) < (G.length : Int); omega), hpcd k (by omega) (by omega)]
  have hph : (runD (topF G.length B.length) (sal G G.length ++ rid B G V)).purses = hd := by
    apply List.ext_getElem
    · rw [hlp, M.lh]
    · intro i h1 h2
      rw [← gt_nat h1, ← gt_nat h2, hpk i (by omega)]
  refine ⟨hok, R.pos, hpk, hlp, ?_, ?_, ?_, by rw [hph], ?_⟩
  · apply List.ext_getElem
    · rw [hlb, M.lt]
    · intro i h1 h2
      rw [← gt_nat h1, ← gt_nat h2, L.b i (by omega) (by show (i : Int) < (B.length : Int); omega), sm_app, rid_bxd, M.p i (by omega) (by omega)]
      rw [s0 _ fun d hd => by
        obtain ⟨i, _, b, _, rfl⟩ := sal_mem hd
        rfl]
      omega
  · rw [L.so, sm_app, hsld, r0 _ fun d hd => by
      obtain ⟨v, _, _, rfl⟩ := rid_mem hd
      rfl]
    omega
  · rw [L.ta, sm_app, rid_tkd hride]
    rw [s0 _ fun d hd => by
      obtain ⟨i, _, b, _, rfl⟩ := sal_mem hd
      rfl]
    have e : ((List.range B.length).map fun r : Nat => pd B G V r) = tk := by
      apply List.ext_getElem
      · rw [List.length_map, List.length_range, M.lt]
      · intro i h1 h2
        rw [List.getElem_map, List.getElem_range, ← gt_nat h2, M.p i (by omega) (by have := M.lt; omega)]
    rw [e]
    omega
  · rw [L.i, sm_app, hind, r0 _ fun d hd => by
      obtain ⟨v, _, _, rfl⟩ := rid_mem hd
      rfl]
    omega
end
end Go.Proofs.YtecodlefcmjihaaGreat
