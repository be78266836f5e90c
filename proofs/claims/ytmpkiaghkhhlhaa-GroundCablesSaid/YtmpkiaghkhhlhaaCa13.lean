/- For all inputs the law GroundCables returns true, and what came in reads as it did. Part 13 of 13. -/
import Derived.Test.YtmpkiaghkhhlhaaCa12

/- Contracts of layer 4: slices.Repeat. No conditions but those that each theorem names. -/
namespace Go.Proofs.Ytmpkiaghkhhlhaa
open Go.RowKit

theorem u64_wrap {e : Int} (h : 0 ≤ e ∧ e ≤ 18446744073709551615) : IntKind.u64.wrap e = e := by
  have h1 : IntKind.u64.wrap e = e % 18446744073709551616 := by
    unfold IntKind.wrap
    simp [IntKind.signed, IntKind.bits]
  rw [h1]
  omega
theorem wk_u {e : Int} {K : Int → Prop} (h : 0 ≤ e ∧ e ≤ 18446744073709551615) (hk : K e) : wk .u64 e K := by
  unfold wk
  rw [u64_wrap h]
  exact hk
theorem and32 {x : Int} (h : 0 ≤ x ∧ x < 4294967296) : (((BitVec.ofInt (IntKind.bits .u64) x &&& BitVec.ofInt (IntKind.bits .u64) 4294967295).toNat : Nat) : Int) = x := by
  have key : ∀ w, w = 64 → (((BitVec.ofInt w x &&& BitVec.ofInt w 4294967295).toNat : Nat) : Int) = x := by
    rintro w rfl
    rw [BitVec.toNat_and, BitVec.toNat_ofInt, BitVec.toNat_ofInt]
    have e3 : ((4294967295 : Int) % ((2 ^ 64 : Nat) : Int)).toNat = 2 ^ 32 - 1 := by decide
    rw [e3, Nat.and_two_pow_sub_one_eq_mod]
    omega
  exact key _ rfl
theorem sh32 {x : Int} (h : 0 ≤ x ∧ x < 4294967296) : Int.fdiv x (2 ^ (min (32 : Int).toNat (IntKind.bits .u64))) = 0 := by
  have : (2 : Int) ^ (min (32 : Int).toNat (IntKind.bits .u64)) = 4294967296 := by decide
  rw [this, Int.fdiv_eq_ediv_of_nonneg _ (by omega)]
  omega
theorem c_Mul64 {σ : Hp} {x y : Int} (hx : 0 ≤ x ∧ x < 65536) (hy : 0 ≤ y ∧ y < 65536) : FCalls Try.prog N_math_bits_Mul64 #[.int .u64 x, .int .u64 y] σ fun v σ' => v = .tuple #[.int .u64 0, .int .u64 (x * y)] ∧ σ' = σ := by
  refine M_math_bits_Mul64_ok _ _ _ _ ?_
  unfold M_math_bits_Mul64
  have b1 : 0 ≤ x * y ∧ x * y ≤ 65535 * 65535 := mulle hx.1 (by omega) hy.1 (by omega)
  rw [and32 (by omega), and32 (by omega), sh32 (x := x) (by omega), sh32 (x := y) (by omega)]
  refine wk_u (by omega) ⟨by omega, wk_u (by omega) ⟨by omega, wk_u (by omega) ?_⟩⟩
  rw [sh32 (x := x * y) (by omega)]
  simp only [Int.zero_mul, Int.mul_zero, Int.add_zero]
  refine wk_u (by omega) ⟨by omega, wk_u (by omega) ?_⟩
  rw [and32 (by omega)]
  refine wk_u (by omega) ⟨by omega, wk_u (by omega) (wk_u (by omega) (wk_u (by omega) ?_))⟩
  rw [sh32 (x := 0) (by omega)]
  refine wk_u (by omega) ⟨by omega, ?_⟩
  rw [sh32 (x := 0 + 0) (by omega)]
  refine wk_u (by omega) (wk_u (by omega) (rt_of ⟨rfl, rfl⟩))
theorem c_Mul {σ : Hp} {x y : Int} (hx : 0 ≤ x ∧ x < 65536) (hy : 0 ≤ y ∧ y < 65536) : FCalls Try.prog N_math_bits_Mul #[.int .u64 x, .int .u64 y] σ fun v σ' => v = .tuple #[.int .u64 0, .int .u64 (x * y)] ∧ σ' = σ := by
  refine M_math_bits_Mul_ok _ _ _ _ ?_
  unfold M_math_bits_Mul
  refine bc_f (cl_of M_math_bits_Mul64_enter (c_Mul64 hx hy) ?_)
  rintro v σ' ⟨rfl, rfl⟩
  exact ⟨_, _, rfl, rt_of ⟨rfl, rfl⟩⟩
theorem rep_take {α : Type} (a z : α) (k m : Nat) : (List.replicate k a ++ List.replicate m z).take k = List.replicate k a := by
  rw [List.take_left' (by simp)]
theorem rep_drop {α : Type} (a z : α) (k m q : Nat) : (List.replicate k a ++ List.replicate m z).drop (k + q) = List.replicate (m - q) z := by
  rw [List.drop_append, List.drop_of_length_le (by simp)]
  simp
/-- slices.Repeat, of one element -/
theorem repeat_core {P : Program} {t0 t1 ty e : TypeId} {ss : List Sh} {σ : Hp} {a z : TyR ss} {N w : Nat} {R : Value → Hp → Prop} {xA : Option Addr} {xc : Nat} {g : Nat → Value}
    (hok : cpyOK P t0 e ss.length = true) (hw : w = ss.length) (hna : noAny ss = true) (hx : RdS ss σ xA 1 [a]) (hN : N ≤ 4294967296) (hR : ∀ A n c σ', OwnSl e ss σ A n c (List.replicate N a) σ' → R (.slice A n c) σ') :
    exl e ss (List.replicate N z) σ fun A14 l14 c14 σ15 => cpy P #[t0, t1] ty #[(.slice A14 l14 c14), (.slice xA 1 xc)] σ15 fun n16 σ17 => cut (α := Hp → Prop) (fun σ19 => ∀ g18 : Nat → Value, rt σ19 R (.slice A14 l14 c14)) fun J20 => ∃ I23 : Nat → Int → Hp → Prop, (∃ n240, I23 n240 n16 σ17) ∧ 
    ∀ n24 : Nat, ∀ n25 : Int, ∀ σ22 : Hp, I23 n24 n25 σ22 → ∀ g21 : Nat → Value, bc (decide (n25 < ((l14 : Nat) : Int))) ((0 ≤ n25 ∧ 
    n25 ≤ ((l14 : Nat) : Int) ∧ (0 ≤ n25 ∧ n25 ≤ ((c14 : Nat) : Int) ∧ cpy P #[t0, t1] ty #[(.slice (if c14 = (n25 : Int).toNat then (A14 : Option Addr) else (A14 : Option Addr).map (fun x => 
    x.add ((n25 : Int).toNat * w))) (l14 - (n25 : Int).toNat) (c14 - (n25 : Int).toNat)), (.slice A14 ((n25 : Int).toNat) c14)] σ22 (fun n26 σ27 => 
    wk .i64 (n25 + n26) (fun n28 => bk σ27 n24 (fun m29 σ30 => I23 m29 n28 σ30)))))) (J20 σ22) := by
  intro A n c σ' hown
  have hl : n = N := by simpa using hown.len
  subst hl
  have hnc : n ≤ c := by
    rcases hown with ⟨_, h2, h3, _⟩ | ⟨_, _, _, _, _, h, _⟩ <;> omega
  subst hw
  refine cpy_own (k := 0) hok hna hown (Hp.Sub.refl _) (Nat.zero_le _) (fun b off h => by simpa using h) id (hx.sub hown.sub) fun σ2 τ2 ho2 hs2 => ?_
  refine cut_intro fun J hJ => ?_
  refine ⟨fun m i τ => ∃ k : Nat, m = n - k ∧ i = k ∧ k ≤ n ∧ (k = 0 → n = 0) ∧ ∃ σ3, OwnSl e ss σ A n c (List.replicate k a ++ List.replicate (n - k) z) σ3 ∧ Hp.Sub σ3 τ, ⟨_, min 1 (n - 0), rfl, rfl, by omega, by omega, σ2, ?_, hs2⟩, ?_⟩
  · cases n with
    | zero => simpa using ho2
    | succ n =>
      have : min 1 (n + 1 - 0) = 1 := by omega
      rw [this] at ho2 ⊢
      simpa using ho2
  · rintro m i τ ⟨k, rfl, rfl, hk, hk0, σ3, ho3, hs3⟩ _
    refine bc_d (fun hlt => ⟨by omega, by omega, by omega, by omega, ?_⟩) (fun hlt => ?_)
    · simp only [Int.toNat_natCast]
      rw [if_neg (by omega)]
      have hsrc : RdS ss τ A k (List.replicate k a) := by
        have := (ho3.rd.sub hs3).take hk
        rw [rep_take] at this
        exact this
      refine cpy_own hok hna ho3 hs3 hk (fun b off h => by rw [h]; simp [addr_add]) (fun h => by rw [h]; rfl) hsrc fun σ4 τ4 ho4 hs4 => ?_
      generalize hq : min k (n - k) = q at *
      refine wk_i (by omega) (bk_of _ ?_ ⟨k + q, rfl, by omega, by omega, by omega, σ4, ?_, hs4⟩)
      · omega
      · rw [rep_take, rep_drop, List.take_replicate, show min q k = q by omega, ← List.append_assoc, List.replicate_append_replicate] at ho4
        rw [show n - (k + q) = n - k - q by omega]
        exact ho4
    · subst hJ
      intro _
      have : k = n := by omega
      subst this
      refine rt_sub hs3 (hR _ _ _ _ ?_)
      simpa using ho3
set_option maxRecDepth 20000 in
theorem c_Repeat_int {σ : Hp} {a n : Int} {xA : Option Addr} {xc : Nat} (hx : RdS [.int .i64] σ xA 1 [a]) (hn : 0 ≤ n ∧ n < 65536) : FCalls Try.prog N_slices_Repeat_int #[.slice xA 1 xc, .int .i64 n] σ (NewL 3 [.int .i64] σ (List.replicate n.toNat a)) := by
  refine M_slices_Repeat_int_ok _ _ _ _ _ _ ?_
  unfold M_slices_Repeat_int
  refine cut_intro fun J3 h3 => bc_d (fun h => by omega) (fun h => ?_)
  subst h3
  intro _
  refine wk_u (by omega) (wk_u (by omega) (cl_of M_math_bits_Mul_enter (c_Mul (by omega) (by omega)) ?_))
  rintro v σ' ⟨rfl, rfl⟩
  refine ⟨_, _, rfl, cut_intro fun J12 h12 => cut_intro fun J33 h33 => bc_d (fun h => by omega) (fun h => ?_)⟩
  rw [show (((1 : Nat) : Int) * n) = n by omega] at *
  rw [h33]
  intro _
  refine bc_d (fun h => by omega) (fun h => ?_)
  subst h12
  intro _
  refine wk_i (by omega) ⟨by omega, by omega, by omega, ?_⟩
  exact repeat_core (g := fun _ => .bool true) (by kernel_rfl) rfl rfl hx (by omega) fun A n c σ' ho => ⟨_, _, _, rfl, ho⟩
set_option maxRecDepth 20000 in
theorem c_Repeat_sit {σ : Hp} {a : Sit} {n : Int} {xA : Option Addr} {xc : Nat} (hx : RdS sS σ xA 1 [a]) (hn : 0 ≤ n ∧ n < 65536) : FCalls Try.prog N_slices_Repeat_api_Site #[.slice xA 1 xc, .int .i64 n] σ (NewL 50 sS σ (List.replicate n.toNat a)) := by
  refine M_slices_Repeat_api_Site_ok _ _ _ _ _ _ ?_
  unfold M_slices_Repeat_api_Site
  refine cut_intro fun J3 h3 => bc_d (fun h => by omega) (fun h => ?_)
  subst h3
  intro _
  refine wk_u (by omega) (wk_u (by omega) (cl_of M_math_bits_Mul_enter (c_Mul (by omega) (by omega)) ?_))
  rintro v σ' ⟨rfl, rfl⟩
  refine ⟨_, _, rfl, cut_intro fun J12 h12 => cut_intro fun J33 h33 => bc_d (fun h => by omega) (fun h => ?_)⟩
  rw [show (((1 : Nat) : Int) * n) = n by omega] at *
  rw [h33]
  intro _
  refine bc_d (fun h => by omega) (fun h => ?_)
  subst h12
  intro _
  refine wk_i (by omega) ⟨by omega, by omega, by omega, ?_⟩
  exact repeat_core (ss := sS) (g := fun _ => .bool true) (by kernel_rfl) rfl rfl hx (by omega) fun A n c σ' ho => ⟨_, _, _, rfl, ho⟩
end Go.Proofs.Ytmpkiaghkhhlhaa

/- Contracts of layer 4: put, empty. No conditions but those that each theorem names. -/
namespace Go.Proofs.Ytmpkiaghkhhlhaa
open Go.RowKit

/-- an owned slice on less -/
theorem OwnSl.base {e : TypeId} {ss : List Sh} {σ τ τ' : Hp} {A : Option Addr} {n c : Nat} {xs : List (TyR ss)} (h : OwnSl e ss τ A n c xs τ') (hs : Hp.Sub σ τ) : ∃ σ', OwnSl e ss σ A n c xs σ' ∧ Hp.Sub σ' τ' := by
  rcases h with ⟨h1, h2, h3, h4, rfl⟩ | ⟨b, off, cells, hA, hn, hnc, hb, rfl, hsz, hr⟩
  · exact ⟨σ, .inl ⟨h1, h2, h3, h4, rfl⟩, hs⟩
  · exact ⟨_, .inr ⟨b, off, cells, hA, hn, hnc, hs.none hb, rfl, hsz, hr⟩, hs.ins_both b _⟩
theorem FdW.rebase {σ0 σ0' σ : Hp} {f : Option Addr} {V : FA} {F : Fd} (hb : FdB σ0 f V F.g F.l) (hs : Hp.Sub σ0 σ0') (h : FdW σ0' σ f V F) : FdW σ0 σ f V F := by
  obtain ⟨_, σ1, σ2, h1, h2, h3⟩ := h
  obtain ⟨s1, k1, j1⟩ := h1.base hs
  obtain ⟨s2, k2, j2⟩ := h2.base j1
  exact ⟨hb, s1, s2, k1, k2, j2.trans h3⟩

/-! ### Putting -/
def putAll (xs : List Int) (cs : List Int) (v : Int) : List Int := cs.foldl (fun a c => a.set c.toNat v) xs
theorem putAll_len (xs : List Int) (cs : List Int) (v : Int) : (putAll xs cs v).length = xs.length := by
  induction cs generalizing xs with
  | nil => rfl
  | cons c cs ih => exact (ih _).trans (by simp)
theorem putAll_succ {xs : List Int} {cs : List Int} {v : Int} {k : Nat} (h : k < cs.length) : putAll xs (cs.take (k + 1)) v = (putAll xs (cs.take k) v).set (gt cs k).toNat v := by
  unfold putAll
  rw [List.take_succ_eq_append_getElem h, List.foldl_append, gt_nat h]
  rfl
def Fd.put (F : Fd) (i : Int) (s : Sit) : Fd := { F with st := F.st.set i.toNat s, tk := putAll F.tk (F.g.cover (pt F.l i) s).1 i }
theorem Fd.ok.put {F : Fd} (h : F.ok) (i : Int) (s : Sit) : (F.put i s).ok := ⟨h.g, h.p, h.l, by simpa [Fd.put] using h.st, by simpa [Fd.put, putAll_len] using h.tk⟩
theorem c_put {σ0 σ : Hp} {f : Option Addr} {V : FA} {F : Fd} {i : Int} {s : Sit} (hf : FdW σ0 σ f V F) (hF : F.ok) (i0 : 0 ≤ i) (i1 : i < F.l.length) :
    FCalls Try.prog N_ground_field_put #[.pointer f, .int .i64 i, sv s] σ fun _ σ' => FdW σ0 σ' f V (F.put i s) := by
  refine M_ground_field_put_ok _ _ _ _ _ _ ?_
  unfold M_ground_field_put
  have hst := hF.st
  have hb := hf.1
  refine hf.r.dS ?_
  obtain ⟨_, σ1, σ2, h1, h2, h3⟩ := hf
  obtain ⟨s1, k1, k2⟩ := h1.swap h2
  refine k2.ix_stIB h3 i0 (by omega) fun σ3 τ ho3 hs3 => ?_
  obtain ⟨s1', m1, m2⟩ := k1.swap ho3
  have hf : FdW σ0 τ f V { F with st := F.st.set i.toNat s } := ⟨hb, s1', σ3, m1, m2, hs3⟩
  have hF2 : Fd.ok { F with st := F.st.set i.toNat s } := ⟨hF.g, hF.p, hF.l, by simpa using hF.st, hF.tk⟩
  refine l_cells hf.r hF2 i0 i1 fun A n c σ' hown => ?_
  have hin := Gnd.cover_in (s := s) hF.s (hF.pt i0 i1)
  have hl : n = (F.g.cover (pt F.l i) s).1.length := hown.len
  have htk := hF.tk
  obtain ⟨c1, c2⟩ := Gnd.cover_len (s := s) (hF.pt i0 i1)
  obtain ⟨σ0', hown0, hf2⟩ := hf.own hown
  have hcs : RdS [.int .i64] σ0' A n (F.g.cover (pt F.l i) s).1 := hown0.rd
  have hb0 := hown0.sub
  unfold Fd.put
  generalize (F.g.cover (pt F.l i) s).1 = cs at *
  refine ⟨fun m j τ => ∃ k : Nat, m = cs.length - k ∧ j = k ∧ k ≤ cs.length ∧ FdW σ0' τ f V { F with st := F.st.set i.toNat s, tk := putAll F.tk (cs.take k) i }, ⟨_, 0, rfl, rfl, by omega, by simpa [putAll] using hf2⟩, ?_⟩
  rintro m j τ2 ⟨k, rfl, rfl, hk, hf3⟩ _
  refine bc_d (fun hlt => ?_) (fun hlt => ?_)
  · have hkl : k < cs.length := by omega
    have ik := hin _ (gt_mem hkl)
    refine gixg (hcs.sub hf3.base) (by omega) (by omega) (hf3.r.dK ?_)
    have hb3 := hf3.1
    obtain ⟨_, σ4, σ5, h4, h5, h6⟩ := hf3
    refine h5.ix_stI h6 (by omega) (by rw [putAll_len]; omega) fun σ6 τ6 ho6 hs6 => ?_
    rw [← putAll_succ hkl] at ho6
    exact wk_i (by omega) (bk_of _ (by omega) ⟨k + 1, rfl, rfl, by omega, hb3, σ4, σ6, h4, ho6, hs6⟩)
  · have : k = cs.length := by omega
    subst this
    rw [List.take_length] at hf3
    exact rt_of (FdW.rebase hb hb0 hf3)

/-! ### A new field -/
theorem dup3 {p : Prop} (h : p) : (p ∧ p) ∧ p := ⟨⟨h, h⟩, h⟩
def fd0 (g : Gnd) (l : List Pit) : Fd := ⟨g, l, List.replicate l.length (-1, false), List.replicate g.C.length (-1)⟩
theorem fd0_ok {g : Gnd} {l : List Pit} (h : (chkP g l).2 = 0) : (fd0 g l).ok := by
  obtain ⟨h1, h2, h3, _⟩ := chkP_ok h
  exact ⟨h1, h3, h2, by simp [fd0], by simp [fd0]⟩
/-- what hands back a new field, or an error -/
def NewF (σ : Hp) (e : Int × Int) (F : Fd) : Value → Hp → Prop := fun v σ' =>
  (e.2 ≠ 0 ∧ v = .tuple #[.pointer none, .int .i64 e.1, .int .i64 e.2] ∧ σ' = σ) ∨
  (e.2 = 0 ∧ ∃ f V σ0, v = .tuple #[.pointer f, .int .i64 e.1, .int .i64 e.2] ∧ Hp.Sub σ σ0 ∧ FdW σ0 σ' f V F)
theorem c_empty_1 {σ : Hp} {x : GV} {g : Gnd} {p : Pit} {b : Nat} (hb : ∀ i, σ.cell? ⟨b, i, none⟩ = (#[.int .i64 g.W, .int .i64 g.H, .slice x.cA x.cn x.cc, .slice x.hA x.hn x.hc] : Array Value)[i]?) (hc : x.cn = g.C.length) (hl : g.C.length ≤ 4294967296) :
    FCalls Try.prog N_ground_empty_1 #[pv p, .pointer (some ⟨b, 0, none⟩)] σ fun v σ' => v = .bool (!g.pOK p) ∧ σ' = σ := by
  refine M_ground_empty_1_ok _ _ _ _ _ _ _ _ ?_
  unfold M_ground_empty_1
  refine dr_i (ldI_of ((hb _).trans rfl) (ldI_of ((hb _).trans rfl) (ldS_of ((hb _).trans rfl) (ldS_of ((hb _).trans rfl) ?_))))
  exact clB M_ground_pitched_enter (c_pitched (x := x) hc hl) (rt_of ⟨rfl, rfl⟩)
theorem c_empty {σ : Hp} {x : GV} {g : Gnd} {lA : Option Addr} {ln lc : Nat} {l : List Pit} (hg : GRd σ x g) (hl : RdS sP σ lA ln l) :
    FCalls Try.prog N_ground_empty #[x.v g, .slice lA ln lc] σ (NewF σ (chkP g l) (fd0 g l)) := by
  refine M_ground_empty_ok _ _ _ _ _ _ _ _ _ _ _ _ _ ?_
  unfold M_ground_empty
  have hln := hl.lenP
  have hcn := hg.c.lenI
  refine clB M_ground_grounded_enter (c_grounded hg) ?_
  refine bc_nb (fun h => rt_of (.inl ?_)) (fun hok => ?_)
  · simp [chkP, h]
  obtain ⟨l1, l2, l3⟩ := Gnd.okS_len (Gnd.ok.s hok)
  refine bc_d (fun h8 => rt_of (.inl ?_)) (fun h8 => ?_)
  · simp [chkP, hok, show 8 < l.length by omega]
  have h8' : ¬ 8 < l.length := by omega
  intro b4 hb4
  have hs4 : Hp.Sub σ (σ.ins b4 (.cells #[.int .i64 g.W, .int .i64 g.H, .slice x.cA x.cn x.cc, .slice x.hA x.hn x.hc] 24)) := Hp.Sub.ins _ hb4
  have hcell : ∀ i, (σ.ins b4 (.cells #[.int .i64 g.W, .int .i64 g.H, .slice x.cA x.cn x.cc, .slice x.hA x.hn x.hc] 24)).cell? ⟨b4, i, none⟩ = (#[.int .i64 g.W, .int .i64 g.H, .slice x.cA x.cn x.cc, .slice x.hA x.hn x.hc] : Array Value)[i]? := by
    intro i
    unfold Hp.cell?
    simp only [Hp.ins_same]
    rfl
  generalize (σ.ins b4 (.cells #[.int .i64 g.W, .int .i64 g.H, .slice x.cA x.cn x.cc, .slice x.hA x.hn x.hc] 24)) = τ at *
  refine clI M_slices_IndexFunc_api_Pitch_enter (c_IndexFunc_pit (p := fun p => !g.pOK p) (hl.sub hs4) (by omega) (Dec.of M_ground_empty_1_enter fun a _ => ?_)) ?_
  · exact c_empty_1 hcell hcn (by omega)
  refine bc_d (fun h => rt_sub hs4 (.inl ?_)) (fun h => ?_)
  · have e : chkP g l = (fidx (fun p => !g.pOK p) l, 41) := by simp [chkP, hok, h8', h]
    rw [e]
    exact ⟨by simp, rfl, rfl⟩
  have e : chkP g l = (0, 0) := by simp [chkP, hok, h8', h]
  rw [e]
  refine ldI_of ((hcell _).trans rfl) (ldI_of ((hcell _).trans rfl) (ldS_of ((hcell _).trans rfl) (ldS_of ((hcell _).trans rfl) (ldS_of ((hcell _).trans rfl) ?_))))
  refine dup3 ?_
  intro A14 l14 c14 σ15 ho14
  obtain rfl : l14 = 1 := ho14.len
  refine cl_of M_slices_Repeat_api_Site_enter (c_Repeat_sit (a := ((-1, false) : Sit)) ho14.rd (by omega)) ?_
  rintro v16 σ17 ⟨A18, l18, c18, rfl, ho18⟩
  refine ⟨_, _, _, rfl, ho18.sub, ?_⟩
  intro A19 l19 c19 σ20 ho19
  obtain rfl : l19 = 1 := ho19.len
  refine clLs M_slices_Repeat_int_enter (c_Repeat_int (a := (-1 : Int)) ho19.rd (by omega)) ?_
  intro A26 l26 c26 σ27 ho26 b28 hb28
  obtain ⟨s1, k1, j1⟩ := ho18.base (hs4.trans ho14.sub)
  obtain ⟨s2, k2, j2⟩ := ho26.base (j1.trans ho19.sub)
  have e1 : ((ln : Nat) : Int).toNat = l.length := by omega
  rw [e1] at k1
  have hs2n : s2 b28 = none := j2.none hb28
  have hs1n : s1 b28 = none := k2.sub.none hs2n
  have hsn : σ b28 = none := k1.sub.none hs1n
  refine rt_sub (j2.ins_both b28 _) (.inr ⟨rfl, some ⟨b28, 0, none⟩, ⟨x, lA, ln, lc, A18, l18, c18, A26, l26, c26⟩, _, rfl, Hp.Sub.ins _ hsn, ⟨⟨b28, true, rfl, Hp.ins_same ..⟩, hg.sub (Hp.Sub.ins _ hsn), hl.sub (Hp.Sub.ins _ hsn)⟩, _, _, k1.ins_base hs1n _, ?_, Hp.Sub.refl _⟩)
  have := k2.ins_base hs2n (.cells (FA.cells ⟨x, lA, ln, lc, A18, l18, c18, A26, l26, c26⟩ g) 73)
  have e2 : ((x.cn : Nat) : Int).toNat = g.C.length := by omega
  rw [e2] at this
  exact this
end Go.Proofs.Ytmpkiaghkhhlhaa

/- Contracts of layer 4: newField and Check: both sides of Check have one answer. No conditions but those that each theorem names. -/
namespace Go.Proofs.Ytmpkiaghkhhlhaa
open Go.RowKit

/-! ### What is taken -/
theorem gt_set {xs : List Int} {i c v : Int} (h0 : 0 ≤ i) (h1 : 0 ≤ c) (h2 : c < xs.length) : gt (xs.set i.toNat v) c = if c = i then v else gt xs c := by
  have hc : c.toNat < xs.length := by omega
  rw [gt_eq (by simpa using hc), gt_eq hc, List.getElem_set]
  by_cases h : c = i
  · subst h; simp
  · rw [if_neg h, if_neg (by omega)]
theorem gb_set {xs : List Bool} {i c : Int} {v : Bool} (h0 : 0 ≤ i) (h1 : 0 ≤ c) (h2 : c < xs.length) : gb (xs.set i.toNat v) c = if c = i then v else gb xs c := by
  have hc : c.toNat < xs.length := by omega
  rw [gb_eq (by simpa using hc), gb_eq hc, List.getElem_set]
  by_cases h : c = i
  · subst h; simp
  · rw [if_neg h, if_neg (by omega)]
theorem gt_putAll {cs : List Int} {v c : Int} : ∀ {xs : List Int}, (∀ a ∈ cs, 0 ≤ a) → 0 ≤ c → c < xs.length → gt (putAll xs cs v) c = if c ∈ cs then v else gt xs c := by
  induction cs with
  | nil => intro xs _ _ _; simp [putAll]
  | cons a cs ih =>
    intro xs h h0 h1
    have := ih (xs := xs.set a.toNat v) (fun a ha => h a (List.mem_cons_of_mem _ ha)) h0 (by simpa using h1)
    unfold putAll at this ⊢
    rw [List.foldl_cons, this, gt_set (h a (List.mem_cons_self ..)) h0 h1]
    by_cases e1 : c ∈ cs <;> by_cases e2 : c = a <;> simp [e1, e2]
theorem gb_setAll {cs : List Int} {c : Int} : ∀ {xs : List Bool}, (∀ a ∈ cs, 0 ≤ a) → 0 ≤ c → c < xs.length → gb (setAll xs cs) c = (decide (c ∈ cs) || gb xs c) := by
  induction cs with
  | nil => intro xs _ _ _; simp [setAll]
  | cons a cs ih =>
    intro xs h h0 h1
    have := ih (xs := xs.set a.toNat true) (fun a ha => h a (List.mem_cons_of_mem _ ha)) h0 (by simpa using h1)
    unfold setAll at this ⊢
    rw [List.foldl_cons, this, gb_set (h a (List.mem_cons_self ..)) h0 h1]
    by_cases e1 : c ∈ cs <;> by_cases e2 : c = a <;> simp [e1, e2]
theorem cover_neg {g : Gnd} {p : Pit} {s : Sit} (h : s.1 < 0) : g.cover p s = ([], false) := by
  unfold Gnd.cover Gnd.cov
  have : ¬ (0 ≤ s.1 ∧ s.1 ≤ (g.C.length : Int) - 1) := by omega
  split <;> simp only [this, false_and, if_false]
/-- a layout's pitches on a ground -/
structure Good (g : Gnd) (l : List Pit) : Prop where
  ok : g.ok = true
  p : ∀ i, (h : i < l.length) → g.pOK l[i] = true
  len : l.length ≤ 8
theorem Good.pt {g : Gnd} {l : List Pit} (h : Good g l) {i : Nat} (hi : i < l.length) : g.pOK (pt l i) = true := by rw [pt_nat hi]; exact h.p i hi
theorem Good.s {g : Gnd} {l : List Pit} (h : Good g l) : g.okS = true := Gnd.ok.s h.ok
theorem Fd.ok.good {F : Fd} (h : F.ok) : Good F.g F.l := ⟨h.g, h.p, h.l⟩
theorem gb_takS {g : Gnd} {l : List Pit} {st : List Sit} {but c : Int} (hG : Good g l) (h0 : 0 ≤ c) (h1 : c < g.C.length) : ∀ k, k ≤ l.length → (gb (g.takS l st but k) c = true ↔ ∃ j : Nat, j < k ∧ (j : Int) ≠ but ∧ c ∈ (g.cover (pt l j) (sit st j)).1)
  | 0, _ => by
    have : gb (g.takS l st but 0) c = false := by
      have hc : c.toNat < g.C.length := by omega
      rw [Gnd.takS, gb_eq (by simpa using hc)]
      simp
    rw [this]
    simp
  | k + 1, hk => by
    have ih := gb_takS (st := st) (but := but) hG h0 h1 k (by omega)
    have hin := Gnd.cover_in (s := sit st k) hG.s (hG.pt (show k < l.length by omega))
    unfold Gnd.takS
    split
    · rename_i hs
      rw [ih]
      constructor
      · rintro ⟨j, hj, h⟩; exact ⟨j, by omega, h⟩
      · rintro ⟨j, hj, hb, hc⟩
        refine ⟨j, ?_, hb, hc⟩
        rcases Nat.lt_or_ge j k with hlt | hge
        · exact hlt
        · have : j = k := by omega
          subst this
          rcases hs with hs | hs
          · exact absurd hs hb
          · rw [cover_neg hs] at hc; cases hc
    · rename_i hs
      rw [gb_setAll (fun a ha => (hin a ha).1) h0 (by rw [takS_len]; exact h1)]
      simp only [Bool.or_eq_true, decide_eq_true_eq, ih]
      constructor
      · rintro (h | ⟨j, hj, h⟩)
        · exact ⟨k, by omega, fun e => hs (.inl e), h⟩
        · exact ⟨j, by omega, h⟩
      · rintro ⟨j, hj, hb, hc⟩
        rcases Nat.lt_or_ge j k with hlt | hge
        · exact .inr ⟨j, hlt, hb, hc⟩
        · have : j = k := by omega
          subst this
          exact .inl hc
/-- the cells of the j-th pitch -/
def Fd.cov (F : Fd) (j : Nat) : List Int := (F.g.cover (pt F.l j) (sit F.st j)).1
/-- what is taken agrees with the sites -/
def Fd.con (F : Fd) : Prop := ∀ c : Int, 0 ≤ c → c < F.g.C.length → (-1 ≤ gt F.tk c ∧ gt F.tk c < F.l.length) ∧ ∀ j : Nat, j < F.l.length → (gt F.tk c = j ↔ c ∈ F.cov j)
theorem sit_rep {n k : Nat} : sit (List.replicate n ((-1, false) : Sit)) k = if k < n then (-1, false) else (0, false) := by
  by_cases h : k < n <;> simp [sit, List.getD, List.getElem?_replicate, h]
theorem gt_rep {n : Nat} {c v : Int} (h0 : 0 ≤ c) (h1 : c < n) : gt (List.replicate n v) c = v := by
  rw [gt_eq (by simp; omega)]
  simp
theorem fd0_con {g : Gnd} {l : List Pit} : (fd0 g l).con := by
  intro c h0 h1
  have e : gt (fd0 g l).tk c = -1 := gt_rep h0 h1
  rw [e]
  refine ⟨⟨by omega, by omega⟩, fun j hj => ?_⟩
  have hj' : j < l.length := hj
  have : (fd0 g l).cov j = [] := by
    unfold Fd.cov
    rw [show sit (fd0 g l).st j = (-1, false) by simp only [fd0]; rw [sit_rep, if_pos hj'], cover_neg (by decide)]
  rw [this]
  constructor
  · intro h; omega
  · intro h; cases h
theorem sit_set {st : List Sit} {i : Nat} {s : Sit} {j : Nat} (hi : i < st.length) : sit (st.set i s) j = if j = i then s else sit st j := by
  unfold sit
  simp only [List.getD, Int.toNat_natCast, List.getElem?_set]
  by_cases h : i = j
  · subst h; simp [hi]
  · have h' : ¬ j = i := fun e => h e.symm
    simp [h, h']
theorem all_mem {cs : List Int} {q : Int → Bool} (h : cs.all q = true) : ∀ c ∈ cs, q c = true := List.all_eq_true.1 h
theorem fit_is {g : Gnd} {p : Pit} {s : Sit} {q : Int → Bool} (h : g.fit p s q = true) : (g.cover p s).1.all q = true := by
  unfold Gnd.fit at h
  simp only [Bool.and_eq_true] at h
  exact h.1.2
theorem Fd.con.put {F : Fd} (h : F.con) (hF : F.ok) {i : Nat} {s : Sit} (hi : i < F.l.length) (hn : F.cov i = []) (hfit : F.g.fit (pt F.l i) s F.bare = true) : (F.put i s).con := by
  intro c h0 h1
  have h1' : c < F.g.C.length := h1
  obtain ⟨hr, hj⟩ := h c h0 h1'
  have hin := Gnd.cover_in (s := s) hF.s (hF.pt (i := i) (by omega) (by omega))
  have hbare := all_mem (fit_is hfit)
  have e : gt (F.put i s).tk c = if c ∈ (F.g.cover (pt F.l i) s).1 then (i : Int) else gt F.tk c := by
    simp only [Fd.put]
    exact gt_putAll (fun a ha => (hin a ha).1) h0 (by rw [hF.tk]; exact h1')
  have hst := hF.st
  have ecov : ∀ j, (F.put i s).cov j = if j = i then (F.g.cover (pt F.l i) s).1 else F.cov j := by
    intro j
    unfold Fd.cov
    simp only [Fd.put, Int.toNat_natCast]
    rw [sit_set (by omega)]
    by_cases e : j = i
    · subst e; simp
    · rw [if_neg e, if_neg e]
  rw [e]
  refine ⟨?_, fun j hjl => ?_⟩
  · split
    · have : (F.put i s).l.length = F.l.length := rfl
      omega
    · exact hr
  · rw [ecov]
    have hjl' : j < F.l.length := hjl
    by_cases hc : c ∈ (F.g.cover (pt F.l i) s).1
    · rw [if_pos hc]
      have hb := hbare c hc
      simp only [Fd.bare, decide_eq_true_eq] at hb
      by_cases e : j = i
      · subst e; simp [hc]
      · rw [if_neg e]
        have := hj j hjl'
        constructor
        · intro h; omega
        · intro h; have := this.2 h; omega
    · rw [if_neg hc]
      by_cases e : j = i
      · subst e
        rw [if_pos rfl, hj j hjl', hn]
        simp [hc]
      · rw [if_neg e]
        exact hj j hjl'
theorem Fd.con.full {F : Fd} (h : F.con) (hF : F.ok) {c : Int} (h0 : 0 ≤ c) (h1 : c < F.g.C.length) : decide (gt F.tk c < 0) = !gb (F.g.takS F.l F.st (-1) F.l.length) c := by
  obtain ⟨hr, hj⟩ := h c h0 h1
  have := gb_takS (st := F.st) (but := -1) hF.good h0 h1 F.l.length (Nat.le_refl _)
  cases e : gb (F.g.takS F.l F.st (-1) F.l.length) c with
  | true =>
    obtain ⟨j, hjl, _, hc⟩ := this.1 e
    have := (hj j hjl).2 hc
    simp only [Bool.not_true, decide_eq_false_iff_not]
    omega
  | false =>
    simp only [Bool.not_false, decide_eq_true_eq]
    rcases Int.lt_or_le (gt F.tk c) 0 with hlt | hge
    · exact hlt
    · have : gb (F.g.takS F.l F.st (-1) F.l.length) c = true := this.2 ⟨(gt F.tk c).toNat, by omega, by omega, (hj _ (by omega)).1 (by omega)⟩
      rw [e] at this
      cases this
theorem all_and {cs : List Int} {p q : Int → Bool} : cs.all (fun c => p c && q c) = (cs.all p && cs.all q) := by
  induction cs with
  | nil => rfl
  | cons c cs ih => simp only [List.all_cons, ih]; cases p c <;> cases q c <;> simp
theorem fit_bare {F : Fd} (hF : F.ok) {i : Nat} (hi : i < F.l.length) {s : Sit} {full : List Bool} (h : ∀ c : Int, 0 ≤ c → c < F.g.C.length → decide (gt F.tk c < 0) = !gb full c) : F.g.fit (pt F.l i) s F.bare = F.g.bes (pt F.l i) s full := by
  have hin := Gnd.cover_in (s := s) hF.s (hF.pt (i := i) (by omega) (by omega))
  have e : (F.g.cover (pt F.l i) s).1.all F.bare = ((F.g.cover (pt F.l i) s).1.all F.g.grass && (F.g.cover (pt F.l i) s).1.all fun c => !gb full c) := by
    rw [← all_and]
    have : ∀ cs : List Int, (∀ a ∈ cs, 0 ≤ a ∧ a < F.g.C.length) → cs.all F.bare = cs.all fun c => F.g.grass c && !gb full c := by
      intro cs hcs
      induction cs with
      | nil => rfl
      | cons c cs ih =>
        obtain ⟨c0, c1⟩ := hcs c (List.mem_cons_self ..)
        simp only [List.all_cons]
        rw [ih fun a ha => hcs a (List.mem_cons_of_mem _ ha), ← h c c0 c1]
        simp only [Fd.bare, Gnd.grass, Bool.decide_and]
    exact this _ hin
  unfold Gnd.bes Gnd.fit
  rw [e]
  generalize (F.g.cover (pt F.l i) s).1.all F.g.grass = a
  generalize ((F.g.cover (pt F.l i) s).1.all fun c => !gb full c) = b
  cases a <;> cases b <;> simp
theorem bes_is {g : Gnd} {p : Pit} {s : Sit} {full : List Bool} (h : g.bes p s full = true) : 0 ≤ s.1 := by
  rcases Int.lt_or_le s.1 0 with hlt | hge
  · unfold Gnd.bes Gnd.fit at h
    rw [cover_neg hlt] at h
    simp at h
  · exact hge

/-! ### A field with a layout -/
def fdK (g : Gnd) (l : List Pit) (st : List Sit) : Nat → Fd
  | 0 => fd0 g l
  | k + 1 => if sit st k = (-1, false) then fdK g l st k else (fdK g l st k).put k (sit st k)
theorem fdK_g {g : Gnd} {l : List Pit} {st : List Sit} : ∀ k, (fdK g l st k).g = g ∧ (fdK g l st k).l = l
  | 0 => ⟨rfl, rfl⟩
  | k + 1 => by
    unfold fdK
    split
    · exact fdK_g k
    · exact fdK_g k
theorem fdK_ok {g : Gnd} {l : List Pit} {st : List Sit} (h : (chkP g l).2 = 0) : ∀ k, (fdK g l st k).ok
  | 0 => fd0_ok h
  | k + 1 => by
    unfold fdK
    split
    · exact fdK_ok h k
    · exact (fdK_ok h k).put _ _
theorem fdK_sit {g : Gnd} {l : List Pit} {st : List Sit} (h : (chkP g l).2 = 0) : ∀ k, k ≤ l.length → ∀ j, j < l.length → sit (fdK g l st k).st j = if j < k then sit st j else (-1, false)
  | 0, _, j, hj => by simp only [fdK, fd0]; rw [sit_rep, if_pos hj, if_neg (by omega)]
  | k + 1, hk, j, hj => by
    have ih := fdK_sit (st := st) h k (by omega)
    have hl := (fdK_ok (st := st) h k).st
    rw [(fdK_g k).2] at hl
    unfold fdK
    split
    · rename_i e
      rw [ih j hj]
      rcases Nat.lt_trichotomy j k with h1 | h1 | h1
      · rw [if_pos h1, if_pos (by omega)]
      · subst h1; rw [if_neg (by omega), if_pos (by omega), e]
      · rw [if_neg (by omega), if_neg (by omega)]
    · simp only [Fd.put, Int.toNat_natCast]
      rw [sit_set (by omega), ih j hj]
      rcases Nat.lt_trichotomy j k with h1 | h1 | h1
      · rw [if_neg (by omega), if_pos h1, if_pos (by omega)]
      · subst h1; rw [if_pos rfl, if_pos (by omega)]
      · rw [if_neg (by omega), if_neg (by omega), if_neg (by omega)]
theorem fdK_full {g : Gnd} {l : List Pit} {st : List Sit} (h : (chkP g l).2 = 0) {k : Nat} (hk : k ≤ l.length) (hcon : (fdK g l st k).con) {c : Int} (h0 : 0 ≤ c) (h1 : c < g.C.length) : decide (gt (fdK g l st k).tk c < 0) = !gb (g.takS l st (-1) k) c := by
  have hF := fdK_ok (st := st) h k
  have hsit := fdK_sit (st := st) h k hk
  obtain ⟨eg, el⟩ := fdK_g (g := g) (l := l) (st := st) k
  rw [hcon.full hF h0 (by rw [eg]; exact h1), eg, el]
  obtain ⟨q1, q2, q3, _⟩ := chkP_ok h
  have hG : Good g l := ⟨q1, q3, q2⟩
  congr 1
  have a1 := gb_takS (st := (fdK g l st k).st) (but := -1) hG h0 h1 l.length (Nat.le_refl _)
  have a2 := gb_takS (st := st) (but := -1) hG h0 h1 k hk
  have : (∃ j : Nat, j < l.length ∧ (j : Int) ≠ -1 ∧ c ∈ (g.cover (pt l j) (sit (fdK g l st k).st j)).1) ↔ ∃ j : Nat, j < k ∧ (j : Int) ≠ -1 ∧ c ∈ (g.cover (pt l j) (sit st j)).1 := by
    constructor
    · rintro ⟨j, hj, hb, hc⟩
      rw [hsit j hj] at hc
      by_cases e : j < k
      · rw [if_pos e] at hc; exact ⟨j, e, hb, hc⟩
      · rw [if_neg e, cover_neg (by decide)] at hc; cases hc
    · rintro ⟨j, hj, hb, hc⟩
      refine ⟨j, by omega, hb, ?_⟩
      rw [hsit j (by omega), if_pos hj]
      exact hc
  rw [← a2, ← a1] at this
  cases e1 : gb (g.takS l (fdK g l st k).st (-1) l.length) c <;> cases e2 : gb (g.takS l st (-1) k) c <;> simp [e1, e2] at this ⊢
theorem fdK_fit {g : Gnd} {l : List Pit} {st : List Sit} (h : (chkP g l).2 = 0) {k : Nat} (hk : k < l.length) (hcon : (fdK g l st k).con) (hne : sit st k ≠ (-1, false)) : (fdK g l st k).g.fit (pt l k) (sit st k) (fdK g l st k).bare = g.siteOK l st k := by
  have hF := fdK_ok (st := st) h k
  obtain ⟨eg, el⟩ := fdK_g (g := g) (l := l) (st := st) k
  have := fit_bare (s := sit st k) (full := g.takS l st (-1) k) hF (i := k) (by rw [el]; exact hk) fun c h0 h1 => fdK_full h (by omega) hcon h0 (by rw [← eg]; exact h1)
  rw [el] at this
  rw [this, eg, Gnd.siteOK]
  cases e : g.bes (pt l k) (sit st k) (g.takS l st (-1) k) with
  | true => simp [bes_is e]
  | false => simp [hne]
theorem fdK_con {g : Gnd} {l : List Pit} {st : List Sit} (h : (chkP g l).2 = 0) : ∀ k, k ≤ l.length → (∀ j, j < k → g.siteOK l st j = true) → (fdK g l st k).con
  | 0, _, _ => fd0_con
  | k + 1, hk, hok => by
    have ih := fdK_con (st := st) h k (by omega) fun j hj => hok j (by omega)
    unfold fdK
    split
    · exact ih
    · rename_i hne
      obtain ⟨eg, el⟩ := fdK_g (g := g) (l := l) (st := st) k
      refine ih.put (fdK_ok h k) (by rw [el]; omega) ?_ ?_
      · unfold Fd.cov
        rw [fdK_sit h k (by omega) k (by omega), if_neg (by omega), cover_neg (by decide)]
      · rw [el, fdK_fit h (by omega) ih hne]
        exact hok k (by omega)
theorem c_newField {σ : Hp} {x : GV} {g : Gnd} {lA sA : Option Addr} {ln lc sn sc : Nat} {l : List Pit} {st : List Sit} (hg : GRd σ x g) (hl : RdS sP σ lA ln l) (hst : RdS sS σ sA sn st) :
    FCalls Try.prog N_ground_newField #[x.v g, .slice lA ln lc, .slice sA sn sc] σ (NewF σ (chkS g l st) (fdK g l st l.length)) := by
  refine M_ground_newField_ok _ _ _ _ _ _ _ _ _ _ _ _ _ _ _ _ ?_
  unfold M_ground_newField
  have hsn := hst.lenS
  have hln := hl.lenP
  refine cl_of M_ground_empty_enter (c_empty hg hl) ?_
  rintro v σ' (⟨hne, rfl, rfl⟩ | ⟨h00, f, V, σ0, rfl, hs0, hfw⟩)
  · refine ⟨_, _, _, rfl, bc_nd (fun h => rt_of (.inl ?_)) (fun h => absurd h hne)⟩
    rw [chkS, if_pos hne]
    exact ⟨hne, rfl, rfl⟩
  have hs : Hp.Sub σ σ' := hs0.trans hfw.base
  obtain ⟨hok, h8, hp, h00'⟩ := chkP_ok h00
  refine ⟨_, _, _, rfl, bc_nd (fun h => absurd h00 h) (fun h => bc_nd (fun h2 => rt_sub hs (.inl ?_)) (fun h2 => ?_))⟩
  · rw [chkS, if_neg (by simp [h00]), if_pos (by omega)]
    exact ⟨by simp, by rw [hsn], rfl⟩
  have hll : st.length = l.length := by omega
  have ec : chkS g l st = if 0 ≤ fidx (fun k => !g.siteOK l st k) (List.range l.length) then (fidx (fun k => !g.siteOK l st k) (List.range l.length), 41) else (0, 0) := by
    rw [chkS, if_neg (by simp [h00]), if_neg (by omega)]
  rw [ec]
  refine cut_intro fun J8 h8' => ?_
  refine ⟨fun n p i τ => ∃ k : Nat, n = l.length - k ∧ p = f ∧ i = k ∧ k ≤ l.length ∧ FdW σ0 τ f V (fdK g l st k) ∧ ∀ j, j < k → g.siteOK l st j = true, ⟨_, 0, rfl, rfl, rfl, by omega, hfw, fun j h => by omega⟩, ?_⟩
  rintro n p i τ ⟨k, rfl, rfl, rfl, hk, hfk, hj⟩ _
  have hj' : ∀ j, (h : j < (List.range l.length).length) → j < k → (!g.siteOK l st (List.range l.length)[j]) = false := fun j h hjk => by simp [hj j hjk]
  refine bc_d (fun hlt => ?_) (fun hlt => ?_)
  · have hkl : k < l.length := by omega
    have hkr : k < (List.range l.length).length := by simpa using hkl
    have hsτ : Hp.Sub σ τ := hs0.trans hfk.base
    have hcon := fdK_con h00 k (by omega) hj
    have hF := fdK_ok (st := st) h00 k
    obtain ⟨eg, el⟩ := fdK_g (g := g) (l := l) (st := st) k
    refine cut_intro fun J18 h18 => ?_
    have k18 : ∀ τ2, FdW σ0 τ2 p V (fdK g l st (k + 1)) → g.siteOK l st k = true → J18 p τ2 := by
      intro τ2 h2 hok2
      rw [h18]
      intro _
      refine wk_i (by omega) (bk_of _ (by omega) ⟨k + 1, rfl, rfl, rfl, by omega, h2, fun j hjk => tail_or (p := fun a => g.siteOK l st a = true) (f := fun j => j) hj hok2 hjk⟩)
    refine six (hst.sub hsτ) (by omega) (by omega) ?_
    have e1 : decide (sit st k = (-1, false)) = (decide ((sit st k).1 = -1) && ((sit st k).2 == false)) := by
      cases hs : sit st k with
      | mk a b => cases b <;> simp
    refine bc_b (fun hw => ?_) (fun hw => ?_)
    · rw [← e1, decide_eq_true_eq] at hw
      refine k18 _ ?_ (by simp [Gnd.siteOK, hw])
      unfold fdK
      rw [if_pos hw]
      exact hfk
    · rw [← e1, decide_eq_false_iff_not] at hw
      refine clB M_ground_field_fits_enter (c_field_fits (s := sit st k) hfk.r hF (by omega) (by rw [el]; omega)) ?_
      rw [el, fdK_fit h00 hkl hcon hw]
      refine bc_nb (fun hno => rt_sub hsτ (.inl ?_)) (fun hyes => ?_)
      · have := fidx_at (p := fun k => !g.siteOK l st k) hkr (by simp [hno]) hj'
        rw [this]
        exact ⟨by simp, by simp, rfl⟩
      · refine cl_of M_ground_field_put_enter (c_put (s := sit st k) hfk hF (by omega) (by rw [el]; omega)) fun v τ2 h2 => k18 _ ?_ hyes
        unfold fdK
        rw [if_neg hw]
        exact h2
  · have : k = l.length := by omega
    subst this
    rw [h8']
    intro _
    have := fidx_none (p := fun k => !g.siteOK l st k) (xs := List.range l.length) fun j h => hj' j h (by simp at h; omega)
    rw [this]
    exact rt_of (.inr ⟨by simp, _, _, _, by simp, hs0, hfk⟩)
theorem c_ground_Check {σ : Hp} {x : GV} {g : Gnd} {lA sA : Option Addr} {ln lc sn sc : Nat} {l : List Pit} {st : List Sit} (hg : GRd σ x g) (hl : RdS sP σ lA ln l) (hst : RdS sS σ sA sn st) :
    FCalls Try.prog N_ground_Check #[x.v g, .slice lA ln lc, .slice sA sn sc] σ fun v σ' => v = .tuple #[.int .i64 (chkS g l st).1, .int .i64 (chkS g l st).2] ∧ σ' = σ := by
  refine M_ground_Check_ok _ _ _ _ _ _ _ _ _ _ _ _ _ _ _ _ ?_
  unfold M_ground_Check
  refine cl_of M_ground_newField_enter (c_newField hg hl hst) ?_
  rintro v σ' (⟨hne, rfl, rfl⟩ | ⟨h00, f, V, σ0, rfl, hs0, hfw⟩)
  · exact ⟨_, _, _, rfl, rt_of ⟨rfl, rfl⟩⟩
  · exact ⟨_, _, _, rfl, rt_sub (hs0.trans hfw.base) ⟨rfl, rfl⟩⟩
end Go.Proofs.Ytmpkiaghkhhlhaa

/- Contracts of layer 4: Large, sameInts, sameSites, Neighbours, beside, free, drain, step. No conditions but those that each theorem names. -/
namespace Go.Proofs.Ytmpkiaghkhhlhaa
open Go.RowKit

theorem c_Large {σ : Hp} {x : GV} {g : Gnd} {lA : Option Addr} {ln lc : Nat} {l : List Pit} (hc : x.cn = g.C.length) (hl : ln = l.length) :
    FCalls Try.prog N_law04_Large #[x.v g, .slice lA ln lc] σ fun v σ' => v = .bool (decide ((25 < g.C.length ∧ g.C.length ≤ 64) ∨ (4 < l.length ∧ l.length ≤ 8))) ∧ σ' = σ := by
  refine M_law04_Large_ok _ _ _ _ _ _ _ _ _ _ _ _ _ ?_
  unfold M_law04_Large
  repeat' (first | refine bc_t ?_ | refine bc_f ?_ | refine bc_d (fun _ => ?_) (fun _ => ?_) | refine rt_of ⟨?_, rfl⟩)
  all_goals
    refine congrArg Value.bool ?_
    first
      | (refine decide_eq_decide.2 ?_; omega)
      | (symm; refine decide_eq_true ?_; omega)
      | (symm; refine decide_eq_false ?_; omega)
theorem c_sameInts {σ : Hp} {aA bA : Option Addr} {an ac bn bc' : Nat} {a b : List Int} (ha : RdS [.int .i64] σ aA an a) (hb : RdS [.int .i64] σ bA bn b) (hl : a.length ≤ 4294967296) :
    FCalls Try.prog N_law04_sameInts #[.slice aA an ac, .slice bA bn bc'] σ fun v σ' => v = .bool (decide (a = b)) ∧ σ' = σ := by
  refine M_law04_sameInts_ok _ _ _ _ _ _ _ _ ?_
  unfold M_law04_sameInts
  have h1 := ha.lenI
  have h2 := hb.lenI
  refine bc_nd (fun hne => rt_of ⟨?_, rfl⟩) (fun heq => ?_)
  · rw [decide_eq_false (fun e => hne (by rw [h1, h2, e]))]
  · refine cut_intro fun J hJ => ?_
    refine ⟨fun n i τ => ∃ k : Nat, n = a.length - k ∧ i = k ∧ k ≤ a.length ∧ τ = σ ∧ ∀ j : Nat, j < k → gt a j = gt b j, ⟨_, 0, rfl, rfl, by omega, rfl, fun j h => by omega⟩, ?_⟩
    rintro n i τ ⟨k, rfl, rfl, hk, rfl, hj⟩ _
    refine bc_d (fun hlt => ?_) (fun hlt => ?_)
    · refine gixg ha (by omega) (by omega) (gixg hb (by omega) (by omega) (bc_nd (fun hne => rt_of ⟨?_, rfl⟩) (fun he => ?_)))
      · rw [decide_eq_false (fun e => hne (by rw [e]))]
      · exact wk_i (by omega) (bk_of _ (by omega) ⟨k + 1, rfl, rfl, by omega, rfl, fun j hjk => tail_or (p := fun j : Nat => gt a j = gt b j) (f := fun j => j) hj he hjk⟩)
    · subst hJ
      intro _
      refine rt_of ⟨?_, rfl⟩
      rw [decide_eq_true]
      refine List.ext_getElem (by omega) fun j h1 h2 => ?_
      have := hj j (by omega)
      rw [gt_nat h1, gt_nat h2] at this
      exact this
theorem c_sameSites {σ : Hp} {aA bA : Option Addr} {an ac bn bc' : Nat} {a b : List Sit} (ha : RdS sS σ aA an a) (hb : RdS sS σ bA bn b) (hl : a.length ≤ 4294967296) :
    FCalls Try.prog N_law04_sameSites #[.slice aA an ac, .slice bA bn bc'] σ fun v σ' => v = .bool (decide (a = b)) ∧ σ' = σ := by
  refine M_law04_sameSites_ok _ _ _ _ _ _ _ _ ?_
  unfold M_law04_sameSites
  have h1 := ha.lenS
  have h2 := hb.lenS
  refine bc_nd (fun hne => rt_of ⟨?_, rfl⟩) (fun heq => ?_)
  · rw [decide_eq_false (fun e => hne (by rw [h1, h2, e]))]
  · refine cut_intro fun J hJ => ?_
    refine ⟨fun n i τ => ∃ k : Nat, n = a.length - k ∧ i = k ∧ k ≤ a.length ∧ τ = σ ∧ ∀ j : Nat, j < k → sit a j = sit b j, ⟨_, 0, rfl, rfl, by omega, rfl, fun j h => by omega⟩, ?_⟩
    rintro n i τ ⟨k, rfl, rfl, hk, rfl, hj⟩ _
    refine bc_d (fun hlt => ?_) (fun hlt => ?_)
    · refine six ha (by omega) (by omega) (six hb (by omega) (by omega) ?_)
      have e1 : (decide ((sit a k).1 = (sit b k).1) && ((sit a k).2 == (sit b k).2)) = decide (sit a k = sit b k) := by
        cases sit a k with
        | mk p q => cases sit b k with
          | mk p' q' => cases q <;> cases q' <;> simp
      rw [e1]
      refine bc_nd (fun hne => rt_of ⟨?_, rfl⟩) (fun he => ?_)
      · rw [decide_eq_false (fun e => hne (by rw [e]))]
      · exact wk_i (by omega) (bk_of _ (by omega) ⟨k + 1, rfl, rfl, by omega, rfl, fun j hjk => tail_or (p := fun j : Nat => sit a j = sit b j) (f := fun j => j) hj he hjk⟩)
    · subst hJ
      intro _
      refine rt_of ⟨?_, rfl⟩
      rw [decide_eq_true]
      refine List.ext_getElem (by omega) fun j h1 h2 => ?_
      have := hj j (by omega)
      rw [sit_nat h1, sit_nat h2] at this
      exact this
/-! ### Neighbours -/
def ifL {α : Type} (b : Prop) [Decidable b] (l : List α) : List α := if b then l else []
def Gnd.nbr (g : Gnd) (c : Int) : List Int := ((ifL (0 < Int.tdiv c g.W) [c - g.W] ++ ifL (0 < Int.tmod c g.W) [c - 1]) ++ ifL (Int.tmod c g.W + 1 < g.W) [c + 1]) ++ ifL (Int.tdiv c g.W + 1 < g.H) [c + g.W]
theorem nbr_in {g : Gnd} (ho : g.okS = true) {c : Int} (h0 : 0 ≤ c) (h1 : c < g.C.length) : ∀ a ∈ g.nbr c, 0 ≤ a ∧ a < g.C.length := by
  obtain ⟨m0, m1, d0, d1, e⟩ := Gnd.xy ho h0 (by omega)
  obtain ⟨hW, hH, hl, _⟩ := Gnd.okS_iff.1 ho
  intro a ha
  unfold Gnd.nbr ifL at ha
  generalize Int.tmod c g.W = X at *
  generalize Int.tdiv c g.W = Y at *
  simp only [List.mem_append] at ha
  rcases ha with ((ha | ha) | ha) | ha
  · split at ha
    · simp only [List.mem_singleton] at ha
      have : 1 * g.W ≤ Y * g.W := Int.mul_le_mul_of_nonneg_right (by omega) (by omega)
      omega
    · cases ha
  · split at ha
    · simp only [List.mem_singleton] at ha
      have : 0 * g.W ≤ Y * g.W := Int.mul_le_mul_of_nonneg_right (by omega) (by omega)
      omega
    · cases ha
  · split at ha
    · simp only [List.mem_singleton] at ha
      have : Y * g.W ≤ (g.H - 1) * g.W := Int.mul_le_mul_of_nonneg_right (by omega) (by omega)
      rw [Int.sub_mul, Int.one_mul, Int.mul_comm g.H] at this
      omega
    · cases ha
  · split at ha
    · simp only [List.mem_singleton] at ha
      have : (Y + 1) * g.W ≤ (g.H - 1) * g.W := Int.mul_le_mul_of_nonneg_right (by omega) (by omega)
      rw [Int.sub_mul, Int.one_mul, Int.mul_comm g.H, Int.add_mul, Int.one_mul] at this
      omega
    · cases ha
theorem ifL_len {α : Type} {b : Prop} [Decidable b] {a : α} : (ifL b [a]).length ≤ 1 := by unfold ifL; split <;> simp
theorem nbr_len {g : Gnd} {c : Int} : (g.nbr c).length ≤ 4 := by
  unfold Gnd.nbr
  simp only [List.length_append]
  have := ifL_len (b := 0 < Int.tdiv c g.W) (a := c - g.W)
  have := ifL_len (b := 0 < Int.tmod c g.W) (a := c - 1)
  have := ifL_len (b := Int.tmod c g.W + 1 < g.W) (a := c + 1)
  have := ifL_len (b := Int.tdiv c g.W + 1 < g.H) (a := c + g.W)
  omega
theorem if_T {α : Type} {b : Prop} [Decidable b] {l : List α} (h : b) : ifL b l = l := if_pos h
theorem if_F {α : Type} {b : Prop} [Decidable b] {l : List α} (h : ¬ b) : ifL b l = [] := if_neg h
theorem c_Neighbours {σ : Hp} {x : GV} {g : Gnd} {c : Int} (ho : g.okS = true) (h0 : 0 ≤ c) (h1 : c < g.C.length) : FCalls Try.prog N_ref04_Neighbours #[x.v g, .int .i64 c] σ (NewL 3 [.int .i64] σ (g.nbr c)) := by
  refine M_ref04_Neighbours_ok _ _ _ _ _ _ _ _ _ _ _ ?_
  unfold M_ref04_Neighbours
  obtain ⟨m0, m1, d0, d1, e⟩ := Gnd.xy ho h0 (by omega)
  obtain ⟨hW, hH, hl, _⟩ := Gnd.okS_iff.1 ho
  obtain ⟨l1, l2, l3⟩ := Gnd.okS_len ho
  unfold Gnd.nbr
  refine ⟨by omega, by omega, wk_i (by omega) ?_⟩
  generalize Int.tmod c g.W = X at *
  generalize Int.tdiv c g.W = Y at *
  have e1 := ifL_len (b := 0 < Y) (a := c - g.W)
  have e2 := ifL_len (b := 0 < X) (a := c - 1)
  have e3 := ifL_len (b := X + 1 < g.W) (a := c + 1)
  refine cut_intro fun J4 h4 => ?_
  have k4 : J4 (ifL (0 < Y) [c - g.W]) σ := by
    rw [h4]
    intro _
    refine cut_intro fun J8 h8 => ?_
    have k8 : J8 (ifL (0 < Y) [c - g.W] ++ ifL (0 < X) [c - 1]) σ := by
      rw [h8]
      intro _
      refine cut_intro fun J12 h12 => ?_
      have k12 : J12 ((ifL (0 < Y) [c - g.W] ++ ifL (0 < X) [c - 1]) ++ ifL (X + 1 < g.W) [c + 1]) σ := by
        rw [h12]
        intro _
        refine cut_intro fun J16 h16 => ?_
        have k16 : J16 (((ifL (0 < Y) [c - g.W] ++ ifL (0 < X) [c - 1]) ++ ifL (X + 1 < g.W) [c + 1]) ++ ifL (Y + 1 < g.H) [c + g.W]) σ := by
          rw [h16]
          exact fun _ A n c' σ' hown => rt_of ⟨_, _, _, rfl, hown⟩
        refine wk_i (by omega) (bc_d (fun h => wk_i (by omega) (roomy_i ?_ ?_)) (fun h => ?_))
        · simp only [List.length_append, List.length_cons, List.length_nil]
          omega
        · rw [if_T h] at k16; exact k16
        · rw [if_F h, List.append_nil] at k16; exact k16
      refine wk_i (by omega) (bc_d (fun h => wk_i (by omega) (roomy_i ?_ ?_)) (fun h => ?_))
      · simp only [List.length_append, List.length_cons, List.length_nil]
        omega
      · rw [if_T h] at k12; exact k12
      · rw [if_F h, List.append_nil] at k12; exact k12
    refine bc_d (fun h => wk_i (by omega) (roomy_i ?_ ?_)) (fun h => ?_)
    · simp only [List.length_cons, List.length_nil]
      omega
    · rw [if_T h] at k8; exact k8
    · rw [if_F h, List.append_nil] at k8; exact k8
  refine bc_d (fun h => wk_i (by omega) (adp_nil.2 (roomy_i ?_ ?_))) (fun h => adp_nil.2 ?_)
  · show (1 : Nat) ≤ 4294967296
    omega
  · rw [if_T h] at k4; exact k4
  · rw [if_F h] at k4; exact k4
theorem c_field_beside {σ : Hp} {f : Option Addr} {V : FA} {g : Gnd} {l : List Pit} {c : Int} (hf : FdB σ f V g l) (ho : g.okS = true) (h0 : 0 ≤ c) (h1 : c < g.C.length) : FCalls Try.prog N_ground_field_beside #[.pointer f, .int .i64 c] σ (NewL 3 [.int .i64] σ (g.nbr c)) := by
  refine M_ground_field_beside_ok _ _ _ _ ?_
  unfold M_ground_field_beside
  obtain ⟨m0, m1, d0, d1, e⟩ := Gnd.xy ho h0 (by omega)
  obtain ⟨hW, hH, hl, _⟩ := Gnd.okS_iff.1 ho
  obtain ⟨l1, l2, l3⟩ := Gnd.okS_len ho
  unfold Gnd.nbr
  refine hf.dW ⟨by omega, hf.dW ⟨by omega, wk_i (by omega) ?_⟩⟩
  generalize Int.tmod c g.W = X at *
  generalize Int.tdiv c g.W = Y at *
  have e1 := ifL_len (b := 0 < Y) (a := c - g.W)
  have e2 := ifL_len (b := 0 < X) (a := c - 1)
  have e3 := ifL_len (b := X + 1 < g.W) (a := c + 1)
  refine cut_intro fun J4 h4 => ?_
  have k4 : J4 (ifL (0 < Y) [c - g.W]) σ := by
    rw [h4]
    intro _
    refine cut_intro fun J8 h8 => ?_
    have k8 : J8 (ifL (0 < Y) [c - g.W] ++ ifL (0 < X) [c - 1]) σ := by
      rw [h8]
      intro _
      refine cut_intro fun J12 h12 => ?_
      have k12 : J12 ((ifL (0 < Y) [c - g.W] ++ ifL (0 < X) [c - 1]) ++ ifL (X + 1 < g.W) [c + 1]) σ := by
        rw [h12]
        intro _
        refine cut_intro fun J16 h16 => ?_
        have k16 : J16 (((ifL (0 < Y) [c - g.W] ++ ifL (0 < X) [c - 1]) ++ ifL (X + 1 < g.W) [c + 1]) ++ ifL (Y + 1 < g.H) [c + g.W]) σ := by
          rw [h16]
          exact fun _ A n c' σ' hown => rt_of ⟨_, _, _, rfl, hown⟩
        refine hf.dH (wk_i (by omega) (bc_d (fun h => hf.dW (wk_i (by omega) (roomy_i ?_ ?_))) (fun h => ?_)))
        · simp only [List.length_append, List.length_cons, List.length_nil]
          omega
        · rw [if_T (b := Y + 1 < g.H) (by omega)] at k16; exact k16
        · rw [if_F (b := Y + 1 < g.H) (by omega), List.append_nil] at k16; exact k16
      refine hf.dW (wk_i (by omega) (bc_d (fun h => wk_i (by omega) (roomy_i ?_ ?_)) (fun h => ?_)))
      · simp only [List.length_append, List.length_cons, List.length_nil]
        omega
      · rw [if_T (b := X + 1 < g.W) (by omega)] at k12; exact k12
      · rw [if_F (b := X + 1 < g.W) (by omega), List.append_nil] at k12; exact k12
    refine bc_d (fun h => wk_i (by omega) (roomy_i ?_ ?_)) (fun h => ?_)
    · simp only [List.length_cons, List.length_nil]
      omega
    · rw [if_T h] at k8; exact k8
    · rw [if_F h, List.append_nil] at k8; exact k8
  refine bc_d (fun h => hf.dW (wk_i (by omega) (adp_nil.2 (roomy_i ?_ ?_)))) (fun h => adp_nil.2 ?_)
  · show (1 : Nat) ≤ 4294967296
    omega
  · rw [if_T h] at k4; exact k4
  · rw [if_F h] at k4; exact k4
/-! ### Free cells, costs -/
def Fd.free (F : Fd) (c : Int) : Bool := decide (gt F.g.C c ≠ 1 ∧ gt F.tk c < 0)
theorem c_field_free {σ : Hp} {f : Option Addr} {V : FA} {F : Fd} {c : Int} (hf : FdR σ f V F) (hF : F.ok) (h0 : 0 ≤ c) (h1 : c < F.g.C.length) : FCalls Try.prog N_ground_field_free #[.pointer f, .int .i64 c] σ fun v σ' => v = .bool (F.free c) ∧ σ' = σ := by
  refine M_ground_field_free_ok _ _ _ _ ?_
  unfold M_ground_field_free
  have htk := hF.tk
  refine hf.dC (gixg hf.gr.c h0 (by omega) (bc_nd (fun h => hf.dK (gixg hf.tr h0 (by omega) (rt_of ⟨?_, rfl⟩))) (fun h => rt_of ⟨?_, rfl⟩)))
  · simp [Fd.free, h]
  · simp [Fd.free, h]
def Gnd.drn (g : Gnd) (c : Int) : Int := if gt g.C c = 2 then 3 else 0
theorem drn_in {g : Gnd} {c : Int} : 0 ≤ g.drn c ∧ g.drn c ≤ 3 := by unfold Gnd.drn; split <;> omega
theorem c_field_drain {σ : Hp} {f : Option Addr} {V : FA} {g : Gnd} {l : List Pit} {c : Int} (hf : FdB σ f V g l) (h0 : 0 ≤ c) (h1 : c < g.C.length) : FCalls Try.prog N_ground_field_drain #[.pointer f, .int .i64 c] σ fun v σ' => v = .int .i64 (g.drn c) ∧ σ' = σ := by
  refine M_ground_field_drain_ok _ _ _ _ ?_
  unfold M_ground_field_drain
  refine hf.dC (gixg hf.gr.c h0 (by omega) (bc_d (fun h => rt_of ⟨?_, rfl⟩) (fun h => rt_of ⟨?_, rfl⟩))) <;> simp [Gnd.drn, h]
def Gnd.stp (g : Gnd) (a b : Int) : Int := 1 + (if gt g.T b - gt g.T a > gt g.T a - gt g.T b then gt g.T b - gt g.T a else gt g.T a - gt g.T b)
theorem stp_in {g : Gnd} (h : g.ok = true) {a b : Int} : 1 ≤ g.stp a b ∧ g.stp a b ≤ 101 := by
  have h1 := gt_in (Gnd.okT h) (by omega) a
  have h2 := gt_in (Gnd.okT h) (by omega) b
  unfold Gnd.stp
  split <;> omega
theorem stp_comm {g : Gnd} {a b : Int} : g.stp a b = g.stp b a := by
  unfold Gnd.stp
  split <;> split <;> omega
theorem c_field_step {σ : Hp} {f : Option Addr} {V : FA} {g : Gnd} {l : List Pit} {a b : Int} (hf : FdB σ f V g l) (hok : g.ok = true) (h0 : 0 ≤ a) (h1 : a < g.C.length) (h2 : 0 ≤ b) (h3 : b < g.C.length) : FCalls Try.prog N_ground_field_step #[.pointer f, .int .i64 a, .int .i64 b] σ fun v σ' => v = .int .i64 (g.stp a b) ∧ σ' = σ := by
  refine M_ground_field_step_ok _ _ _ _ _ ?_
  unfold M_ground_field_step
  obtain ⟨_, _, l3⟩ := Gnd.okS_len (Gnd.ok.s hok)
  have b1 := gt_in (Gnd.okT hok) (by omega) a
  have b2 := gt_in (Gnd.okT hok) (by omega) b
  refine hf.dT (gixg hf.gr.h h0 (by omega) (hf.dT (gixg hf.gr.h h2 (by omega) (wk_i (by omega) (hf.dT (gixg hf.gr.h h2 (by omega) (hf.dT (gixg hf.gr.h h0 (by omega) (wk_i (by omega) (wk_i ?_ (rt_of ⟨rfl, rfl⟩)))))))))))
  split <;> omega
end Go.Proofs.Ytmpkiaghkhhlhaa

/- Contracts of layer 4: Open, Cost, withCell. No conditions but those that each theorem names. -/
namespace Go.Proofs.Ytmpkiaghkhhlhaa
open Go.RowKit

/-! ### Open cells -/
def Gnd.opnK (g : Gnd) (full : List Bool) (k : Nat) : List Bool := (List.range k).map (fun j : Nat => !gb full j && decide (gt g.C j ≠ 1)) ++ List.replicate (g.C.length - k) false
def Gnd.opn (g : Gnd) (l : List Pit) (st : List Sit) : List Bool := g.opnK (g.takS l st (-1) st.length) g.C.length
theorem opnK_len {g : Gnd} {full : List Bool} {k : Nat} (h : k ≤ g.C.length) : (g.opnK full k).length = g.C.length := by simp [Gnd.opnK]; omega
theorem opnK_succ {g : Gnd} {full : List Bool} {k : Nat} (h : k < g.C.length) : g.opnK full (k + 1) = (g.opnK full k).set k (!gb full k && decide (gt g.C k ≠ 1)) := by
  unfold Gnd.opnK
  rw [List.range_succ, List.map_append, List.append_assoc]
  have e : List.replicate (g.C.length - k) false = false :: List.replicate (g.C.length - (k + 1)) false := by
    rw [← List.replicate_succ]
    congr 1
    omega
  rw [e, List.set_append_right _ _ (by simp)]
  simp
theorem opn_len {g : Gnd} {l : List Pit} {st : List Sit} : (g.opn l st).length = g.C.length := opnK_len (Nat.le_refl _)
theorem gb_opn {g : Gnd} {l : List Pit} {st : List Sit} {c : Int} (h0 : 0 ≤ c) (h1 : c < g.C.length) : gb (g.opn l st) c = (!gb (g.takS l st (-1) st.length) c && decide (gt g.C c ≠ 1)) := by
  have hl := opn_len (g := g) (l := l) (st := st)
  obtain ⟨n, rfl⟩ : ∃ n : Nat, c = n := ⟨c.toNat, by omega⟩
  rw [gb_nat (by omega)]
  unfold Gnd.opn Gnd.opnK
  rw [List.getElem_append_left (by simp; omega)]
  simp
theorem c_Open {σ : Hp} {x : GV} {g : Gnd} {lA sA : Option Addr} {ln lc sn sc : Nat} {l : List Pit} {st : List Sit} (hg : GRd σ x g) (hG : Good g l) (hl : RdS sP σ lA ln l) (hst : RdS sS σ sA sn st) (hle : st.length ≤ l.length) :
    FCalls Try.prog N_ref04_Open #[x.v g, .slice lA ln lc, .slice sA sn sc] σ (NewL 4 [.bool] σ (g.opn l st)) := by
  refine M_ref04_Open_ok _ _ _ _ _ _ _ _ _ _ _ _ _ _ _ _ ?_
  unfold M_ref04_Open
  refine clL M_ref04_taken_enter (c_taken (but := -1) hg hG.s hl hst hG.p hle hG.len) ?_
  have hfl : (g.takS l st (-1) st.length).length = g.C.length := takS_len _
  obtain ⟨l1, l2, _⟩ := Gnd.okS_len hG.s
  show _ ∧ _
  unfold Gnd.opn
  generalize g.takS l st (-1) st.length = full at *
  refine ⟨by omega, by omega, by omega, cut_intro fun J8 h8 => ?_⟩
  refine ⟨fun n i xs τ => ∃ k : Nat, n = g.C.length - k ∧ i = k ∧ k ≤ g.C.length ∧ xs = g.opnK full k ∧ τ = σ, ⟨_, 0, rfl, rfl, by omega, by simp [Gnd.opnK, hfl], rfl⟩, ?_⟩
  rintro n i xs τ ⟨k, rfl, rfl, hk, rfl, rfl⟩ _
  have hkl := opnK_len (full := full) hk
  refine bc_d (fun hlt => ?_) (fun hlt => ?_)
  · have hkl' : k < g.C.length := by omega
    refine cut_intro fun J20 h20 => ?_
    have k20 : J20 (g.opnK full (k + 1)) τ := by
      rw [h20]
      intro _
      exact wk_i (by omega) (bk_of _ (by omega) ⟨k + 1, rfl, rfl, by omega, rfl, rfl⟩)
    rw [opnK_succ hkl'] at k20
    refine ⟨by omega, by omega, lat_b (by omega) (by omega) (bc_nb (fun h => ?_) (fun h => ?_))⟩
    · refine gixg hg.c (by omega) (by omega) ⟨by omega, by omega, lat_b (by omega) (by omega) ?_⟩
      rw [h] at k20
      simpa using k20
    · refine ⟨by omega, by omega, lat_b (by omega) (by omega) ?_⟩
      rw [h] at k20
      simpa using k20
  · rw [h8]
    intro _
    have : k = g.C.length := by omega
    subst this
    exact fun A n c σ' hown => rt_of ⟨_, _, _, rfl, hown⟩

/-! ### What a way costs -/
def Gnd.costK (g : Gnd) (way : List Int) : Nat → Int
  | 0 => 0
  | k + 1 => (g.costK way k + g.drn (gt way k)) + if 0 < k then g.stp (gt way (k - 1 : Nat)) (gt way k) else 0
theorem costK_in {g : Gnd} (h : g.ok = true) {way : List Int} : ∀ k : Nat, 0 ≤ g.costK way k ∧ g.costK way k ≤ 104 * k
  | 0 => by simp [Gnd.costK]
  | k + 1 => by
    have ih := costK_in h (way := way) k
    have h1 := drn_in (g := g) (c := gt way k)
    have h2 := stp_in h (a := gt way (k - 1 : Nat)) (b := gt way k)
    unfold Gnd.costK
    split <;> omega
theorem c_Cost {σ : Hp} {x : GV} {g : Gnd} {wA : Option Addr} {wn wc : Nat} {way : List Int} (hg : GRd σ x g) (hok : g.ok = true) (hw : RdS [.int .i64] σ wA wn way) (hin : ∀ a ∈ way, 0 ≤ a ∧ a < g.C.length) (hlen : way.length ≤ 4294967296) :
    FCalls Try.prog N_ref04_Cost #[x.v g, .slice wA wn wc] σ fun v σ' => v = .int .i64 (g.costK way way.length) ∧ σ' = σ := by
  refine M_ref04_Cost_ok _ _ _ _ _ _ _ _ _ _ _ _ _ ?_
  unfold M_ref04_Cost
  have hn := hw.lenI
  obtain ⟨l1, l2, l3⟩ := Gnd.okS_len (Gnd.ok.s hok)
  refine cut_intro fun J3 h3 => ?_
  refine ⟨fun n c i τ => ∃ k : Nat, n = way.length - k ∧ c = g.costK way k ∧ i = k ∧ k ≤ way.length ∧ τ = σ, ⟨_, 0, rfl, rfl, rfl, by omega, rfl⟩, ?_⟩
  rintro n c i τ ⟨k, rfl, rfl, rfl, hk, rfl⟩ _
  refine bc_d (fun hlt => ?_) (fun hlt => ?_)
  · have hkl : k < way.length := by omega
    have ik := hin _ (gt_mem hkl)
    have hck := costK_in hok (way := way) k
    have hdr := drn_in (g := g) (c := gt way k)
    refine cut_intro fun J13 h13 => cut_intro fun J20 h20 => ?_
    have k13 : J13 (g.costK way (k + 1)) τ := by
      rw [h13]
      intro _
      exact wk_i (by omega) (bk_of _ (by omega) ⟨k + 1, rfl, rfl, rfl, by omega, rfl⟩)
    rw [Gnd.costK] at k13
    have k20 : J20 (g.costK way k + g.drn (gt way k)) τ := by
      rw [h20]
      intro _
      refine bc_d (fun h0 => ?_) (fun h0 => ?_)
      · rw [if_pos (by omega)] at k13
        have e : ((k : Int) - 1) = ((k - 1 : Nat) : Int) := by omega
        have ik1 := hin _ (gt_mem (show k - 1 < way.length by omega))
        have b1 := gt_in (Gnd.okT hok) (by omega) (gt way k)
        have b2 := gt_in (Gnd.okT hok) (by omega) (gt way (k - 1 : Nat))
        refine gixg hw (by omega) (by omega) (gixg hg.h (by omega) (by omega) (wk_i (by omega) (gixg hw (by omega) (by omega) ?_)))
        rw [e]
        refine gixg hg.h (by omega) (by omega) (wk_i (by omega) (wk_i (by omega) (wk_i ?_ ?_)))
        · split <;> omega
        · have es : g.stp (gt way (k - 1 : Nat)) (gt way k) = 1 + (if 0 - (gt g.T (gt way k) - gt g.T (gt way (k - 1 : Nat))) > gt g.T (gt way k) - gt g.T (gt way (k - 1 : Nat)) then 0 - (gt g.T (gt way k) - gt g.T (gt way (k - 1 : Nat))) else gt g.T (gt way k) - gt g.T (gt way (k - 1 : Nat))) := by
            unfold Gnd.stp
            split <;> split <;> omega
          have hst := stp_in hok (a := gt way (k - 1 : Nat)) (b := gt way k)
          rw [es] at k13 hst
          exact wk_i (by omega) k13
      · rw [if_neg (by omega), Int.add_zero] at k13
        exact k13
    refine gixg hw (by omega) (by omega) (gixg hg.c (by omega) (by omega) (bc_d (fun h2 => ?_) (fun h2 => ?_)))
    · have : g.drn (gt way k) = 3 := by simp [Gnd.drn, h2]
      rw [this] at k20
      exact wk_i (by omega) k20
    · have : g.drn (gt way k) = 0 := by simp [Gnd.drn, h2]
      rw [this, Int.add_zero] at k20
      exact k20
  · rw [h3]
    intro _
    have : k = way.length := by omega
    subst this
    exact rt_of ⟨rfl, rfl⟩
theorem cost1 {g : Gnd} {a : Int} : g.costK [a] 1 = g.drn a := by simp [Gnd.costK, gt]
theorem cost2 {g : Gnd} {a b : Int} : g.costK [a, b] 2 = g.drn a + g.drn b + g.stp a b := by simp [Gnd.costK, gt]

/-! ### A field and some cells -/
theorem c_withCell_1 {σ : Hp} {x : GV} {g : Gnd} {c : Int} {b : Nat} (hb : ∀ i, σ.cell? ⟨b, i, none⟩ = (#[.int .i64 g.W, .int .i64 g.H, .slice x.cA x.cn x.cc, .slice x.hA x.hn x.hc] : Array Value)[i]?) (hc : x.cn = g.C.length) (hl : g.C.length ≤ 4294967296) :
    FCalls Try.prog N_ground_withCell_1 #[.int .i64 c, .pointer (some ⟨b, 0, none⟩)] σ fun v σ' => v = .bool (!decide (0 ≤ c ∧ c ≤ (g.C.length : Int) - 1)) ∧ σ' = σ := by
  refine M_ground_withCell_1_ok _ _ _ _ ?_
  unfold M_ground_withCell_1
  refine dr_i (ldS_of ((hb _).trans rfl) (wk_i (by omega) (l_gw (rt_of ⟨by rw [hc], rfl⟩))))
/-- what hands back a field, or an error -/
def NewF1 (σ : Hp) (e : Int) (F : Fd) : Value → Hp → Prop := fun v σ' =>
  (e ≠ 0 ∧ v = .tuple #[.pointer none, .int .i64 e] ∧ σ' = σ) ∨ (e = 0 ∧ ∃ f V σ0, v = .tuple #[.pointer f, .int .i64 e] ∧ Hp.Sub σ σ0 ∧ FdW σ0 σ' f V F)
theorem c_withCell {σ : Hp} {x : GV} {g : Gnd} {lA sA kA : Option Addr} {ln lc sn sc kn kc : Nat} {l : List Pit} {st : List Sit} {ks : List Int} (hg : GRd σ x g) (hl : RdS sP σ lA ln l) (hst : RdS sS σ sA sn st) (hk : RdS [.int .i64] σ kA kn ks) (hkl : ks.length ≤ 4294967296) :
    FCalls Try.prog N_ground_withCell #[x.v g, .slice lA ln lc, .slice sA sn sc, .slice kA kn kc] σ (NewF1 σ (if (chkS g l st).2 ≠ 0 then (chkS g l st).2 else if ks.any fun c => !decide (0 ≤ c ∧ c ≤ (g.C.length : Int) - 1) then 1 else 0) (fdK g l st l.length)) := by
  refine M_ground_withCell_ok _ _ _ _ _ _ _ _ _ _ _ _ _ _ _ _ _ _ _ ?_
  unfold M_ground_withCell
  have hcn := hg.c.lenI
  refine cl_of M_ground_newField_enter (c_newField hg hl hst) ?_
  rintro v σ' (⟨hne, rfl, rfl⟩ | ⟨h00, f, V, σ0, rfl, hs0, hfw⟩)
  · refine ⟨_, _, _, rfl, bc_nd (fun h => rt_of (.inl ?_)) (fun h => absurd h hne)⟩
    rw [if_pos hne]
    exact ⟨hne, rfl, rfl⟩
  · refine ⟨_, _, _, rfl, bc_nd (fun h => absurd h00 h) (fun h => ?_)⟩
    have hs : Hp.Sub σ σ' := hs0.trans hfw.base
    have hlen : g.C.length ≤ 4294967296 := by
      have hch : (chkP g l).2 = 0 := by
        unfold chkS at h00
        by_cases e : (chkP g l).2 ≠ 0
        · rw [if_pos e] at h00; exact absurd h00 e
        · simpa using e
      have := (Gnd.okS_len (Gnd.ok.s (chkP_ok hch).1)).2.1
      omega
    rw [if_neg (by simp [h00])]
    intro b hb
    have hs4 : Hp.Sub σ' (σ'.ins b (.cells #[.int .i64 g.W, .int .i64 g.H, .slice x.cA x.cn x.cc, .slice x.hA x.hn x.hc] 24)) := Hp.Sub.ins _ hb
    have hcell : ∀ i, (σ'.ins b (.cells #[.int .i64 g.W, .int .i64 g.H, .slice x.cA x.cn x.cc, .slice x.hA x.hn x.hc] 24)).cell? ⟨b, i, none⟩ = (#[.int .i64 g.W, .int .i64 g.H, .slice x.cA x.cn x.cc, .slice x.hA x.hn x.hc] : Array Value)[i]? := by
      intro i
      unfold Hp.cell?
      simp only [Hp.ins_same]
      rfl
    generalize (σ'.ins b (.cells #[.int .i64 g.W, .int .i64 g.H, .slice x.cA x.cn x.cc, .slice x.hA x.hn x.hc] 24)) = τ at *
    refine clB M_slices_ContainsFunc_int_enter (c_ContainsFunc_int (p := fun c => !decide (0 ≤ c ∧ c ≤ (g.C.length : Int) - 1)) (hk.sub (hs.trans hs4)) hkl (Dec.of M_ground_withCell_1_enter fun a _ => c_withCell_1 hcell hcn hlen)) ?_
    refine bc_b (fun ht => rt_sub (hs.trans hs4) (.inl ?_)) (fun ht => rt_sub hs4 (.inr ?_))
    · rw [ht]
      exact ⟨by simp, rfl, rfl⟩
    · rw [ht]
      exact ⟨rfl, f, V, σ0, rfl, hs0, hfw⟩
end Go.Proofs.Ytmpkiaghkhhlhaa

/- The plain law of the cable: rounds of relaxing. No program in sight but the lists. -/
namespace Go.Proofs.Ytmpkiaghkhhlhaa
open Go.RowKit

section
variable (g : Gnd) (op : Int → Bool)
/-- one neighbour k of c -/
def rlx (c : Int) (X : List Int) (k : Int) : List Int :=
  if gt X k < 0 ∨ op k = false then X else if gt X c < 0 ∨ gt X k + g.stp c k + g.drn c < gt X c then X.set c.toNat (gt X k + g.stp c k + g.drn c) else X
def rlxC (c : Int) (X : List Int) : List Int := if op c then (g.nbr c).foldl (rlx g op c) X else X
def rndK (k : Nat) (X : List Int) : List Int := (List.range k).foldl (fun X (c : Nat) => rlxC g op c X) X
def rnd (X : List Int) : List Int := rndK g op g.C.length X
def rnds : Nat → List Int → List Int
  | 0, X => X
  | n + 1, X => rnd g op (rnds n X)
end
variable {g : Gnd} {op : Int → Bool}
theorem rndK_succ {k : Nat} {X : List Int} : rndK g op (k + 1) X = rlxC g op k (rndK g op k X) := by simp [rndK, List.range_succ]

/-- what always holds of the costs -/
structure CInv (g : Gnd) (op : Int → Bool) (to : Int) (X : List Int) : Prop where
  len : X.length = g.C.length
  neg : ∀ c : Int, gt X c < 0 → gt X c = -1
  opn : ∀ c : Int, 0 ≤ c → c < g.C.length → 0 ≤ gt X c → op c = true
  tov : gt X to = g.drn to
  sup : ∀ c : Int, 0 ≤ c → c < g.C.length → c ≠ to → 0 ≤ gt X c → ∃ k ∈ g.nbr c, op k = true ∧ 0 ≤ gt X k ∧ gt X k + g.stp c k + g.drn c ≤ gt X c
/-- lower, or as low -/
def Le (X Y : List Int) : Prop := ∀ c : Int, 0 ≤ gt Y c → 0 ≤ gt X c ∧ gt X c ≤ gt Y c
theorem Le.refl (X : List Int) : Le X X := fun c h => ⟨h, Int.le_refl _⟩
theorem Le.trans {X Y Z : List Int} (h : Le X Y) (h' : Le Y Z) : Le X Z := fun c hc => by
  have h1 := h' c hc
  have h2 := h c h1.1
  omega
theorem gt_out {xs : List Int} {i : Int} (h : xs.length ≤ i.toNat) : gt xs i = 0 := by simp [gt, List.getD, h]
theorem gt_set' {xs : List Int} {i c v : Int} (h0 : 0 ≤ i) (h1 : i < xs.length) : gt (xs.set i.toNat v) c = if c.toNat = i.toNat then v else gt xs c := by
  unfold gt
  simp only [List.getD, List.getElem?_set]
  by_cases h : i.toNat = c.toNat
  · rw [if_pos h, if_pos h.symm, if_pos (by omega)]
    rfl
  · rw [if_neg h, if_neg (fun e => h e.symm)]
theorem gt_to {xs : List Int} {c i : Int} (h : c.toNat = i.toNat) : gt xs c = gt xs i := by unfold gt; rw [h]

/-- what one step of relaxing does -/
inductive Rlx (g : Gnd) (op : Int → Bool) (c : Int) (X : List Int) (k : Int) : List Int → Prop where
  | same : (gt X k < 0 ∨ op k = false ∨ (0 ≤ gt X c ∧ gt X c ≤ gt X k + g.stp c k + g.drn c)) → Rlx g op c X k X
  | set : 0 ≤ gt X k → op k = true → (gt X c < 0 ∨ gt X k + g.stp c k + g.drn c < gt X c) → Rlx g op c X k (X.set c.toNat (gt X k + g.stp c k + g.drn c))
theorem rlx_is {c k : Int} {X : List Int} : Rlx g op c X k (rlx g op c X k) := by
  unfold rlx
  split
  · rename_i h
    exact .same (h.imp id fun h => .inl h)
  · rename_i h
    split
    · rename_i h2
      refine .set (by omega) ?_ h2
      cases e : op k with
      | true => rfl
      | false => exact absurd (.inr e) h
    · rename_i h2
      exact .same (.inr (.inr (by omega)))
theorem Rlx.le {c k : Int} {X Y : List Int} (h : Rlx g op c X k Y) (hok : g.ok = true) (h0 : 0 ≤ c) (h1 : c < X.length) : Le Y X := by
  cases h with
  | same _ => exact Le.refl _
  | set a b d =>
    intro i hi
    have := stp_in hok (a := c) (b := k)
    have := drn_in (g := g) (c := c)
    rw [gt_set' h0 h1]
    split
    · rename_i e
      rw [gt_to e] at hi ⊢
      omega
    · omega
theorem Rlx.inv {c k to : Int} {X Y : List Int} (h : Rlx g op c X k Y) (hok : g.ok = true) (hX : CInv g op to X) (h0 : 0 ≤ c) (h1 : c < g.C.length) (t0 : 0 ≤ to) (hop : op c = true) (hk : k ∈ g.nbr c) : CInv g op to Y := by
  have hle := h.le hok h0 (by rw [hX.len]; exact h1)
  cases h with
  | same _ => exact hX
  | set a b d =>
    have s1 := stp_in hok (a := c) (b := k)
    have s2 := drn_in (g := g) (c := c)
    have h1' : c < X.length := by rw [hX.len]; exact h1
    have hto := hX.tov
    have htne : to ≠ c := by
      rintro rfl
      omega
    refine ⟨by simpa using hX.len, fun i hi => ?_, fun i i0 i1 hi => ?_, ?_, fun i i0 i1 hne hi => ?_⟩
    · rw [gt_set' h0 h1'] at hi ⊢
      split at hi
      · omega
      · rename_i e; rw [if_neg e]; exact hX.neg i hi
    · rw [gt_set' h0 h1'] at hi
      split at hi
      · have : i = c := by omega
        rw [this]; exact hop
      · exact hX.opn i i0 i1 hi
    · rw [gt_set' h0 h1', if_neg (by omega)]
      exact hto
    · by_cases e : i = c
      · subst e
        refine ⟨k, hk, b, (hle k a).1, ?_⟩
        have := (hle k a).2
        rw [gt_set' (c := i) h0 h1', if_pos rfl]
        omega
      · rw [gt_set' h0 h1', if_neg (by omega)] at hi ⊢
        obtain ⟨k', m1, m2, m3, m4⟩ := hX.sup i i0 i1 hne hi
        have := hle k' m3
        exact ⟨k', m1, m2, this.1, by omega⟩
/-- what holds behind each step, holds behind a round -/
theorem rlxC_ind {P : List Int → Prop} {c : Int} {X : List Int} (hX : P X) (h : ∀ Y k, P Y → op c = true → k ∈ g.nbr c → P (rlx g op c Y k)) : P (rlxC g op c X) := by
  unfold rlxC
  split
  · rename_i hop
    have : ∀ (ks : List Int) (Y : List Int), (∀ k ∈ ks, k ∈ g.nbr c) → P Y → P (ks.foldl (rlx g op c) Y) := by
      intro ks
      induction ks with
      | nil => intro Y _ hY; exact hY
      | cons k ks ih => intro Y hk hY; exact ih _ (fun k' hk' => hk k' (List.mem_cons_of_mem _ hk')) (h Y k hY hop (hk k (List.mem_cons_self ..)))
    exact this _ X (fun _ hk => hk) hX
  · exact hX
theorem rndK_ind {P : List Int → Prop} {X : List Int} (hX : P X) : ∀ n : Nat, (∀ (c : Nat) (Y : List Int) k, c < n → P Y → op c = true → k ∈ g.nbr c → P (rlx g op c Y k)) → P (rndK g op n X)
  | 0, _ => hX
  | n + 1, h => by
    rw [rndK_succ]
    exact rlxC_ind (rndK_ind hX n fun c Y k hc => h c Y k (by omega)) fun Y k => h n Y k (by omega)
theorem rnd_inv {to : Int} {X : List Int} (hok : g.ok = true) (t0 : 0 ≤ to) (hX : CInv g op to X) {n : Nat} (hn : n ≤ g.C.length) : CInv g op to (rndK g op n X) :=
  rndK_ind hX n fun c _ _ hc hY hop hk => rlx_is.inv hok hY (by omega) (by omega) t0 hop hk
theorem rnds_inv {to : Int} {X : List Int} (hok : g.ok = true) (t0 : 0 ≤ to) (hX : CInv g op to X) : ∀ n, CInv g op to (rnds g op n X)
  | 0 => hX
  | n + 1 => rnd_inv hok t0 (rnds_inv hok t0 hX n) (Nat.le_refl _)
/-- a fixed point: nothing can be lowered -/
def Fix (g : Gnd) (op : Int → Bool) (X : List Int) : Prop := ∀ c : Int, 0 ≤ c → c < g.C.length → op c = true → ∀ k ∈ g.nbr c, op k = true → 0 ≤ gt X k → 0 ≤ gt X c ∧ gt X c ≤ gt X k + g.stp c k + g.drn c
theorem Rlx.ge {c k : Int} {X Y Z : List Int} (h : Rlx g op c X k Z) (hY : Fix g op Y) (hXY : Le Y X) (h0 : 0 ≤ c) (h1 : c < g.C.length) (hl : X.length = g.C.length) (hop : op c = true) (hk : k ∈ g.nbr c) : Le Y Z := by
  cases h with
  | same _ => exact hXY
  | set a b d =>
    intro i hi
    rw [gt_set' h0 (by omega)] at hi ⊢
    split
    · rename_i e
      have h2 := hXY k a
      have h3 := hY c h0 h1 hop k hk b h2.1
      rw [gt_to e]
      omega
    · rename_i e
      rw [if_neg e] at hi
      exact hXY i hi
/-- a round between: it lowers X, and stays above a fixed point -/
theorem rndK_btw {to : Int} {X Y : List Int} (hok : g.ok = true) (t0 : 0 ≤ to) (hX : CInv g op to X) (hY : Fix g op Y) (hXY : Le Y X) {n : Nat} (hn : n ≤ g.C.length) : CInv g op to (rndK g op n X) ∧ Le Y (rndK g op n X) ∧ Le (rndK g op n X) X := by
  refine rndK_ind (P := fun Z => CInv g op to Z ∧ Le Y Z ∧ Le Z X) ⟨hX, hXY, Le.refl X⟩ n ?_
  rintro c Z k hc ⟨z1, z2, z3⟩ hop hk
  refine ⟨rlx_is.inv hok z1 (by omega) (by omega) t0 hop hk, rlx_is.ge hY z2 (by omega) (by omega) z1.len hop hk, (rlx_is.le hok (by omega) (by rw [z1.len]; omega)).trans z3⟩
end Go.Proofs.Ytmpkiaghkhhlhaa

/- Contracts of layer 4: rounds of relaxing come to one fixed point. No conditions but those that each theorem names. -/
namespace Go.Proofs.Ytmpkiaghkhhlhaa
open Go.RowKit
variable {g : Gnd} {op : Int → Bool}

theorem foldl_le {to c : Int} (hok : g.ok = true) (t0 : 0 ≤ to) (h0 : 0 ≤ c) (h1 : c < g.C.length) (hop : op c = true) : ∀ (ks : List Int) {X : List Int}, (∀ k ∈ ks, k ∈ g.nbr c) → CInv g op to X → CInv g op to (ks.foldl (rlx g op c) X) ∧ Le (ks.foldl (rlx g op c) X) X ∧ ∀ Y, Fix g op Y → Le Y X → Le Y (ks.foldl (rlx g op c) X)
  | [], X, _, hX => ⟨hX, Le.refl X, fun _ _ h => h⟩
  | k :: ks, X, hk, hX => by
    have hkm := hk k (List.mem_cons_self ..)
    obtain ⟨r1, r2, r3⟩ := foldl_le hok t0 h0 h1 hop ks (X := rlx g op c X k) (fun k' h' => hk k' (List.mem_cons_of_mem _ h')) (rlx_is.inv hok hX h0 h1 t0 hop hkm)
    exact ⟨r1, r2.trans (rlx_is.le hok h0 (by rw [hX.len]; exact h1)), fun Y hY hYX => r3 Y hY (rlx_is.ge hY hYX h0 h1 hX.len hop hkm)⟩
  termination_by ks => ks.length
theorem rlxC_le {to c : Int} {X : List Int} (hok : g.ok = true) (t0 : 0 ≤ to) (h0 : 0 ≤ c) (h1 : c < g.C.length) (hX : CInv g op to X) : CInv g op to (rlxC g op c X) ∧ Le (rlxC g op c X) X ∧ ∀ Y, Fix g op Y → Le Y X → Le Y (rlxC g op c X) := by
  unfold rlxC
  split
  · rename_i hop
    exact foldl_le hok t0 h0 h1 hop _ (fun _ h => h) hX
  · exact ⟨hX, Le.refl X, fun _ _ h => h⟩
theorem rndK_le {to : Int} {X : List Int} (hok : g.ok = true) (t0 : 0 ≤ to) (hX : CInv g op to X) : ∀ n : Nat, n ≤ g.C.length → CInv g op to (rndK g op n X) ∧ Le (rndK g op n X) X ∧ ∀ Y, Fix g op Y → Le Y X → Le Y (rndK g op n X)
  | 0, _ => ⟨hX, Le.refl X, fun _ _ h => h⟩
  | n + 1, hn => by
    obtain ⟨a1, a2, a3⟩ := rndK_le hok t0 hX n (by omega)
    obtain ⟨b1, b2, b3⟩ := rlxC_le (c := n) hok t0 (by omega) (by omega) a1
    rw [rndK_succ]
    exact ⟨b1, b2.trans a2, fun Y hY h => b3 Y hY (a3 Y hY h)⟩
theorem rndK_mono {to : Int} {X : List Int} (hok : g.ok = true) (t0 : 0 ≤ to) (hX : CInv g op to X) {m : Nat} : ∀ n : Nat, n ≤ g.C.length → m ≤ n → Le (rndK g op n X) (rndK g op m X)
  | 0, _, h => by
    have : m = 0 := by omega
    subst this
    exact Le.refl _
  | n + 1, hn, h => by
    rcases Nat.lt_or_ge m (n + 1) with hlt | hge
    · rw [rndK_succ]
      exact (rlxC_le (c := n) hok t0 (by omega) (by omega) (rndK_le hok t0 hX n (by omega)).1).2.1.trans (rndK_mono hok t0 hX n (by omega) (by omega))
    · have : m = n + 1 := by omega
      subst this
      exact Le.refl _
/-- in a round, c is looked at beside k -/
theorem rnd_at {to : Int} {X : List Int} (hok : g.ok = true) (t0 : 0 ≤ to) (hX : CInv g op to X) {c k : Int} (h0 : 0 ≤ c) (h1 : c < g.C.length) (hop : op c = true) (hk : k ∈ g.nbr c) :
    ∃ Z, CInv g op to Z ∧ Le Z X ∧ (∀ Y, Fix g op Y → Le Y X → Le Y Z) ∧ Le (rnd g op X) (rlx g op c Z k) := by
  obtain ⟨n, rfl⟩ : ∃ n : Nat, c = n := ⟨c.toNat, by omega⟩
  obtain ⟨us, vs, e⟩ := List.append_of_mem hk
  obtain ⟨a1, a2, a3⟩ := rndK_le hok t0 hX n (by omega)
  obtain ⟨b1, b2, b3⟩ := foldl_le hok t0 h0 h1 hop us (X := rndK g op n X) (fun k h => by rw [e]; exact List.mem_append_left _ h) a1
  refine ⟨us.foldl (rlx g op n) (rndK g op n X), b1, b2.trans a2, fun Y hY h => b3 Y hY (a3 Y hY h), ?_⟩
  have hr : rndK g op (n + 1) X = vs.foldl (rlx g op n) (rlx g op n (us.foldl (rlx g op n) (rndK g op n X)) k) := by
    rw [rndK_succ]
    unfold rlxC
    rw [if_pos hop, e, List.foldl_append, List.foldl_cons]
  obtain ⟨d1, d2, d3⟩ := foldl_le hok t0 h0 h1 hop vs (X := rlx g op n (us.foldl (rlx g op n) (rndK g op n X)) k) (fun k h => by rw [e]; exact List.mem_append_right _ (List.mem_cons_of_mem _ h)) (rlx_is.inv hok b1 h0 h1 t0 hop hk)
  have := rndK_mono hok t0 hX (m := n + 1) g.C.length (Nat.le_refl _) (by omega)
  rw [hr] at this
  exact this.trans d2
/-- as low as each other: equal -/
theorem Le.eq {to : Int} {X Y : List Int} (hX : CInv g op to X) (hY : CInv g op to Y) (h : Le X Y) (h' : Le Y X) (c : Int) : gt X c = gt Y c := by
  have n1 := hX.neg c
  have n2 := hY.neg c
  have a1 := h c
  have a2 := h' c
  rcases Int.lt_or_le (gt X c) 0 with h1 | h1 <;> rcases Int.lt_or_le (gt Y c) 0 with h2 | h2
  · rw [n1 h1, n2 h2]
  · have := a1 h2; omega
  · have := a2 h1; omega
  · have := a1 h2; have := a2 h1; omega
theorem fix_of_rnd {to : Int} {X : List Int} (hok : g.ok = true) (t0 : 0 ≤ to) (hX : CInv g op to X) (h : rnd g op X = X) : Fix g op X := by
  intro c h0 h1 hop k hk hopk hXk
  obtain ⟨Z, z1, z2, _, z4⟩ := rnd_at hok t0 hX h0 h1 hop hk
  rw [h] at z4
  have hr := rlx_is (g := g) (op := op) (c := c) (X := Z) (k := k)
  have hlen : c < Z.length := by rw [z1.len]; exact h1
  have e1 := Le.eq z1 hX z2 (z4.trans (hr.le hok h0 hlen))
  have e2 := Le.eq (rlx_is.inv hok z1 h0 h1 t0 hop hk) hX ((hr.le hok h0 hlen).trans z2) z4
  generalize rlx g op c Z k = W at *
  cases hr with
  | same h =>
    rw [e1 k, e1 c] at h
    rcases h with h | h | h
    · omega
    · rw [hopk] at h; cases h
    · exact h
  | set a b d =>
    have := e2 c
    rw [gt_set' h0 hlen, if_pos rfl, e1 k] at this
    rw [e1 k, e1 c] at d
    rw [e1 k] at a
    have := stp_in hok (a := c) (b := k)
    have := drn_in (g := g) (c := c)
    omega
/-- an unsettled cell beside a settled one -/
theorem unset {to : Int} {X Y : List Int} (hok : g.ok = true) (hX : CInv g op to X) (hY : CInv g op to Y) (hYX : Le Y X) : ∀ (m : Nat) (c : Int), 0 ≤ c → c < g.C.length → (gt Y c).toNat ≤ m → gt X c ≠ gt Y c →
    ∃ c : Int, 0 ≤ c ∧ c < g.C.length ∧ gt X c ≠ gt Y c ∧ 0 ≤ gt Y c ∧ ∃ k ∈ g.nbr c, op k = true ∧ 0 ≤ gt Y k ∧ gt Y k + g.stp c k + g.drn c ≤ gt Y c ∧ gt X k = gt Y k := by
  intro m
  induction m with
  | zero =>
    intro c h0 h1 hm hne
    have hpos : 0 ≤ gt Y c := by
      rcases Int.lt_or_le (gt Y c) 0 with h | h
      · exfalso
        rcases Int.lt_or_le (gt X c) 0 with h2 | h2
        · exact hne (by rw [hX.neg c h2, hY.neg c h])
        · have := hYX c h2; omega
      · exact h
    have hto : c ≠ to := fun e => hne (by rw [e, hX.tov, hY.tov])
    obtain ⟨k, k1, k2, k3, k4⟩ := hY.sup c h0 h1 hto hpos
    have := stp_in hok (a := c) (b := k)
    have := drn_in (g := g) (c := c)
    omega
  | succ m ih =>
    intro c h0 h1 hm hne
    have hpos : 0 ≤ gt Y c := by
      rcases Int.lt_or_le (gt Y c) 0 with h | h
      · exfalso
        rcases Int.lt_or_le (gt X c) 0 with h2 | h2
        · exact hne (by rw [hX.neg c h2, hY.neg c h])
        · have := hYX c h2; omega
      · exact h
    have hto : c ≠ to := fun e => hne (by rw [e, hX.tov, hY.tov])
    obtain ⟨k, k1, k2, k3, k4⟩ := hY.sup c h0 h1 hto hpos
    have := stp_in hok (a := c) (b := k)
    have := drn_in (g := g) (c := c)
    by_cases e : gt X k = gt Y k
    · exact ⟨c, h0, h1, hne, hpos, k, k1, k2, k3, k4, e⟩
    · have hin := nbr_in (Gnd.ok.s hok) h0 h1 k k1
      exact ih k hin.1 hin.2 (by omega) e
theorem countP_le' {p q : Nat → Bool} : ∀ (l : List Nat), (∀ x ∈ l, p x = true → q x = true) → l.countP p ≤ l.countP q
  | [], _ => Nat.le_refl _
  | a :: l, h => by
    have ih := countP_le' l fun x hx => h x (List.mem_cons_of_mem _ hx)
    have ha := h a (List.mem_cons_self ..)
    rw [List.countP_cons, List.countP_cons]
    cases e1 : p a <;> cases e2 : q a <;> simp_all <;> omega
theorem countP_lt' {p q : Nat → Bool} : ∀ (l : List Nat), (∀ x ∈ l, p x = true → q x = true) → (∃ x ∈ l, q x = true ∧ p x = false) → l.countP p < l.countP q
  | [], _, h => by obtain ⟨x, hx, _⟩ := h; cases hx
  | a :: l, h, ⟨x, hx, hq, hp⟩ => by
    have hle := countP_le' l fun x hx => h x (List.mem_cons_of_mem _ hx)
    have ha := h a (List.mem_cons_self ..)
    rw [List.countP_cons, List.countP_cons]
    rcases List.mem_cons.1 hx with rfl | hx
    · rw [hq, hp]; simp; omega
    · have ih := countP_lt' l (fun x hx => h x (List.mem_cons_of_mem _ hx)) ⟨x, hx, hq, hp⟩
      cases e1 : p a <;> cases e2 : q a <;> simp_all <;> omega
def cnt (g : Gnd) (X Y : List Int) : Nat := (List.range g.C.length).countP fun c : Nat => decide (gt X c ≠ gt Y c)
theorem cnt_round {to : Int} {X Y : List Int} (hok : g.ok = true) (t0 : 0 ≤ to) (hX : CInv g op to X) (hY : CInv g op to Y) (hF : Fix g op Y) (hYX : Le Y X) : cnt g (rnd g op X) Y ≤ cnt g X Y - 1 := by
  obtain ⟨r1, r2, r3⟩ : CInv g op to (rnd g op X) ∧ Le (rnd g op X) X ∧ ∀ Y, Fix g op Y → Le Y X → Le Y (rnd g op X) := rndK_le hok t0 hX g.C.length (Nat.le_refl _)
  have hYr := r3 Y hF hYX
  have keep : ∀ c : Int, gt X c = gt Y c → gt (rnd g op X) c = gt Y c := by
    intro c e
    rcases Int.lt_or_le (gt Y c) 0 with h | h
    · rcases Int.lt_or_le (gt (rnd g op X) c) 0 with h2 | h2
      · rw [r1.neg c h2, hY.neg c h]
      · have := hYr c h2; omega
    · have a1 := r2 c (by omega)
      have a2 := hYr c a1.1
      omega
  unfold cnt
  by_cases hall : ∃ c : Nat, c < g.C.length ∧ gt X c ≠ gt Y c
  · obtain ⟨c, hc, hne⟩ := hall
    obtain ⟨c', c0, c1, cne, cpos, k, k1, k2, k3, k4, k5⟩ := unset hok hX hY hYX _ (c : Int) (by omega) (by omega) (Nat.le_refl _) hne
    have hopc := hY.opn c' c0 c1 cpos
    obtain ⟨Z, z1, z2, z3, z4⟩ := rnd_at hok t0 hX c0 c1 hopc k1
    have zk : gt Z k = gt Y k := by
      have a1 := z2 k (by omega)
      have a2 := z3 Y hF hYX k a1.1
      omega
    have hset : gt (rnd g op X) c' = gt Y c' := by
      have hlen : c' < Z.length := by rw [z1.len]; exact c1
      have hr := rlx_is (g := g) (op := op) (c := c') (X := Z) (k := k)
      have hb : 0 ≤ gt (rlx g op c' Z k) c' ∧ gt (rlx g op c' Z k) c' ≤ gt Y c' := by
        generalize rlx g op c' Z k = W at *
        have := stp_in hok (a := c') (b := k)
        have := drn_in (g := g) (c := c')
        cases hr with
        | same h =>
          rcases h with h | h | h
          · omega
          · rw [k2] at h; cases h
          · omega
        | set a b d =>
          rw [gt_set' c0 hlen, if_pos rfl]
          omega
      have a1 := z4 c' hb.1
      have a2 := hYr c' a1.1
      omega
    have := countP_lt' (p := fun c : Nat => decide (gt (rnd g op X) c ≠ gt Y c)) (q := fun c : Nat => decide (gt X c ≠ gt Y c)) (List.range g.C.length) (fun x _ hx => by
      simp only [decide_eq_true_eq] at hx ⊢
      exact fun e => hx (keep x e)) ⟨c'.toNat, by rw [List.mem_range]; omega, by
      have : ((c'.toNat : Nat) : Int) = c' := by omega
      simp only [this, decide_eq_true_eq, decide_eq_false_iff_not, Classical.not_not]
      exact ⟨cne, hset⟩⟩
    omega
  · have : (List.range g.C.length).countP (fun c : Nat => decide (gt (rnd g op X) c ≠ gt Y c)) = 0 := by
      rw [List.countP_eq_zero]
      intro c hc
      simp only [decide_eq_true_eq, Classical.not_not]
      refine keep c (Classical.byContradiction fun hne => hall ⟨c, List.mem_range.1 hc, hne⟩)
    omega
theorem rnds_le {to : Int} {X : List Int} (hok : g.ok = true) (t0 : 0 ≤ to) (hX : CInv g op to X) : ∀ n, CInv g op to (rnds g op n X) ∧ Le (rnds g op n X) X ∧ ∀ Y, Fix g op Y → Le Y X → Le Y (rnds g op n X)
  | 0 => ⟨hX, Le.refl X, fun _ _ h => h⟩
  | n + 1 => by
    obtain ⟨a1, a2, a3⟩ := rnds_le hok t0 hX n
    obtain ⟨b1, b2, b3⟩ := rndK_le hok t0 a1 g.C.length (Nat.le_refl _)
    exact ⟨b1, b2.trans a2, fun Y hY h => b3 Y hY (a3 Y hY h)⟩
/-- all fixed points that are come to are the one that is there behind as many rounds as there are cells -/
theorem rnds_conv {to : Int} {X : List Int} (hok : g.ok = true) (t0 : 0 ≤ to) (hX : CInv g op to X) {r : Nat} (h : rnd g op (rnds g op r X) = rnds g op r X) : rnds g op g.C.length X = rnds g op r X := by
  obtain ⟨y1, y2, _⟩ := rnds_le hok t0 hX r
  have hF := fix_of_rnd hok t0 y1 h
  have hc : ∀ n, cnt g (rnds g op n X) (rnds g op r X) ≤ g.C.length - n := by
    intro n
    induction n with
    | zero =>
      have := List.countP_le_length (p := fun c : Nat => decide (gt (rnds g op 0 X) c ≠ gt (rnds g op r X) c)) (l := List.range g.C.length)
      simpa [cnt] using this
    | succ n ih =>
      obtain ⟨x1, x2, x3⟩ := rnds_le hok t0 hX n
      have := cnt_round hok t0 x1 y1 hF (x3 _ hF y2)
      simp only [rnds]
      omega
  have h0 := hc g.C.length
  have hz : cnt g (rnds g op g.C.length X) (rnds g op r X) = 0 := by omega
  have l1 := (rnds_le hok t0 hX g.C.length).1.len
  unfold cnt at hz
  rw [List.countP_eq_zero] at hz
  refine List.ext_getElem (by rw [l1, y1.len]) fun i h1 h2 => ?_
  have := hz i (List.mem_range.2 (by omega))
  simp only [decide_eq_true_eq, Classical.not_not] at this
  rw [gt_nat h1, gt_nat h2] at this
  exact this
end Go.Proofs.Ytmpkiaghkhhlhaa

/- Contracts of layer 4: the way that the costs give. No conditions but those that each theorem names. -/
namespace Go.Proofs.Ytmpkiaghkhhlhaa
open Go.RowKit
variable {g : Gnd} {op : Int → Bool}

/-! ### How large costs get -/
def fin (g : Gnd) (X : List Int) : Nat := (List.range g.C.length).countP fun c : Nat => decide (0 ≤ gt X c)
def Bd (g : Gnd) (X : List Int) : Prop := ∀ c : Int, gt X c ≤ 104 * (fin g X : Int)
theorem fin_le {X : List Int} : fin g X ≤ g.C.length := by
  have := List.countP_le_length (p := fun c : Nat => decide (0 ≤ gt X c)) (l := List.range g.C.length)
  simpa [fin] using this
theorem Rlx.bd {c k to : Int} {X Y : List Int} (h : Rlx g op c X k Y) (hok : g.ok = true) (hX : CInv g op to X) (h0 : 0 ≤ c) (h1 : c < g.C.length) (hb : Bd g X) : Bd g Y := by
  have hle := h.le hok h0 (by rw [hX.len]; exact h1)
  have hmono : fin g X ≤ fin g Y := countP_le' _ fun x _ hx => by
    simp only [decide_eq_true_eq] at hx ⊢
    exact (hle x hx).1
  cases h with
  | same _ => exact hb
  | set a b d =>
    have s1 := stp_in hok (a := c) (b := k)
    have s2 := drn_in (g := g) (c := c)
    have h1' : c < X.length := by rw [hX.len]; exact h1
    intro i
    have bi := hb i
    have bc := hb c
    have bk := hb k
    rw [gt_set' h0 h1']
    split
    · by_cases hc : gt X c < 0
      · have : fin g X < fin g (X.set c.toNat (gt X k + g.stp c k + g.drn c)) := countP_lt' _ (fun x _ hx => by
            simp only [decide_eq_true_eq] at hx ⊢
            exact (hle x hx).1) ⟨c.toNat, List.mem_range.2 (by omega), by
              have e : ((c.toNat : Nat) : Int) = c := by omega
              simp only [e, decide_eq_true_eq, decide_eq_false_iff_not]
              rw [gt_set' h0 h1', if_pos rfl]
              exact ⟨by omega, by omega⟩⟩
        omega
      · omega
    · omega
/-! ### Rounds end -/
def pot (x : Int) : Nat := if x < 0 then 7000 else x.toNat
def Phi (g : Gnd) (X : List Int) : Nat := ((List.range g.C.length).map fun c : Nat => pot (gt X c)).sum
theorem sum_le' {p q : Nat → Nat} : ∀ (l : List Nat), (∀ x ∈ l, p x ≤ q x) → (l.map p).sum ≤ (l.map q).sum
  | [], _ => Nat.le_refl _
  | a :: l, h => by
    have ih := sum_le' l fun x hx => h x (List.mem_cons_of_mem _ hx)
    have ha := h a (List.mem_cons_self ..)
    simp only [List.map_cons, List.sum_cons]
    omega
theorem sum_lt' {p q : Nat → Nat} : ∀ (l : List Nat), (∀ x ∈ l, p x ≤ q x) → (∃ x ∈ l, p x < q x) → (l.map p).sum < (l.map q).sum
  | [], _, h => by obtain ⟨x, hx, _⟩ := h; cases hx
  | a :: l, h, ⟨x, hx, hlt⟩ => by
    have hle := sum_le' l fun x hx => h x (List.mem_cons_of_mem _ hx)
    have ha := h a (List.mem_cons_self ..)
    simp only [List.map_cons, List.sum_cons]
    rcases List.mem_cons.1 hx with rfl | hx
    · omega
    · have ih := sum_lt' l (fun x hx => h x (List.mem_cons_of_mem _ hx)) ⟨x, hx, hlt⟩
      omega
/-- a step that sets lowers the sum -/
theorem Phi_set {c k to : Int} {X : List Int} (hok : g.ok = true) (hX : CInv g op to X) (h0 : 0 ≤ c) (h1 : c < g.C.length) (hb : Bd g X) (a : 0 ≤ gt X k) (b : op k = true) (d : gt X c < 0 ∨ gt X k + g.stp c k + g.drn c < gt X c) :
    Phi g (X.set c.toNat (gt X k + g.stp c k + g.drn c)) < Phi g X := by
  have h1' : c < X.length := by rw [hX.len]; exact h1
  have hY := (Rlx.set (g := g) (c := c) a b d).bd hok hX h0 h1 hb
  have s1 := stp_in hok (a := c) (b := k)
  have s2 := drn_in (g := g) (c := c)
  have hf := fin_le (g := g) (X := X.set c.toNat (gt X k + g.stp c k + g.drn c))
  have hN := (Gnd.okS_len (Gnd.ok.s hok)).2.1
  have hYc := hY c
  rw [gt_set' h0 h1', if_pos rfl] at hYc
  have key : pot (gt X k + g.stp c k + g.drn c) < pot (gt X c) := by
    unfold pot
    split <;> split <;> omega
  refine sum_lt' _ (fun x _ => ?_) ⟨c.toNat, List.mem_range.2 (by omega), ?_⟩
  · rw [gt_set' h0 h1']
    split
    · rename_i e
      rw [gt_to e]
      omega
    · exact Nat.le_refl _
  · have e : ((c.toNat : Nat) : Int) = c := by omega
    rw [e, gt_set' h0 h1', if_pos rfl]
    exact key
/-! ### The costs at first -/
def ini (g : Gnd) (to : Int) : List Int := (List.replicate g.C.length (-1)).set to.toNat (g.drn to)
theorem ini_inv {to : Int} (t0 : 0 ≤ to) (t1 : to < g.C.length) (hop : op to = true) : CInv g op to (ini g to) ∧ Bd g (ini g to) := by
  have hl : to < (List.replicate g.C.length (-1 : Int)).length := by simpa using t1
  have hd := drn_in (g := g) (c := to)
  have e : ∀ c : Int, gt (ini g to) c = if c.toNat = to.toNat then g.drn to else gt (List.replicate g.C.length (-1)) c := fun c => gt_set' t0 hl
  have e2 : ∀ c : Int, gt (List.replicate g.C.length (-1)) c = if c.toNat < g.C.length then -1 else 0 := by
    intro c
    by_cases h : c.toNat < g.C.length <;> simp [gt, List.getD, List.getElem?_replicate, h]
  refine ⟨⟨by simp [ini], fun c h => ?_, fun c h0 h1 h => ?_, ?_, fun c h0 h1 hne h => ?_⟩, fun c => ?_⟩
  · rw [e, e2] at h ⊢
    split at h
    · omega
    · rename_i h1
      rw [if_neg h1]
      split at h
      · rename_i h2; rw [if_pos h2]
      · omega
  · rw [e, e2] at h
    split at h
    · rename_i h2
      have : c = to := by omega
      rw [this]; exact hop
    · rw [if_pos (by omega)] at h; omega
  · rw [e, if_pos rfl]
  · rw [e, if_neg (by omega), e2, if_pos (by omega)] at h
    omega
  · have hf : 0 < fin g (ini g to) := by
      unfold fin
      rw [List.countP_pos_iff]
      refine ⟨to.toNat, List.mem_range.2 (by omega), ?_⟩
      have e3 : ((to.toNat : Nat) : Int) = to := by omega
      simp only [e3, decide_eq_true_eq]
      rw [e, if_pos rfl]
      omega
    rw [e, e2]
    split
    · omega
    · split <;> omega

/-! ### The way -/
def wayP (g : Gnd) (op : Int → Bool) (X : List Int) (c k : Int) : Bool := op k && decide (0 ≤ gt X k) && decide (gt X k + g.stp c k + g.drn c = gt X c)
def nxt (g : Gnd) (op : Int → Bool) (X : List Int) (c : Int) : Int := gt (g.nbr c) (fidx (wayP g op X c) (g.nbr c))
def wayF (g : Gnd) (op : Int → Bool) (X : List Int) (to : Int) : Nat → Int → List Int
  | 0, c => [c]
  | n + 1, c => if c = to then [c] else c :: wayF g op X to n (nxt g op X c)
theorem fidx_nat {α : Type} {p : α → Bool} {xs : List α} (h : 0 ≤ fidx p xs) : ∃ i : Nat, fidx p xs = i ∧ ∃ hi : i < xs.length, p xs[i] = true := by
  unfold fidx at h ⊢
  split at h
  · rename_i hlt
    rw [if_pos hlt]
    exact ⟨_, rfl, hlt, List.findIdx_getElem⟩
  · omega
theorem nxt_ok {to : Int} {X : List Int} (hok : g.ok = true) (hX : CInv g op to X) (hF : Fix g op X) {c : Int} (h0 : 0 ≤ c) (h1 : c < g.C.length) (hne : c ≠ to) (hc : 0 ≤ gt X c) :
    0 ≤ fidx (wayP g op X c) (g.nbr c) ∧ fidx (wayP g op X c) (g.nbr c) < (g.nbr c).length ∧ (0 ≤ nxt g op X c ∧ nxt g op X c < g.C.length) ∧ 0 ≤ gt X (nxt g op X c) ∧ gt X (nxt g op X c) < gt X c := by
  obtain ⟨k, k1, k2, k3, k4⟩ := hX.sup c h0 h1 hne hc
  have h5 := hF c h0 h1 (hX.opn c h0 h1 hc) k k1 k2 k3
  have hp : wayP g op X c k = true := by
    unfold wayP
    rw [k2]
    simp only [Bool.true_and, Bool.and_eq_true, decide_eq_true_eq]
    omega
  have hany : (g.nbr c).any (wayP g op X c) = true := List.any_eq_true.2 ⟨k, k1, hp⟩
  rw [← fidx_any, decide_eq_true_eq] at hany
  obtain ⟨i, e, hi, hpi⟩ := fidx_nat hany
  have hin := nbr_in (Gnd.ok.s hok) h0 h1 _ (List.getElem_mem hi)
  have en : nxt g op X c = (g.nbr c)[i] := by unfold nxt; rw [e, gt_nat hi]
  have s1 := stp_in hok (a := c) (b := (g.nbr c)[i])
  have s2 := drn_in (g := g) (c := c)
  unfold wayP at hpi
  simp only [Bool.and_eq_true, decide_eq_true_eq] at hpi
  rw [en, e]
  omega
end Go.Proofs.Ytmpkiaghkhhlhaa

/- M-forms, printed by wip/gen/genm.py out of the translation: each function as a proposition over its local objects, with the lemma that it is what the function does. -/
namespace Go.Proofs.Ytmpkiaghkhhlhaa
open Go.RowKit

theorem mixed_M5 : Try.prog.follows .mixedOrders = true := by kernel_rfl

abbrev N_ground_Cable : FuncId := 15
/-- waltzer/ground.Cable -/
def M_ground_Cable (σ : Hp) (a0_Wide : Int) (a0_High : Int) (a0_Cells_A : Option Addr) (a0_Cells_n : Nat) (a0_Cells_c : Nat) (a0_Heights_A : Option Addr) (a0_Heights_n : Nat) (a0_Heights_c : Nat) (a1_A : Option Addr) (a1_n : Nat) (a1_c : Nat) (a2_A : Option Addr) (a2_n : Nat) (a2_c : Nat) (a3 : Int) (a4 : Int) (R : Value → Hp → Prop) : Prop :=
  exl 3 [.int .i64] ([a3, a4] : List Int) σ (fun A1 l1 c1 σ2 => cl Try.prog (.func (.func 45) #[] #[]) #[(.agg #[(.int .i64 a0_Wide), (.int .i64 a0_High), (.slice a0_Cells_A a0_Cells_n a0_Cells_c), (.slice a0_Heights_A a0_Heights_n a0_Heights_c)]), (.slice a1_A a1_n a1_c), (.slice a2_A a2_n a2_c), (.slice A1 l1 c1)] σ2 (fun v3 σ4 => 
    ∃ p5 : Option Addr, ∃ n6 : Int, (v3 = (.tuple #[(.pointer p5), (.int .i64 n6)]) ∧ bc (!decide (n6 = 0)) (rt σ4 R (.tuple #[(.slice none 0 0), (.int .i64 0), (.int .i64 n6)])) (cut (α := Hp → Prop) (fun  σ8 => 
    ∀ _ : Nat → Value, dr p5 (fun b10 o11 => ldS σ8 b10 (o11 + 2) (fun _ l12 _ => exl 3 [.int .i64] ([(-1)] : List Int) σ8 (fun A13 l13 c13 σ14 => 
    cl Try.prog (.func (.func 47) #[] #[]) #[(.slice A13 l13 c13), (.int .i64 ((l12 : Nat) : Int))] σ14 (fun v15 σ16 => 
    ∃ A17 : Option Addr, ∃ l17 : Nat, ∃ c17 : Nat, (v15 = (.slice A17 l17 c17) ∧ adp 3 [.int .i64] A17 l17 c17 σ16 (fun (xs18 : List Int) σ19 => 
    cl Try.prog (.func (.func 48) #[] #[]) #[(.pointer p5), (.int .i64 a4)] σ19 (fun v20 σ21 => ∃ n22 : Int, (v20 = (.int .i64 n22) ∧ 
    (Hp.Sub σ19 σ21 ∧ (0 ≤ a4 ∧ a4 < ((List.length xs18 : Nat) : Int) ∧ lat xs18 ((a4 : Int).toNat) (fun _ => 
    cut (α := List Int → Hp → Prop) (fun xs27 σ25 => ∀ _ : Nat → Value, (0 ≤ a3 ∧ a3 < ((List.length xs27 : Nat) : Int) ∧ 
    lat xs27 ((a3 : Int).toNat) (fun r28 => bc (decide (r28 < 0)) (rt σ25 R (.tuple #[(.slice none 0 0), (.int .i64 0), (.int .i64 3)])) (cut (α := Option Addr → List Int → Hp → Prop) (fun p32 xs33 σ30 => 
    ∀ _ : Nat → Value, dr p32 (fun b34 o35 => ldS σ30 b34 o35 (fun A36 l36 _ => ix A36 l36 a3 1 (fun b37 a38 => 
    ldI σ30 .i64 b37 a38 (fun n39 => exl 3 [.int .i64] xs33 σ30 (fun A40 l40 c40 σ41 => rt σ41 R (.tuple #[(.slice A40 l40 c40), (.int .i64 n39), (.int .i64 0)]))))))) (fun J31 => 
    ∃ I44 : Nat → List Int → Option Addr → Option Addr → Option Addr → Hp → Prop, (∃ n450, bx σ25 (.cells #[(.pointer p5)] 67) (fun b46 σ47 => 
    exl 3 [.int .i64] xs27 σ47 (fun A48 l48 c48 σ49 => bx σ49 (.cells #[(.slice A48 l48 c48)] 22) (fun b50 σ51 => 
    bx σ51 (.cells #[(.int .i64 a3)] 3) (fun b52 σ53 => I44 n450 ([a3] : List Int) (some ⟨b46, 0, none⟩) (some ⟨b50, 0, none⟩) (some ⟨b52, 0, none⟩) σ53))))) ∧ 
    ∀ n45 : Nat, ∀ xs54 : List Int, ∀ p55 : Option Addr, ∀ p56 : Option Addr, ∀ p57 : Option Addr, ∀ σ43 : Hp, I44 n45 xs54 p55 p56 p57 σ43 → ∀ _ : Nat → Value, dr p57 (fun b58 o59 => 
    ldI σ43 .i64 b58 o59 (fun n60 => bc (!decide (n60 = a4)) (dr p55 (fun b61 o62 => ldP σ43 b61 o62 (fun p63 => 
    dr p57 (fun b64 o65 => ldI σ43 .i64 b64 o65 (fun n66 => cl Try.prog (.func (.func 49) #[] #[]) #[(.pointer p63), (.int .i64 n66)] σ43 (fun v67 σ68 => 
    ∃ A69 : Option Addr, ∃ l69 : Nat, ∃ c69 : Nat, (v67 = (.slice A69 l69 c69) ∧ adp 3 [.int .i64] A69 l69 c69 σ68 (fun (xs70 : List Int) σ71 => 
    exl 3 [.int .i64] xs70 σ71 (fun A72 l72 c72 σ73 => cl Try.prog (.func (.func 51) #[] #[]) #[(.slice A72 l72 c72), (.func (.func 52) #[] #[(.pointer p55), (.pointer p56), (.pointer p57)])] σ73 (fun v74 σ75 => 
    ∃ n76 : Int, (v74 = (.int .i64 n76) ∧ adp 3 [.int .i64] A72 l72 c72 σ75 (fun (xs77 : List Int) σ78 => 
    (0 ≤ n76 ∧ n76 < ((List.length xs77 : Nat) : Int) ∧ lat xs77 ((n76 : Int).toNat) (fun r79 => dr p57 (fun b80 o81 => 
    st σ78 b80 o81 (.int .i64 r79) (fun σ82 => dr p57 (fun b83 o84 => ldI σ82 .i64 b83 o84 (fun n85 => roomy (List.length xs54 + List.length ([n85] : List Int)) (dr p57 (fun b86 o87 => 
    ldI σ82 .i64 b86 o87 (fun n88 => bk σ82 n45 (fun m89 σ90 => bx σ90 (.cells #[(.int .i64 n88)] 3) (fun b91 σ92 => 
    I44 m89 (xs54 ++ ([n85] : List Int)) p55 p56 (some ⟨b91, 0, none⟩) σ92))))))))))))))))))))))) (J31 p56 xs54 σ43)))))))) (fun J26 => 
    ∃ I95 : Nat → Bool → List Int → Hp → Prop, (∃ n960, I95 n960 true (List.set xs18 ((a4 : Int).toNat) n22) σ21) ∧ 
    ∀ n96 : Nat, ∀ t97 : Bool, ∀ xs98 : List Int, ∀ σ94 : Hp, I95 n96 t97 xs98 σ94 → ∀ _ : Nat → Value, bc t97 (dr p5 (fun b99 o100 => 
    ldS σ94 b99 (o100 + 2) (fun _ l101 _ => ∃ I104 : Nat → Bool → Int → List Int → Hp → Prop, (∃ n1050, I104 n1050 false 0 xs98 σ94) ∧ 
    ∀ n105 : Nat, ∀ t106 : Bool, ∀ n107 : Int, ∀ xs108 : List Int, ∀ σ103 : Hp, I104 n105 t106 n107 xs108 σ103 → ∀ _ : Nat → Value, bc (decide (n107 < ((l101 : Nat) : Int))) (cut (α := Bool → List Int → Hp → Prop) (fun t112 xs113 σ110 => 
    ∀ _ : Nat → Value, wk .i64 (n107 + 1) (fun n114 => bk σ110 n105 (fun m115 σ116 => I104 m115 t112 n114 xs113 σ116))) (fun J111 => 
    cl Try.prog (.func (.func 46) #[] #[]) #[(.pointer p5), (.int .i64 n107)] σ103 (fun v117 σ118 => ∃ t119 : Bool, (v117 = (.bool t119) ∧ 
    bc (!t119) (J111 t106 xs108 σ118) (cl Try.prog (.func (.func 49) #[] #[]) #[(.pointer p5), (.int .i64 n107)] σ118 (fun v120 σ121 => 
    ∃ A122 : Option Addr, ∃ l122 : Nat, ∃ c122 : Nat, (v120 = (.slice A122 l122 c122) ∧ adp 3 [.int .i64] A122 l122 c122 σ121 (fun (xs123 : List Int) σ124 => 
    ∃ I127 : Nat → Bool → Int → List Int → Hp → Prop, (∃ n1280, I127 n1280 t106 0 xs108 σ124) ∧ ∀ n128 : Nat, ∀ t129 : Bool, ∀ n130 : Int, ∀ xs131 : List Int, ∀ σ126 : Hp, I127 n128 t129 n130 xs131 σ126 → ∀ _ : Nat → Value, bc (decide (n130 < ((List.length xs123 : Nat) : Int))) (cut (α := Bool → List Int → Hp → Prop) (fun t135 xs136 σ133 => 
    ∀ _ : Nat → Value, wk .i64 (n130 + 1) (fun n137 => bk σ133 n128 (fun m138 σ139 => I127 m138 t135 n137 xs136 σ139))) (fun J134 => 
    (0 ≤ n130 ∧ n130 < ((List.length xs123 : Nat) : Int) ∧ lat xs123 ((n130 : Int).toNat) (fun r140 => cut (α := Hp → Prop) (fun  σ142 => 
    ∀ _ : Nat → Value, (0 ≤ r140 ∧ r140 < ((List.length xs131 : Nat) : Int) ∧ lat xs131 ((r140 : Int).toNat) (fun r144 => 
    cl Try.prog (.func (.func 50) #[] #[]) #[(.pointer p5), (.int .i64 n107), (.int .i64 r140)] σ142 (fun v145 σ146 => 
    ∃ n147 : Int, (v145 = (.int .i64 n147) ∧ (Hp.Sub σ142 σ146 ∧ wk .i64 (r144 + n147) (fun n148 => cl Try.prog (.func (.func 48) #[] #[]) #[(.pointer p5), (.int .i64 n107)] σ146 (fun v149 σ150 => 
    ∃ n151 : Int, (v149 = (.int .i64 n151) ∧ (Hp.Sub σ146 σ150 ∧ wk .i64 (n148 + n151) (fun n152 => cut (α := Bool → Hp → Prop) (fun t156 σ154 => 
    ∀ _ : Nat → Value, bc t156 ((0 ≤ n107 ∧ n107 < ((List.length xs131 : Nat) : Int) ∧ lat xs131 ((n107 : Int).toNat) (fun _ => 
    J134 true (List.set xs131 ((n107 : Int).toNat) n152) σ154))) (J134 t129 xs131 σ154)) (fun J155 => (0 ≤ n107 ∧ 
    n107 < ((List.length xs131 : Nat) : Int) ∧ lat xs131 ((n107 : Int).toNat) (fun r158 => bc (decide (r158 < 0)) (J155 true σ150) ((0 ≤ n107 ∧ 
    n107 < ((List.length xs131 : Nat) : Int) ∧ lat xs131 ((n107 : Int).toNat) (fun r159 => J155 (decide (n152 < r159)) σ150))))))))))))))))) (fun J143 => 
    cut (α := Bool → Hp → Prop) (fun t163 σ161 => ∀ _ : Nat → Value, bc t163 (J134 t129 xs131 σ161) (J143 σ161)) (fun J162 => 
    (0 ≤ r140 ∧ r140 < ((List.length xs131 : Nat) : Int) ∧ lat xs131 ((r140 : Int).toNat) (fun r164 => bc (decide (r164 < 0)) (J162 true σ126) (cl Try.prog (.func (.func 46) #[] #[]) #[(.pointer p5), (.int .i64 r140)] σ126 (fun v165 σ166 => 
    ∃ t167 : Bool, (v165 = (.bool t167) ∧ J162 (!t167) σ166))))))))))) (J111 t129 xs131 σ126))))))))) (bk σ103 n96 (fun m168 σ169 => 
    I95 m168 t106 xs108 σ169))))) (J26 xs98 σ94)))))))))))))) (fun J9 => cut (α := Bool → Hp → Prop) (fun t173 σ171 => 
    ∀ _ : Nat → Value, bc t173 (rt σ171 R (.tuple #[(.slice none 0 0), (.int .i64 0), (.int .i64 1)])) (J9 σ171)) (fun J172 => 
    cl Try.prog (.func (.func 46) #[] #[]) #[(.pointer p5), (.int .i64 a3)] σ4 (fun v174 σ175 => ∃ t176 : Bool, (v174 = (.bool t176) ∧ 
    bc (!t176) (J172 true σ175) (cl Try.prog (.func (.func 46) #[] #[]) #[(.pointer p5), (.int .i64 a4)] σ175 (fun v177 σ178 => 
    ∃ t179 : Bool, (v177 = (.bool t179) ∧ J172 (!t179) σ178)))))))))))
def M_ground_Cable_an : MAn := (.seq (.txt []) (.seq (.txt []) (.seq (.seq (.txt []) (.cond (.seq (.txt []) .leaf) .leaf)) (.cut ⟨[true, false, true], 3, [.slot 13 (.hb 2 0)], [(3, true), (4, true)]⟩ (.cut ⟨[true, false, true], 3, [.slot 13 (.hb 2 0), .slot 44 (.sc (.bool))], [(3, true), (4, true)]⟩ (.txt [⟨[], false, []⟩, ⟨[], false, []⟩, ⟨[], false, []⟩, ⟨[], false, []⟩, ⟨[], true, []⟩]) (.cond (.seq (.txt []) .leaf) .leaf)) (.seq (.txt [⟨[], false, []⟩, ⟨[], false, []⟩, ⟨[], false, []⟩, ⟨[], false, []⟩, ⟨[], false, []⟩, ⟨[], false, []⟩, ⟨[], false, []⟩, ⟨[], false, [.adl 52 3 [.int .i64]]⟩]) (.seq (.plan [6] (.take 0 ⟨[], false, []⟩ (.take 1 ⟨[], false, []⟩ (.take 2 ⟨[], false, []⟩ (.take 3 ⟨[], false, []⟩ (.alt 4 true ⟨[], false, []⟩ (.take 5 ⟨[], false, []⟩ (.alt 6 false ⟨[], false, []⟩ .done .done)) .done)))))) (.cut ⟨[true, false, true, false, false, true], 6, [.slot 13 (.hb 2 0), .slot 14 (.hb 5 0), .modl 4 0 3 [.int .i64]], [(3, true), (4, true)]⟩ (.seq (.txt []) (.block (.loop ⟨[true, false, true, false, false, true], 6, [.slot 13 (.hb 2 0), .slot 14 (.hb 5 0), .slot 15 (.sc (.bool)), .modl 4 0 3 [.int .i64]], [(3, true), (4, true)]⟩ (.seq (.seq (.txt []) (.cond .leaf .leaf)) (.block (.seq (.txt []) (.seq (.txt []) (.block (.loop ⟨[true, false, true, false, false, true], 6, [.slot 13 (.hb 2 0), .slot 14 (.hb 5 0), .slot 15 (.sc (.bool)), .slot 66 (.sc (.int .i64)), .modl 4 0 3 [.int .i64]], [(3, true), (4, true), (65, true)]⟩ (.seq (.txt []) (.seq (.cond .leaf .leaf) (.cut ⟨[true, false, true, false, false, true], 6, [.slot 13 (.hb 2 0), .slot 14 (.hb 5 0), .slot 15 (.sc (.bool)), .modl 4 0 3 [.int .i64]], [(3, true), (4, true), (65, true), (66, true)]⟩ (.block (.seq (.txt []) (.seq (.seq (.txt []) (.cond .leaf .leaf)) (.seq (.txt [⟨[], false, []⟩, ⟨[], false, []⟩, ⟨[], false, [.adl 75 3 [.int .i64]]⟩]) (.block (.loop ⟨[true, false, true, false, false, true, true], 7, [.slot 13 (.hb 2 0), .slot 14 (.hb 5 0), .slot 15 (.sc (.bool)), .slot 75 (.hl 6 0), .slot 77 (.sc (.int .i64)), .modl 4 0 3 [.int .i64]], [(3, true), (4, true), (16, true), (65, true), (66, true), (76, true)]⟩ (.seq (.txt []) (.seq (.cond .leaf .leaf) (.cut ⟨[true, false, true, false, false, true, true], 7, [.slot 13 (.hb 2 0), .slot 14 (.hb 5 0), .slot 15 (.sc (.bool)), .slot 75 (.hl 6 0), .modl 4 0 3 [.int .i64]], [(3, true), (4, true), (16, true), (65, true), (66, true), (76, true), (77, true)]⟩ (.block (.seq (.txt []) (.cut ⟨[true, false, true, false, true, true, true], 7, [.slot 13 (.hb 2 0), .slot 14 (.hb 5 0), .slot 75 (.hl 6 0)], [(3, true), (4, true), (15, true), (16, true), (18, true), (65, true), (66, true), (76, true), (77, true)]⟩ (.cut ⟨[true, false, true, false, true, true, true], 7, [.slot 13 (.hb 2 0), .slot 14 (.hb 5 0), .slot 75 (.hl 6 0), .slot 91 (.sc (.bool))], [(3, true), (4, true), (15, true), (16, true), (18, true), (65, true), (66, true), (76, true), (77, true)]⟩ (.txt [⟨[], false, []⟩, ⟨[], false, []⟩, ⟨[], false, []⟩, ⟨[], false, []⟩, ⟨[], false, []⟩, ⟨[], true, []⟩]) (.cond .leaf .leaf)) (.seq (.plan [] (.take 0 ⟨[], false, []⟩ (.take 1 ⟨[], false, []⟩ (.take 2 ⟨[], false, []⟩ (.take 3 ⟨[], false, []⟩ (.take 4 ⟨[], false, []⟩ (.take 5 ⟨[], false, []⟩ (.take 6 ⟨[], false, []⟩ (.take 9 ⟨[], false, []⟩ (.take 10 ⟨[], false, []⟩ (.alt 7 true ⟨[], false, []⟩ (.take 8 ⟨[], false, []⟩ (.alt 11 true ⟨[], false, []⟩ (.take 12 ⟨[], false, []⟩ (.take 13 ⟨[], false, []⟩ .done)) .done)) .done))))))))))) (.cut ⟨[true, false, true, false, true, true, true], 7, [.slot 13 (.hb 2 0), .slot 14 (.hb 5 0), .slot 75 (.hl 6 0), .slot 117 (.sc (.bool))], [(3, true), (4, true), (15, true), (16, true), (19, true), (65, true), (66, true), (76, true), (77, true)]⟩ (.txt [⟨[], false, []⟩, ⟨[], false, []⟩, ⟨[], false, []⟩, ⟨[], false, []⟩, ⟨[], false, []⟩, ⟨[], true, []⟩]) (.cond (.txt []) .leaf)))))) (.txt [])))))))))) (.txt []))))))))))))) (.seq (.seq (.txt []) (.cond (.seq (.txt []) .leaf) .leaf)) (.seq (.txt []) (.cut ⟨[true, false, false, false, false, false, false], 7, [.slot 10 (.hl 6 0), .slot 14 (.sc (.ptr)), .modl 6 0 3 [.int .i64]], [(3, true)]⟩ (.seq (.txt []) (.block (.loop ⟨[true, false, false, false, false, false, false, false], 8, [.slot 10 (.lst 6 3 [.int .i64]), .slot 13 (.sc (.ptr)), .slot 14 (.sc (.ptr)), .slot 20 (.sc (.ptr))], [(3, true), (4, true)]⟩ (.seq (.seq (.txt []) (.cond .leaf .leaf)) (.seq (.block (.seq (.txt [⟨[], false, []⟩, ⟨[], false, []⟩, ⟨[], false, [.adl 137 3 [.int .i64]]⟩]) (.seq (.txt [⟨[], false, []⟩, ⟨[], false, []⟩, ⟨[], false, []⟩, ⟨[], false, [.adl 138 3 [.int .i64]]⟩]) (.txt [])))) (.seq (.txt []) (.txt []))))))) (.seq (.plan [] (.take 0 ⟨[], false, []⟩ (.take 1 ⟨[], false, []⟩ (.take 2 ⟨[], false, []⟩ (.take 3 ⟨[], false, []⟩ (.take 4 ⟨[], false, []⟩ (.take 5 ⟨[], false, []⟩ (.take 6 ⟨[], false, []⟩ (.take 7 ⟨[], false, []⟩ .done))))))))) .leaf)))))))))))
set_option maxRecDepth 100000 in
theorem M_ground_Cable_ok (σ : Hp) (a0_Wide : Int) (a0_High : Int) (a0_Cells_A : Option Addr) (a0_Cells_n : Nat) (a0_Cells_c : Nat) (a0_Heights_A : Option Addr) (a0_Heights_n : Nat) (a0_Heights_c : Nat) (a1_A : Option Addr) (a1_n : Nat) (a1_c : Nat) (a2_A : Option Addr) (a2_n : Nat) (a2_c : Nat) (a3 : Int) (a4 : Int) (R : Value → Hp → Prop) (h : M_ground_Cable σ a0_Wide a0_High a0_Cells_A a0_Cells_n a0_Cells_c a0_Heights_A a0_Heights_n a0_Heights_c a1_A a1_n a1_c a2_A a2_n a2_c a3 a4 R) : FCalls Try.prog 15 #[(.agg #[(.int .i64 a0_Wide), (.int .i64 a0_High), (.slice a0_Cells_A a0_Cells_n a0_Cells_c), (.slice a0_Heights_A a0_Heights_n a0_Heights_c)]), (.slice a1_A a1_n a1_c), (.slice a2_A a2_n a2_c), (.int .i64 a3), (.int .i64 a4)] σ R :=
  fcalls_of_M mixed_M5 M_ground_Cable_an Try.func15 rfl (by kernel_rfl) (by kernel_rfl) (M := M_ground_Cable σ a0_Wide a0_High a0_Cells_A a0_Cells_n a0_Cells_c a0_Heights_A a0_Heights_n a0_Heights_c a1_A a1_n a1_c a2_A a2_n a2_c a3 a4 R) (by kernel_rfl) h
theorem M_ground_Cable_enter : enterB Try.prog 15 = true := by kernel_rfl

abbrev N_ref04_Cable : FuncId := 16
/-- waltzer/waltzerref04.Cable -/
def M_ref04_Cable (σ : Hp) (a0_Wide : Int) (a0_High : Int) (a0_Cells_A : Option Addr) (a0_Cells_n : Nat) (a0_Cells_c : Nat) (a0_Heights_A : Option Addr) (a0_Heights_n : Nat) (a0_Heights_c : Nat) (a1_A : Option Addr) (a1_n : Nat) (a1_c : Nat) (a2_A : Option Addr) (a2_n : Nat) (a2_c : Nat) (a3 : Int) (a4 : Int) (R : Value → Hp → Prop) : Prop :=
  cl Try.prog (.func (.func 18) #[] #[]) #[(.agg #[(.int .i64 a0_Wide), (.int .i64 a0_High), (.slice a0_Cells_A a0_Cells_n a0_Cells_c), (.slice a0_Heights_A a0_Heights_n a0_Heights_c)]), (.slice a1_A a1_n a1_c), (.slice a2_A a2_n a2_c)] σ (fun v1 σ2 => 
    ∃ n3 : Int, ∃ n4 : Int, (v1 = (.tuple #[(.int .i64 n3), (.int .i64 n4)]) ∧ bc (!decide (n4 = 0)) (rt σ2 R (.tuple #[(.slice none 0 0), (.int .i64 0), (.int .i64 n4)])) (cl Try.prog (.func (.func 19) #[] #[]) #[(.agg #[(.int .i64 a0_Wide), (.int .i64 a0_High), (.slice a0_Cells_A a0_Cells_n a0_Cells_c), (.slice a0_Heights_A a0_Heights_n a0_Heights_c)]), (.slice a1_A a1_n a1_c), (.slice a2_A a2_n a2_c)] σ2 (fun v5 σ6 => 
    ∃ A7 : Option Addr, ∃ l7 : Nat, ∃ c7 : Nat, (v5 = (.slice A7 l7 c7) ∧ adp 4 [.bool] A7 l7 c7 σ6 (fun (xs8 : List Bool) σ9 => 
    cut (α := Hp → Prop) (fun  σ11 => ∀ _ : Nat → Value, (0 ≤ ((List.length xs8 : Nat) : Int) ∧ ((List.length xs8 : Nat) : Int) ≤ ((List.length xs8 : Nat) : Int) ∧ 
    ((List.length xs8 : Nat) : Int) ≤ (1000000000 : Int) ∧ cut (α := List Int → Hp → Prop) (fun xs16 σ14 => 
    ∀ _ : Nat → Value, exl 3 [.int .i64] ([a4] : List Int) σ14 (fun A17 l17 c17 σ18 => cl Try.prog (.func (.func 21) #[] #[]) #[(.agg #[(.int .i64 a0_Wide), (.int .i64 a0_High), (.slice a0_Cells_A a0_Cells_n a0_Cells_c), (.slice a0_Heights_A a0_Heights_n a0_Heights_c)]), (.slice A17 l17 c17)] σ18 (fun v19 σ20 => 
    ∃ n21 : Int, (v19 = (.int .i64 n21) ∧ (0 ≤ a4 ∧ a4 < ((List.length xs16 : Nat) : Int) ∧ lat xs16 ((a4 : Int).toNat) (fun _ => 
    cut (α := List Int → Hp → Prop) (fun xs26 σ24 => ∀ _ : Nat → Value, (0 ≤ a3 ∧ a3 < ((List.length xs26 : Nat) : Int) ∧ 
    lat xs26 ((a3 : Int).toNat) (fun r27 => bc (decide (r27 < 0)) (rt σ24 R (.tuple #[(.slice none 0 0), (.int .i64 0), (.int .i64 3)])) (cut (α := List Int → Hp → Prop) (fun xs31 σ29 => 
    ∀ _ : Nat → Value, (0 ≤ a3 ∧ a3 < ((List.length xs26 : Nat) : Int) ∧ lat xs26 ((a3 : Int).toNat) (fun r32 => 
    exl 3 [.int .i64] xs31 σ29 (fun A33 l33 c33 σ34 => rt σ34 R (.tuple #[(.slice A33 l33 c33), (.int .i64 r32), (.int .i64 0)]))))) (fun J30 => 
    ∃ I37 : Nat → List Int → Int → Hp → Prop, (∃ n380, I37 n380 ([a3] : List Int) a3 σ24) ∧ ∀ n38 : Nat, ∀ xs39 : List Int, ∀ n40 : Int, ∀ σ36 : Hp, I37 n38 xs39 n40 σ36 → ∀ _ : Nat → Value, bc (!decide (n40 = a4)) (cl Try.prog (.func (.func 34) #[] #[]) #[(.agg #[(.int .i64 a0_Wide), (.int .i64 a0_High), (.slice a0_Cells_A a0_Cells_n a0_Cells_c), (.slice a0_Heights_A a0_Heights_n a0_Heights_c)]), (.int .i64 n40)] σ36 (fun v41 σ42 => 
    ∃ A43 : Option Addr, ∃ l43 : Nat, ∃ c43 : Nat, (v41 = (.slice A43 l43 c43) ∧ adp 3 [.int .i64] A43 l43 c43 σ42 (fun (xs44 : List Int) σ45 => 
    cut (α := Int → Hp → Prop) (fun n49 σ47 => ∀ _ : Nat → Value, roomy (List.length xs39 + List.length ([n49] : List Int)) (bk σ47 n38 (fun m50 σ51 => 
    I37 m50 (xs39 ++ ([n49] : List Int)) n49 σ51))) (fun J48 => ∃ I54 : Nat → Int → Int → Hp → Prop, (∃ n550, I54 n550 n40 0 σ45) ∧ 
    ∀ n55 : Nat, ∀ n56 : Int, ∀ n57 : Int, ∀ σ53 : Hp, I54 n55 n56 n57 σ53 → ∀ _ : Nat → Value, bc (decide (n57 < ((List.length xs44 : Nat) : Int))) (cut (α := Int → Hp → Prop) (fun n61 σ59 => 
    ∀ _ : Nat → Value, wk .i64 (n57 + 1) (fun n62 => bk σ59 n55 (fun m63 σ64 => I54 m63 n61 n62 σ64))) (fun J60 => 
    cut (α := Bool → Hp → Prop) (fun t68 σ66 => ∀ _ : Nat → Value, bc t68 ((0 ≤ n57 ∧ n57 < ((List.length xs44 : Nat) : Int) ∧ 
    lat xs44 ((n57 : Int).toNat) (fun r69 => J48 r69 σ66))) (J60 n56 σ66)) (fun J67 => (0 ≤ n57 ∧ n57 < ((List.length xs44 : Nat) : Int) ∧ 
    lat xs44 ((n57 : Int).toNat) (fun r70 => (0 ≤ r70 ∧ r70 < ((List.length xs26 : Nat) : Int) ∧ lat xs26 ((r70 : Int).toNat) (fun r71 => 
    bc (decide ((0 : Int) ≤ r71)) ((0 ≤ n57 ∧ n57 < ((List.length xs44 : Nat) : Int) ∧ lat xs44 ((n57 : Int).toNat) (fun r72 => 
    (0 ≤ r72 ∧ r72 < ((List.length xs26 : Nat) : Int) ∧ lat xs26 ((r72 : Int).toNat) (fun r73 => (0 ≤ n57 ∧ 
    n57 < ((List.length xs44 : Nat) : Int) ∧ lat xs44 ((n57 : Int).toNat) (fun r74 => (0 ≤ n57 ∧ n57 < ((List.length xs44 : Nat) : Int) ∧ 
    lat xs44 ((n57 : Int).toNat) (fun r75 => (0 ≤ n56 ∧ n56 < ((List.length xs26 : Nat) : Int) ∧ lat xs26 ((n56 : Int).toNat) (fun r76 => 
    (((exl 3 [.int .i64] ([n56, r74] : List Int) σ53 (fun A77 l77 c77 σ78 => cl Try.prog (.func (.func 21) #[] #[]) #[(.agg #[(.int .i64 a0_Wide), (.int .i64 a0_High), (.slice a0_Cells_A a0_Cells_n a0_Cells_c), (.slice a0_Heights_A a0_Heights_n a0_Heights_c)]), (.slice A77 l77 c77)] σ78 (fun v79 σ80 => 
    ∃ n81 : Int, (v79 = (.int .i64 n81) ∧ (Hp.Sub σ78 σ80 ∧ wk .i64 (r73 + n81) (fun n82 => exl 3 [.int .i64] ([r75] : List Int) σ80 (fun A83 l83 c83 σ84 => 
    cl Try.prog (.func (.func 21) #[] #[]) #[(.agg #[(.int .i64 a0_Wide), (.int .i64 a0_High), (.slice a0_Cells_A a0_Cells_n a0_Cells_c), (.slice a0_Heights_A a0_Heights_n a0_Heights_c)]), (.slice A83 l83 c83)] σ84 (fun v85 σ86 => 
    ∃ n87 : Int, (v85 = (.int .i64 n87) ∧ (Hp.Sub σ84 σ86 ∧ wk .i64 (n82 - n87) (fun n88 => J67 (decide (n88 = r76)) σ86))))))))))) ∧ 
    (exl 3 [.int .i64] ([n56, r74] : List Int) σ53 (fun A89 l89 c89 σ90 => cl Try.prog (.func (.func 21) #[] #[]) #[(.agg #[(.int .i64 a0_Wide), (.int .i64 a0_High), (.slice a0_Cells_A a0_Cells_n a0_Cells_c), (.slice a0_Heights_A a0_Heights_n a0_Heights_c)]), (.slice A89 l89 c89)] σ90 (fun v91 σ92 => 
    ∃ n93 : Int, (v91 = (.int .i64 n93) ∧ (Hp.Sub σ90 σ92 ∧ wk .i64 (r73 + n93) (fun n94 => exl 3 [.int .i64] ([r75] : List Int) σ92 (fun A95 l95 c95 σ96 => 
    cl Try.prog (.func (.func 21) #[] #[]) #[(.agg #[(.int .i64 a0_Wide), (.int .i64 a0_High), (.slice a0_Cells_A a0_Cells_n a0_Cells_c), (.slice a0_Heights_A a0_Heights_n a0_Heights_c)]), (.slice A95 l95 c95)] σ96 (fun v97 σ98 => 
    ∃ n99 : Int, (v97 = (.int .i64 n99) ∧ (Hp.Sub σ96 σ98 ∧ wk .i64 (n94 - n99) (fun n100 => J67 (decide (n100 = r76)) σ98)))))))))))) ∧ 
    (exl 3 [.int .i64] ([n56, r74] : List Int) σ53 (fun A101 l101 c101 σ102 => cl Try.prog (.func (.func 21) #[] #[]) #[(.agg #[(.int .i64 a0_Wide), (.int .i64 a0_High), (.slice a0_Cells_A a0_Cells_n a0_Cells_c), (.slice a0_Heights_A a0_Heights_n a0_Heights_c)]), (.slice A101 l101 c101)] σ102 (fun v103 σ104 => 
    ∃ n105 : Int, (v103 = (.int .i64 n105) ∧ (Hp.Sub σ102 σ104 ∧ wk .i64 (r73 + n105) (fun n106 => exl 3 [.int .i64] ([r75] : List Int) σ104 (fun A107 l107 c107 σ108 => 
    cl Try.prog (.func (.func 21) #[] #[]) #[(.agg #[(.int .i64 a0_Wide), (.int .i64 a0_High), (.slice a0_Cells_A a0_Cells_n a0_Cells_c), (.slice a0_Heights_A a0_Heights_n a0_Heights_c)]), (.slice A107 l107 c107)] σ108 (fun v109 σ110 => 
    ∃ n111 : Int, (v109 = (.int .i64 n111) ∧ (Hp.Sub σ108 σ110 ∧ wk .i64 (n106 - n111) (fun n112 => J67 (decide (n112 = r76)) σ110))))))))))))))))))))))) ((((J67 false σ53) ∧ 
    (J67 false σ53)) ∧ (J67 false σ53)))))))))) (J48 n56 σ53)))))) (J30 xs39 σ36)))))) (fun J25 => ∃ I115 : Nat → Int → List Int → Hp → Prop, (∃ n1160, I115 n1160 0 (List.set xs16 ((a4 : Int).toNat) n21) σ20) ∧ 
    ∀ n116 : Nat, ∀ n117 : Int, ∀ xs118 : List Int, ∀ σ114 : Hp, I115 n116 n117 xs118 σ114 → ∀ _ : Nat → Value, bc (decide (n117 < ((List.length xs8 : Nat) : Int))) (cut (α := List Int → Hp → Prop) (fun xs122 σ120 => 
    ∀ _ : Nat → Value, wk .i64 (n117 + 1) (fun n123 => bk σ120 n116 (fun m124 σ125 => I115 m124 n123 xs122 σ125))) (fun J121 => 
    ∃ I128 : Nat → Int → List Int → Hp → Prop, (∃ n1290, I128 n1290 0 xs118 σ114) ∧ ∀ n129 : Nat, ∀ n130 : Int, ∀ xs131 : List Int, ∀ σ127 : Hp, I128 n129 n130 xs131 σ127 → ∀ _ : Nat → Value, bc (decide (n130 < ((List.length xs8 : Nat) : Int))) (cut (α := List Int → Hp → Prop) (fun xs135 σ133 => 
    ∀ _ : Nat → Value, wk .i64 (n130 + 1) (fun n136 => bk σ133 n129 (fun m137 σ138 => I128 m137 n136 xs135 σ138))) (fun J134 => 
    cl Try.prog (.func (.func 34) #[] #[]) #[(.agg #[(.int .i64 a0_Wide), (.int .i64 a0_High), (.slice a0_Cells_A a0_Cells_n a0_Cells_c), (.slice a0_Heights_A a0_Heights_n a0_Heights_c)]), (.int .i64 n130)] σ127 (fun v139 σ140 => 
    ∃ A141 : Option Addr, ∃ l141 : Nat, ∃ c141 : Nat, (v139 = (.slice A141 l141 c141) ∧ adp 3 [.int .i64] A141 l141 c141 σ140 (fun (xs142 : List Int) σ143 => 
    ∃ I146 : Nat → Int → List Int → Hp → Prop, (∃ n1470, I146 n1470 0 xs131 σ143) ∧ ∀ n147 : Nat, ∀ n148 : Int, ∀ xs149 : List Int, ∀ σ145 : Hp, I146 n147 n148 xs149 σ145 → ∀ _ : Nat → Value, cut (α := Hp → Prop) (fun  σ151 => 
    ∀ _ : Nat → Value, cut (α := List Int → Hp → Prop) (fun xs156 σ154 => ∀ _ : Nat → Value, wk .i64 (n148 + 1) (fun n157 => 
    bk σ154 n147 (fun m158 σ159 => I146 m158 n157 xs156 σ159))) (fun J155 => (0 ≤ n148 ∧ n148 < ((List.length xs142 : Nat) : Int) ∧ 
    lat xs142 ((n148 : Int).toNat) (fun r160 => (0 ≤ r160 ∧ r160 < ((List.length xs149 : Nat) : Int) ∧ lat xs149 ((r160 : Int).toNat) (fun r161 => 
    bc (decide (r161 < 0)) (J155 xs149 σ151) (cut (α := Int → Hp → Prop) (fun n165 σ163 => ∀ _ : Nat → Value, 
    cut (α := Bool → Hp → Prop) (fun t169 σ167 => ∀ _ : Nat → Value, bc t169 ((0 ≤ n130 ∧ n130 < ((List.length xs149 : Nat) : Int) ∧ 
    lat xs149 ((n130 : Int).toNat) (fun _ => J155 (List.set xs149 ((n130 : Int).toNat) n165) σ167))) (J155 xs149 σ167)) (fun J168 => 
    (0 ≤ n130 ∧ n130 < ((List.length xs149 : Nat) : Int) ∧ lat xs149 ((n130 : Int).toNat) (fun r171 => bc (decide (r171 < 0)) (J168 true σ163) ((0 ≤ n130 ∧ 
    n130 < ((List.length xs149 : Nat) : Int) ∧ lat xs149 ((n130 : Int).toNat) (fun r172 => J168 (decide (n165 < r172)) σ163))))))) (fun J164 => 
    (0 ≤ n148 ∧ n148 < ((List.length xs142 : Nat) : Int) ∧ lat xs142 ((n148 : Int).toNat) (fun r173 => (0 ≤ r173 ∧ 
    r173 < ((List.length xs149 : Nat) : Int) ∧ lat xs149 ((r173 : Int).toNat) (fun r174 => (0 ≤ n148 ∧ n148 < ((List.length xs142 : Nat) : Int) ∧ 
    lat xs142 ((n148 : Int).toNat) (fun r175 => (0 ≤ n148 ∧ n148 < ((List.length xs142 : Nat) : Int) ∧ lat xs142 ((n148 : Int).toNat) (fun r176 => 
    (((exl 3 [.int .i64] ([n130, r175] : List Int) σ151 (fun A177 l177 c177 σ178 => cl Try.prog (.func (.func 21) #[] #[]) #[(.agg #[(.int .i64 a0_Wide), (.int .i64 a0_High), (.slice a0_Cells_A a0_Cells_n a0_Cells_c), (.slice a0_Heights_A a0_Heights_n a0_Heights_c)]), (.slice A177 l177 c177)] σ178 (fun v179 σ180 => 
    ∃ n181 : Int, (v179 = (.int .i64 n181) ∧ (Hp.Sub σ178 σ180 ∧ wk .i64 (r174 + n181) (fun n182 => exl 3 [.int .i64] ([r176] : List Int) σ180 (fun A183 l183 c183 σ184 => 
    cl Try.prog (.func (.func 21) #[] #[]) #[(.agg #[(.int .i64 a0_Wide), (.int .i64 a0_High), (.slice a0_Cells_A a0_Cells_n a0_Cells_c), (.slice a0_Heights_A a0_Heights_n a0_Heights_c)]), (.slice A183 l183 c183)] σ184 (fun v185 σ186 => 
    ∃ n187 : Int, (v185 = (.int .i64 n187) ∧ (Hp.Sub σ184 σ186 ∧ wk .i64 (n182 - n187) (fun n188 => J164 n188 σ186))))))))))) ∧ 
    (exl 3 [.int .i64] ([n130, r175] : List Int) σ151 (fun A189 l189 c189 σ190 => cl Try.prog (.func (.func 21) #[] #[]) #[(.agg #[(.int .i64 a0_Wide), (.int .i64 a0_High), (.slice a0_Cells_A a0_Cells_n a0_Cells_c), (.slice a0_Heights_A a0_Heights_n a0_Heights_c)]), (.slice A189 l189 c189)] σ190 (fun v191 σ192 => 
    ∃ n193 : Int, (v191 = (.int .i64 n193) ∧ (Hp.Sub σ190 σ192 ∧ wk .i64 (r174 + n193) (fun n194 => exl 3 [.int .i64] ([r176] : List Int) σ192 (fun A195 l195 c195 σ196 => 
    cl Try.prog (.func (.func 21) #[] #[]) #[(.agg #[(.int .i64 a0_Wide), (.int .i64 a0_High), (.slice a0_Cells_A a0_Cells_n a0_Cells_c), (.slice a0_Heights_A a0_Heights_n a0_Heights_c)]), (.slice A195 l195 c195)] σ196 (fun v197 σ198 => 
    ∃ n199 : Int, (v197 = (.int .i64 n199) ∧ (Hp.Sub σ196 σ198 ∧ wk .i64 (n194 - n199) (fun n200 => J164 n200 σ198)))))))))))) ∧ 
    (exl 3 [.int .i64] ([n130, r175] : List Int) σ151 (fun A201 l201 c201 σ202 => cl Try.prog (.func (.func 21) #[] #[]) #[(.agg #[(.int .i64 a0_Wide), (.int .i64 a0_High), (.slice a0_Cells_A a0_Cells_n a0_Cells_c), (.slice a0_Heights_A a0_Heights_n a0_Heights_c)]), (.slice A201 l201 c201)] σ202 (fun v203 σ204 => 
    ∃ n205 : Int, (v203 = (.int .i64 n205) ∧ (Hp.Sub σ202 σ204 ∧ wk .i64 (r174 + n205) (fun n206 => exl 3 [.int .i64] ([r176] : List Int) σ204 (fun A207 l207 c207 σ208 => 
    cl Try.prog (.func (.func 21) #[] #[]) #[(.agg #[(.int .i64 a0_Wide), (.int .i64 a0_High), (.slice a0_Cells_A a0_Cells_n a0_Cells_c), (.slice a0_Heights_A a0_Heights_n a0_Heights_c)]), (.slice A207 l207 c207)] σ208 (fun v209 σ210 => 
    ∃ n211 : Int, (v209 = (.int .i64 n211) ∧ (Hp.Sub σ208 σ210 ∧ wk .i64 (n206 - n211) (fun n212 => J164 n212 σ210)))))))))))))))))))))))))))) (fun J152 => 
    cut (α := Bool → Hp → Prop) (fun t216 σ214 => ∀ _ : Nat → Value, bc t216 (J152 σ214) (J134 xs149 σ214)) (fun J215 => 
    bc (decide (n148 < ((List.length xs142 : Nat) : Int))) ((0 ≤ n130 ∧ n130 < ((List.length xs8 : Nat) : Int) ∧ 
    lat xs8 ((n130 : Int).toNat) (fun r217 => J215 r217 σ145))) (J215 false σ145)))))))) (J121 xs131 σ127))) (J25 xs118 σ114)))))))) (fun J15 => 
    ∃ I220 : Nat → Int → List Int → Hp → Prop, (∃ n2210, I220 n2210 0 (List.replicate (((List.length xs8 : Nat) : Int) : Int).toNat 0 : List Int) σ11) ∧ 
    ∀ n221 : Nat, ∀ n222 : Int, ∀ xs223 : List Int, ∀ σ219 : Hp, I220 n221 n222 xs223 σ219 → ∀ _ : Nat → Value, bc (decide (n222 < ((List.length xs8 : Nat) : Int))) ((0 ≤ n222 ∧ 
    n222 < ((List.length xs223 : Nat) : Int) ∧ lat xs223 ((n222 : Int).toNat) (fun _ => wk .i64 (n222 + 1) (fun n225 => 
    bk σ219 n221 (fun m226 σ227 => I220 m226 n225 (List.set xs223 ((n222 : Int).toNat) (-1)) σ227))))) (J15 xs223 σ219)))) (fun J12 => 
    cut (α := Bool → Hp → Prop) (fun t231 σ229 => ∀ _ : Nat → Value, bc t231 (rt σ229 R (.tuple #[(.slice none 0 0), (.int .i64 0), (.int .i64 1)])) (J12 σ229)) (fun J230 => 
    wk .i64 (((List.length xs8 : Nat) : Int) - 1) (fun n232 => cl Try.prog (.func (.func 53) #[] #[]) #[(.int .i64 a3), (.int .i64 0), (.int .i64 n232)] σ9 (fun v233 σ234 => 
    ∃ t235 : Bool, (v233 = (.bool t235) ∧ bc (!t235) (bc true (bc true (J230 true σ234) ((0 ≤ a4 ∧ a4 < ((List.length xs8 : Nat) : Int) ∧ 
    lat xs8 ((a4 : Int).toNat) (fun r236 => J230 (!r236) σ234)))) ((0 ≤ a3 ∧ a3 < ((List.length xs8 : Nat) : Int) ∧ 
    lat xs8 ((a3 : Int).toNat) (fun r237 => bc (!r237) (J230 true σ234) ((0 ≤ a4 ∧ a4 < ((List.length xs8 : Nat) : Int) ∧ 
    lat xs8 ((a4 : Int).toNat) (fun r238 => J230 (!r238) σ234))))))) (wk .i64 (((List.length xs8 : Nat) : Int) - 1) (fun n239 => 
    cl Try.prog (.func (.func 53) #[] #[]) #[(.int .i64 a4), (.int .i64 0), (.int .i64 n239)] σ234 (fun v240 σ241 => 
    ∃ t242 : Bool, (v240 = (.bool t242) ∧ bc (!t242) (bc true (J230 true σ241) ((0 ≤ a4 ∧ a4 < ((List.length xs8 : Nat) : Int) ∧ 
    lat xs8 ((a4 : Int).toNat) (fun r243 => J230 (!r243) σ241)))) ((0 ≤ a3 ∧ a3 < ((List.length xs8 : Nat) : Int) ∧ 
    lat xs8 ((a3 : Int).toNat) (fun r244 => bc (!r244) (J230 true σ241) ((0 ≤ a4 ∧ a4 < ((List.length xs8 : Nat) : Int) ∧ 
    lat xs8 ((a4 : Int).toNat) (fun r245 => J230 (!r245) σ241)))))))))))))))))))))
def M_ref04_Cable_an : MAn := (.seq (.txt []) (.seq (.seq (.txt []) (.seq (.txt []) (.cond (.seq (.txt []) .leaf) .leaf))) (.seq (.txt [⟨[], false, []⟩, ⟨[], false, []⟩, ⟨[], false, []⟩, ⟨[], false, [.adl 39 4 [.bool]]⟩]) (.cut ⟨[true, true], 2, [.slot 5 (.hb 0 0), .slot 15 (.hl 1 0)], [(3, true), (4, true)]⟩ (.cut ⟨[true, true], 2, [.slot 5 (.hb 0 0), .slot 15 (.hl 1 0), .slot 67 (.sc (.bool))], [(3, true), (4, true)]⟩ (.txt [⟨[], false, []⟩, ⟨[], false, []⟩, ⟨[], false, []⟩, ⟨[], false, []⟩, ⟨[], false, []⟩, ⟨[], false, []⟩, ⟨[], true, []⟩, ⟨[], false, []⟩, ⟨[], false, []⟩, ⟨[], false, []⟩, ⟨[], false, []⟩, ⟨[], false, []⟩, ⟨[], false, []⟩, ⟨[], false, []⟩, ⟨[], true, []⟩, ⟨[], false, []⟩, ⟨[], false, []⟩, ⟨[], false, []⟩, ⟨[], false, []⟩, ⟨[], false, []⟩, ⟨[], false, []⟩, ⟨[], true, []⟩]) (.cond (.seq (.txt []) .leaf) .leaf)) (.seq (.txt []) (.cut ⟨[true, true, false], 3, [.slot 5 (.hb 0 0), .slot 15 (.hl 1 0), .slot 16 (.hl 2 0), .modl 2 0 3 [.int .i64]], [(3, true), (4, true)]⟩ (.seq (.txt []) (.block (.loop ⟨[true, true, false], 3, [.slot 5 (.hb 0 0), .slot 15 (.hl 1 0), .slot 16 (.hl 2 0), .slot 17 (.sc (.int .i64)), .modl 2 0 3 [.int .i64]], [(3, true), (4, true)]⟩ (.seq (.seq (.txt []) (.cond .leaf .leaf)) (.seq (.block (.txt [])) (.txt [])))))) (.seq (.txt []) (.cut ⟨[true, true, false, false], 4, [.slot 5 (.hb 0 0), .slot 16 (.hl 2 0), .modl 2 0 3 [.int .i64]], [(3, true), (4, true)]⟩ (.seq (.txt []) (.block (.loop ⟨[true, true, false, false], 4, [.slot 5 (.hb 0 0), .slot 15 (.hl 1 0), .slot 16 (.hl 2 0), .slot 89 (.sc (.int .i64)), .modl 2 0 3 [.int .i64]], [(3, true), (4, true), (88, true)]⟩ (.seq (.txt []) (.seq (.cond .leaf .leaf) (.cut ⟨[true, true, false, false], 4, [.slot 5 (.hb 0 0), .slot 15 (.hl 1 0), .slot 16 (.hl 2 0), .modl 2 0 3 [.int .i64]], [(3, true), (4, true), (88, true), (89, true)]⟩ (.block (.seq (.txt []) (.block (.loop ⟨[true, true, false, false], 4, [.slot 5 (.hb 0 0), .slot 15 (.hl 1 0), .slot 16 (.hl 2 0), .slot 18 (.sc (.int .i64)), .modl 2 0 3 [.int .i64]], [(3, true), (4, true), (88, true), (89, true)]⟩ (.seq (.seq (.txt []) (.cond .leaf .leaf)) (.cut ⟨[true, true, false, false], 4, [.slot 5 (.hb 0 0), .slot 15 (.hl 1 0), .slot 16 (.hl 2 0), .modl 2 0 3 [.int .i64]], [(3, true), (4, true), (18, true), (88, true), (89, true)]⟩ (.block (.seq (.txt [⟨[], false, []⟩, ⟨[], false, []⟩, ⟨[], false, [.adl 99 3 [.int .i64]]⟩]) (.seq (.txt []) (.block (.loop ⟨[true, true, false, false, true], 5, [.slot 5 (.hb 0 0), .slot 15 (.hl 1 0), .slot 16 (.hl 2 0), .slot 19 (.hl 4 0), .slot 20 (.sc (.int .i64)), .modl 2 0 3 [.int .i64]], [(3, true), (4, true), (18, true), (88, true), (89, true)]⟩ (.cut ⟨[true, true, true, false, true], 5, [.slot 5 (.hb 0 0), .slot 15 (.hl 1 0), .slot 16 (.hl 2 0), .slot 19 (.hl 4 0)], [(3, true), (4, true), (18, true), (20, true), (88, true), (89, true)]⟩ (.cut ⟨[true, true, true, false, true], 5, [.slot 5 (.hb 0 0), .slot 15 (.hl 1 0), .slot 16 (.hl 2 0), .slot 19 (.hl 4 0), .slot 109 (.sc (.bool))], [(3, true), (4, true), (18, true), (20, true), (88, true), (89, true)]⟩ (.txt [⟨[], false, []⟩, ⟨[], false, []⟩, ⟨[], false, []⟩, ⟨[], false, []⟩, ⟨[], true, []⟩]) (.cond .leaf .leaf)) (.cut ⟨[true, true, false, false, true], 5, [.slot 5 (.hb 0 0), .slot 15 (.hl 1 0), .slot 16 (.hl 2 0), .slot 19 (.hl 4 0), .modl 2 0 3 [.int .i64]], [(3, true), (4, true), (18, true), (20, true), (88, true), (89, true)]⟩ (.block (.seq (.seq (.txt []) (.cond .leaf .leaf)) (.cut ⟨[true, true, true, false, true], 5, [.slot 5 (.hb 0 0), .slot 15 (.hl 1 0), .slot 16 (.hl 2 0), .slot 19 (.hl 4 0), .slot 21 (.sc (.int .i64))], [(3, true), (4, true), (18, true), (20, true), (88, true), (89, true)]⟩ (.plan [] (.take 0 ⟨[], false, []⟩ (.take 1 ⟨[], false, []⟩ (.take 2 ⟨[], false, []⟩ (.take 3 ⟨[], false, []⟩ (.take 4 ⟨[], false, []⟩ (.take 5 ⟨[], false, []⟩ (.take 6 ⟨[], false, []⟩ (.take 7 ⟨[], false, []⟩ (.take 8 ⟨[], false, []⟩ (.take 9 ⟨[], false, []⟩ (.take 10 ⟨[], false, []⟩ (.take 11 ⟨[], false, []⟩ (.take 12 ⟨[], false, []⟩ (.take 16 ⟨[], false, []⟩ (.take 17 ⟨[], false, []⟩ (.take 18 ⟨[], false, []⟩ (.take 19 ⟨[], false, []⟩ (.take 20 ⟨[], false, []⟩ (.alt 13 true ⟨[], false, []⟩ (.alt 14 true ⟨[], false, []⟩ (.take 15 ⟨[], false, []⟩ (.alt 21 true ⟨[], false, []⟩ (.alt 22 true ⟨[], false, []⟩ (.take 23 ⟨[], false, []⟩ (.take 24 ⟨[], false, []⟩ .done)) .done) .done)) (.alt 21 true ⟨[], false, []⟩ (.alt 14 true ⟨[], false, []⟩ (.take 15 ⟨[], false, []⟩ (.alt 22 true ⟨[], false, []⟩ (.take 23 ⟨[], false, []⟩ (.take 24 ⟨[], false, []⟩ .done)) .done)) .done) .done)) (.alt 21 true ⟨[], false, []⟩ (.alt 13 true ⟨[], false, []⟩ (.alt 14 true ⟨[], false, []⟩ (.take 15 ⟨[], false, []⟩ (.alt 22 true ⟨[], false, []⟩ (.take 23 ⟨[], false, []⟩ (.take 24 ⟨[], false, []⟩ .done)) .done)) .done) .done) .done))))))))))))))))))))) (.cut ⟨[true, true, true, false, true], 5, [.slot 5 (.hb 0 0), .slot 15 (.hl 1 0), .slot 16 (.hl 2 0), .slot 19 (.hl 4 0), .slot 156 (.sc (.bool))], [(3, true), (4, true), (18, true), (20, true), (21, true), (88, true), (89, true)]⟩ (.txt [⟨[], false, []⟩, ⟨[], false, []⟩, ⟨[], false, []⟩, ⟨[], false, []⟩, ⟨[], false, []⟩, ⟨[], true, []⟩]) (.cond (.txt []) .leaf))))) (.txt [])))))))) (.txt []))))))) (.txt []))))))) (.seq (.seq (.txt []) (.cond (.seq (.txt []) .leaf) .leaf)) (.seq (.txt []) (.cut ⟨[true, true, true, false, false], 5, [.slot 16 (.hl 2 0), .slot 22 (.hl 4 0), .modl 4 0 3 [.int .i64]], [(3, true)]⟩ (.seq (.txt []) (.block (.loop ⟨[true, true, true, false, false], 5, [.slot 5 (.hb 0 0), .slot 16 (.hl 2 0), .slot 22 (.lst 4 3 [.int .i64]), .slot 23 (.sc (.int .i64))], [(3, true), (4, true)]⟩ (.seq (.seq (.txt []) (.cond .leaf .leaf)) (.block (.seq (.txt [⟨[], false, []⟩, ⟨[], false, []⟩, ⟨[], false, [.adl 175 3 [.int .i64]]⟩]) (.cut ⟨[true, true, true, false, true, true], 6, [.slot 5 (.hb 0 0), .slot 16 (.hl 2 0), .slot 22 (.hl 4 0), .slot 23 (.sc (.int .i64))], [(3, true), (4, true)]⟩ (.seq (.txt []) (.block (.loop ⟨[true, true, true, false, true, true], 6, [.slot 5 (.hb 0 0), .slot 16 (.hl 2 0), .slot 22 (.hl 4 0), .slot 23 (.sc (.int .i64)), .slot 24 (.hl 5 0), .slot 25 (.sc (.int .i64))], [(3, true), (4, true)]⟩ (.seq (.seq (.txt []) (.cond .leaf .leaf)) (.cut ⟨[true, true, true, false, true, true], 6, [.slot 5 (.hb 0 0), .slot 16 (.hl 2 0), .slot 22 (.hl 4 0), .slot 23 (.sc (.int .i64)), .slot 24 (.hl 5 0)], [(3, true), (4, true), (25, true)]⟩ (.block (.cut ⟨[true, true, true, false, true, true], 6, [.slot 5 (.hb 0 0), .slot 16 (.hl 2 0), .slot 22 (.hl 4 0), .slot 24 (.hl 5 0), .slot 220 (.sc (.bool))], [(3, true), (4, true), (23, true), (25, true)]⟩ (.plan [] (.take 0 ⟨[], false, []⟩ (.take 1 ⟨[], false, []⟩ (.take 2 ⟨[], false, []⟩ (.take 3 ⟨[], false, []⟩ (.take 4 ⟨[], false, []⟩ (.take 5 ⟨[], false, []⟩ (.take 6 ⟨[], false, []⟩ (.take 7 ⟨[], false, []⟩ (.take 8 ⟨[], true, []⟩ (.take 9 ⟨[], false, []⟩ (.take 10 ⟨[], false, []⟩ (.take 11 ⟨[], false, []⟩ (.take 12 ⟨[], false, []⟩ (.take 13 ⟨[], false, []⟩ (.take 14 ⟨[], false, []⟩ (.take 15 ⟨[], false, []⟩ (.take 16 ⟨[], false, []⟩ (.take 17 ⟨[], false, []⟩ (.take 18 ⟨[], false, []⟩ (.take 19 ⟨[], false, []⟩ (.take 20 ⟨[], false, []⟩ (.take 21 ⟨[], false, []⟩ (.take 25 ⟨[], false, []⟩ (.take 26 ⟨[], false, []⟩ (.take 27 ⟨[], false, []⟩ (.take 28 ⟨[], false, []⟩ (.take 29 ⟨[], false, []⟩ (.take 33 ⟨[], false, []⟩ (.take 34 ⟨[], false, []⟩ (.take 35 ⟨[], false, []⟩ (.take 36 ⟨[], false, []⟩ (.alt 22 true ⟨[], false, []⟩ (.alt 23 true ⟨[], false, []⟩ (.take 24 ⟨[], false, []⟩ (.alt 30 true ⟨[], false, []⟩ (.alt 31 true ⟨[], false, []⟩ (.take 32 ⟨[], false, []⟩ (.take 37 ⟨[], false, []⟩ (.take 38 ⟨[], false, []⟩ .done))) .done) .done)) (.alt 30 true ⟨[], false, []⟩ (.alt 23 true ⟨[], false, []⟩ (.take 24 ⟨[], false, []⟩ (.alt 31 true ⟨[], false, []⟩ (.take 32 ⟨[], false, []⟩ (.take 37 ⟨[], false, []⟩ (.take 38 ⟨[], false, []⟩ .done))) .done)) .done) .done)) (.alt 30 true ⟨[], false, []⟩ (.alt 22 true ⟨[], false, []⟩ (.alt 23 true ⟨[], false, []⟩ (.take 24 ⟨[], false, []⟩ (.alt 31 true ⟨[], false, []⟩ (.take 32 ⟨[], false, []⟩ (.take 37 ⟨[], false, []⟩ (.take 38 ⟨[], false, []⟩ .done))) .done)) .done) .done) .done)))))))))))))))))))))))))))))))))) (.cond (.seq (.txt []) .leaf) .leaf))) (.txt [])))))) (.txt [])))))))) (.seq (.plan [] (.take 0 ⟨[], false, []⟩ (.take 1 ⟨[], false, []⟩ (.take 2 ⟨[], false, []⟩ (.take 3 ⟨[], false, []⟩ (.take 4 ⟨[], false, []⟩ (.take 5 ⟨[], false, []⟩ (.take 6 ⟨[], false, []⟩ (.take 7 ⟨[], false, []⟩ .done))))))))) .leaf))))))))))))
set_option maxRecDepth 100000 in
theorem M_ref04_Cable_ok (σ : Hp) (a0_Wide : Int) (a0_High : Int) (a0_Cells_A : Option Addr) (a0_Cells_n : Nat) (a0_Cells_c : Nat) (a0_Heights_A : Option Addr) (a0_Heights_n : Nat) (a0_Heights_c : Nat) (a1_A : Option Addr) (a1_n : Nat) (a1_c : Nat) (a2_A : Option Addr) (a2_n : Nat) (a2_c : Nat) (a3 : Int) (a4 : Int) (R : Value → Hp → Prop) (h : M_ref04_Cable σ a0_Wide a0_High a0_Cells_A a0_Cells_n a0_Cells_c a0_Heights_A a0_Heights_n a0_Heights_c a1_A a1_n a1_c a2_A a2_n a2_c a3 a4 R) : FCalls Try.prog 16 #[(.agg #[(.int .i64 a0_Wide), (.int .i64 a0_High), (.slice a0_Cells_A a0_Cells_n a0_Cells_c), (.slice a0_Heights_A a0_Heights_n a0_Heights_c)]), (.slice a1_A a1_n a1_c), (.slice a2_A a2_n a2_c), (.int .i64 a3), (.int .i64 a4)] σ R :=
  fcalls_of_M mixed_M5 M_ref04_Cable_an Try.func16 rfl (by kernel_rfl) (by kernel_rfl) (M := M_ref04_Cable σ a0_Wide a0_High a0_Cells_A a0_Cells_n a0_Cells_c a0_Heights_A a0_Heights_n a0_Heights_c a1_A a1_n a1_c a2_A a2_n a2_c a3 a4 R) (by kernel_rfl) h
theorem M_ref04_Cable_enter : enterB Try.prog 16 = true := by kernel_rfl

end Go.Proofs.Ytmpkiaghkhhlhaa

/- Contracts of layer 4: Cable of the reference. No conditions but those that each theorem names. -/
namespace Go.Proofs.Ytmpkiaghkhhlhaa
open Go.RowKit

theorem rlx_neg {g : Gnd} {op : Int → Bool} {c k : Int} {X : List Int} (h : gt X k < 0) : rlx g op c X k = X := if_pos (.inl h)
theorem rlx_pos {g : Gnd} {op : Int → Bool} {c k : Int} {X : List Int} (h : 0 ≤ gt X k) (ho : op k = true) : rlx g op c X k = if gt X c < 0 ∨ gt X k + g.stp c k + g.drn c < gt X c then X.set c.toNat (gt X k + g.stp c k + g.drn c) else X := if_neg (by rw [ho]; rintro (h' | h') <;> first | omega | cases h')
/-- what Cable hands back -/
def cabS (g : Gnd) (l : List Pit) (st : List Sit) (a b : Int) : List Int × Int × Int :=
  if (chkS g l st).2 ≠ 0 then ([], 0, (chkS g l st).2)
  else if ¬ ((0 ≤ a ∧ a ≤ (g.C.length : Int) - 1) ∧ (0 ≤ b ∧ b ≤ (g.C.length : Int) - 1) ∧ gb (g.opn l st) a = true ∧ gb (g.opn l st) b = true) then ([], 0, 1)
  else if gt (rnds g (gb (g.opn l st)) g.C.length (ini g b)) a < 0 then ([], 0, 3)
  else (wayF g (gb (g.opn l st)) (rnds g (gb (g.opn l st)) g.C.length (ini g b)) b 7000 a, gt (rnds g (gb (g.opn l st)) g.C.length (ini g b)) a, 0)
theorem chkS_ok {g : Gnd} {l : List Pit} {st : List Sit} (h : (chkS g l st).2 = 0) : (chkP g l).2 = 0 ∧ Good g l ∧ st.length = l.length ∧ chkS g l st = (0, 0) ∧ ∀ k, k < l.length → g.siteOK l st k = true := by
  unfold chkS at h ⊢
  by_cases e : (chkP g l).2 ≠ 0
  · rw [if_pos e] at h; exact absurd h e
  · rw [if_neg e] at h ⊢
    have e' : (chkP g l).2 = 0 := by simpa using e
    obtain ⟨q1, q2, q3, _⟩ := chkP_ok e'
    by_cases e2 : st.length ≠ l.length
    · rw [if_pos e2] at h; simp at h
    · rw [if_neg e2] at h ⊢
      by_cases e3 : 0 ≤ fidx (fun k => !g.siteOK l st k) (List.range l.length)
      · rw [if_pos e3] at h; simp at h
      · rw [if_neg e3]
        refine ⟨e', ⟨q1, q3, q2⟩, by omega, rfl, fun k hk => ?_⟩
        have := fidx_any (p := fun k => !g.siteOK l st k) (xs := List.range l.length)
        rw [decide_eq_false e3] at this
        have := List.any_eq_false.1 this.symm k (List.mem_range.2 hk)
        simpa using this
def NewLII (σ : Hp) (xs : List Int) (a b : Int) : Value → Hp → Prop := fun v σ' => ∃ A n c, v = .tuple #[.slice A n c, .int .i64 a, .int .i64 b] ∧ OwnSl 3 [.int .i64] σ A n c xs σ'
theorem take_fold {α β : Type} {f : β → α → β} {b : β} {xs : List α} {k : Nat} (h : k < xs.length) : (xs.take (k + 1)).foldl f b = f ((xs.take k).foldl f b) xs[k] := by
  rw [List.take_succ_eq_append_getElem h, List.foldl_append]
  rfl
theorem fillK {N k : Nat} {a z : Int} (h : k < N) : (List.replicate k a ++ List.replicate (N - k) z).set k a = List.replicate (k + 1) a ++ List.replicate (N - (k + 1)) z := by
  rw [List.set_append_right _ _ (by simp)]
  have e : List.replicate (N - k) z = z :: List.replicate (N - (k + 1)) z := by
    rw [← List.replicate_succ]
    congr 1
    omega
  rw [e]
  simp only [List.length_replicate, Nat.sub_self, List.set_cons_zero]
  rw [List.replicate_succ' , List.append_assoc]
  rfl
theorem mem2 {a b : Int} {N : Nat} (h : 0 ≤ a ∧ a < N) (h' : 0 ≤ b ∧ b < N) : ∀ x ∈ [a, b], 0 ≤ x ∧ x < N := by
  intro x hx
  simp only [List.mem_cons, List.not_mem_nil, or_false] at hx
  rcases hx with rfl | rfl <;> assumption
theorem mem1 {a : Int} {N : Nat} (h : 0 ≤ a ∧ a < N) : ∀ x ∈ [a], 0 ≤ x ∧ x < N := by
  intro x hx
  simp only [List.mem_cons, List.not_mem_nil, or_false] at hx
  rcases hx with rfl
  assumption
/-- the cost of a step, as the document has it: of two cells, less that of the second -/
theorem l_cost2 {σ : Hp} {x : GV} {g : Gnd} {a b v : Int} {K : Int → Hp → Prop} (hg : GRd σ x g) (hok : g.ok = true) (ha : 0 ≤ a ∧ a < g.C.length) (hb : 0 ≤ b ∧ b < g.C.length) (hv : 0 ≤ v ∧ v ≤ 100000) (h : ∀ σ', Hp.Sub σ σ' → K (v + g.stp a b + g.drn a) σ') :
    exl 3 [.int .i64] ([a, b] : List Int) σ fun A1 l1 c1 σ1 => cl Try.prog (.func (.func N_ref04_Cost) #[] #[]) #[x.v g, .slice A1 l1 c1] σ1 fun v1 σ2 => ∃ n1 : Int, (v1 = .int .i64 n1 ∧ (Hp.Sub σ1 σ2 ∧ wk .i64 (v + n1) fun n2 => exl 3 [.int .i64] ([b] : List Int) σ2 fun A3 l3 c3 σ3 =>
      cl Try.prog (.func (.func N_ref04_Cost) #[] #[]) #[x.v g, .slice A3 l3 c3] σ3 fun v4 σ4 => ∃ n5 : Int, (v4 = .int .i64 n5 ∧ (Hp.Sub σ3 σ4 ∧ wk .i64 (n2 - n5) fun n6 => K n6 σ4)))) := by
  intro A1 l1 c1 σ1 o1
  have s1 := stp_in hok (a := a) (b := b)
  have s2 := drn_in (g := g) (c := a)
  have s3 := drn_in (g := g) (c := b)
  refine clIs M_ref04_Cost_enter (c_Cost (hg.sub o1.sub) hok o1.rd (mem2 ha hb) (by simp)) ?_
  have e1 : g.costK [a, b] ([a, b] : List Int).length = g.drn a + g.drn b + g.stp a b := cost2
  rw [e1]
  refine wk_i (by omega) ?_
  intro A3 l3 c3 σ3 o3
  refine clIs M_ref04_Cost_enter (c_Cost (hg.sub (o1.sub.trans o3.sub)) hok o3.rd (mem1 hb) (by simp)) ?_
  have e2 : g.costK [b] ([b] : List Int).length = g.drn b := cost1
  rw [e2]
  refine wk_i (by omega) ?_
  have e3 : v + (g.drn a + g.drn b + g.stp a b) - g.drn b = v + g.stp a b + g.drn a := by omega
  rw [e3]
  exact h _ (o1.sub.trans o3.sub)
theorem wayF_ge {g : Gnd} {op : Int → Bool} {X : List Int} {to c : Int} : ∀ n, ∃ t, wayF g op X to n c = c :: t
  | 0 => ⟨_, rfl⟩
  | n + 1 => by
    unfold wayF
    split
    · exact ⟨_, rfl⟩
    · exact ⟨_, rfl⟩
theorem rnds_bd {g : Gnd} {op : Int → Bool} {to : Int} {X : List Int} (hok : g.ok = true) (t0 : 0 ≤ to) (hX : CInv g op to X) (hb : Bd g X) : ∀ n, Bd g (rnds g op n X)
  | 0 => hb
  | n + 1 => (rndK_ind (P := fun Z => CInv g op to Z ∧ Bd g Z) ⟨rnds_inv hok t0 hX n, rnds_bd hok t0 hX hb n⟩ g.C.length fun _ _ _ hc ⟨z1, z2⟩ hop hk => ⟨rlx_is.inv hok z1 (by omega) (by omega) t0 hop hk, rlx_is.bd hok z1 (by omega) (by omega) z2⟩).2
theorem Phi_rnd {g : Gnd} {op : Int → Bool} {to : Int} {X : List Int} (hok : g.ok = true) (t0 : 0 ≤ to) (hX : CInv g op to X) (hb : Bd g X) : rnd g op X = X ∨ Phi g (rnd g op X) < Phi g X := by
  refine (rndK_ind (P := fun Z => (CInv g op to Z ∧ Bd g Z) ∧ (Z = X ∨ Phi g Z < Phi g X)) ⟨⟨hX, hb⟩, .inl rfl⟩ g.C.length ?_).2
  rintro c Z k hc ⟨⟨z1, z2⟩, z3⟩ hop hk
  refine ⟨⟨rlx_is.inv hok z1 (by omega) (by omega) t0 hop hk, rlx_is.bd hok z1 (by omega) (by omega) z2⟩, ?_⟩
  have hr := rlx_is (g := g) (op := op) (c := c) (X := Z) (k := k)
  generalize rlx g op c Z k = W at *
  cases hr with
  | same _ => exact z3
  | set p q d =>
    have := Phi_set hok z1 (by omega) (by omega) z2 p q d
    rcases z3 with rfl | z3
    · exact .inr this
    · exact .inr (by omega)
theorem rnds_fix {g : Gnd} {op : Int → Bool} {to : Int} {X : List Int} (hok : g.ok = true) (t0 : 0 ≤ to) (hX : CInv g op to X) (hb : Bd g X) : Fix g op (rnds g op g.C.length X) := by
  have : ∀ m n, Phi g (rnds g op n X) ≤ m → ∃ r, rnd g op (rnds g op r X) = rnds g op r X := by
    intro m
    induction m with
    | zero =>
      intro n h
      rcases Phi_rnd hok t0 (rnds_inv hok t0 hX n) (rnds_bd hok t0 hX hb n) with h2 | h2
      · exact ⟨n, h2⟩
      · omega
    | succ m ih =>
      intro n h
      rcases Phi_rnd hok t0 (rnds_inv hok t0 hX n) (rnds_bd hok t0 hX hb n) with h2 | h2
      · exact ⟨n, h2⟩
      · exact ih (n + 1) (by simp only [rnds]; omega)
  obtain ⟨r, h⟩ := this _ 0 (Nat.le_refl _)
  rw [rnds_conv hok t0 hX h]
  exact fix_of_rnd hok t0 (rnds_inv hok t0 hX r) h
theorem c_ref04_Cable {σ : Hp} {x : GV} {g : Gnd} {lA sA : Option Addr} {ln lc sn sc : Nat} {l : List Pit} {st : List Sit} {a b : Int} (hg : GRd σ x g) (hl : RdS sP σ lA ln l) (hst : RdS sS σ sA sn st) (hsc : sn ≤ sc) :
    FCalls Try.prog N_ref04_Cable #[x.v g, .slice lA ln lc, .slice sA sn sc, .int .i64 a, .int .i64 b] σ (NewLII σ (cabS g l st a b).1 (cabS g l st a b).2.1 (cabS g l st a b).2.2) := by
  refine M_ref04_Cable_ok _ _ _ _ _ _ _ _ _ _ _ _ _ _ _ _ _ _ ?_
  unfold M_ref04_Cable
  refine clII M_ref04_Check_enter (c_ref04_Check hg hl hst hsc) ?_
  refine bc_nd (fun h => rt_of ⟨none, 0, 0, ?_, ?_⟩) (fun h => ?_)
  · rw [cabS, if_pos h]
  · rw [cabS, if_pos h]; exact OwnSl.nil ..
  obtain ⟨hchk, hG, hlen, _, _⟩ := chkS_ok h
  have hok := hG.ok
  have ho := hG.s
  obtain ⟨l1, l2, l3⟩ := Gnd.okS_len ho
  refine clL M_ref04_Open_enter (c_Open hg hG hl hst (by omega)) ?_
  have hol := opn_len (g := g) (l := l) (st := st)
  have ecab : cabS g l st a b = if ¬ ((0 ≤ a ∧ a ≤ (g.C.length : Int) - 1) ∧ (0 ≤ b ∧ b ≤ (g.C.length : Int) - 1) ∧ gb (g.opn l st) a = true ∧ gb (g.opn l st) b = true) then ([], 0, 1)
      else if gt (rnds g (gb (g.opn l st)) g.C.length (ini g b)) a < 0 then ([], 0, 3)
      else (wayF g (gb (g.opn l st)) (rnds g (gb (g.opn l st)) g.C.length (ini g b)) b 7000 a, gt (rnds g (gb (g.opn l st)) g.C.length (ini g b)) a, 0) := by rw [cabS, if_neg (by simp [h])]
  rw [ecab]
  show cut _ _
  generalize hop : g.opn l st = ol at *
  refine cut_intro fun J12 h12 => cut_intro fun J230 h230 => ?_
  have k12 : ((0 ≤ a ∧ a ≤ (g.C.length : Int) - 1) ∧ (0 ≤ b ∧ b ≤ (g.C.length : Int) - 1) ∧ gb ol a = true ∧ gb ol b = true) → J12 σ := by
    intro hcond
    rw [h12, if_neg (fun h => h hcond)]
    obtain ⟨ha, hb, oa, ob⟩ := hcond
    intro _
    refine ⟨by omega, by omega, by omega, cut_intro fun J15 h15 => ?_⟩
    refine ⟨fun n i xs τ => ∃ k : Nat, n = g.C.length - k ∧ i = k ∧ k ≤ g.C.length ∧ xs = List.replicate k (-1) ++ List.replicate (g.C.length - k) 0 ∧ τ = σ, ⟨_, 0, rfl, rfl, by omega, by simp [hol], rfl⟩, ?_⟩
    rintro n i xs τ ⟨k, rfl, rfl, hk, rfl, rfl⟩ _
    refine bc_d (fun hlt => ⟨by omega, ?_, lat_I (by omega) ?_ ?_⟩) (fun hlt => ?_)
    · simp; omega
    · simp; omega
    · refine wk_i (by omega) (bk_of _ ?_ ⟨k + 1, rfl, rfl, by omega, ?_, rfl⟩)
      · omega
      · simp only [Int.toNat_natCast]
        exact fillK (by omega)
    · have hkN : k = g.C.length := by omega
      subst hkN
      rw [h15]
      intro _
      simp only [Nat.sub_self, List.replicate_zero, List.append_nil]
      intro A17 l17 c17 σ18 o18
      refine clI M_ref04_Cost_enter (c_Cost (hg.sub o18.sub) hok o18.rd (mem1 (by omega)) (by simp)) ?_
      have e1 : g.costK [b] ([b] : List Int).length = g.drn b := cost1
      rw [e1]
      refine ⟨by omega, by simp; omega, lat_I (by omega) (by simp; omega) ?_⟩
      obtain ⟨ini1, ini2⟩ := ini_inv (g := g) (op := gb ol) (to := b) (by omega) (by omega) ob
      refine cut_intro fun J25 h25 => ?_
      generalize hX : rnds g (gb ol) g.C.length (ini g b) = X at *
      have k25 : ∀ σ', Hp.Sub τ σ' → J25 X σ' := by
        intro σ' hs
        have hXi := rnds_inv (g := g) (op := gb ol) hok (to := b) (by omega) ini1 g.C.length
        rw [hX] at hXi
        have hXl := hXi.len
        have hXb : ∀ c, gt X c ≤ 6656 := by
          intro c
          have h1 := rnds_bd hok (by omega) ini1 ini2 g.C.length c
          have h2 := fin_le (g := g) (X := rnds g (gb ol) g.C.length (ini g b))
          rw [hX] at h1 h2
          omega
        have hXf : Fix g (gb ol) X := hX ▸ rnds_fix hok (by omega) ini1 ini2
        rw [h25]
        intro _
        refine ⟨by omega, by omega, lat_I (by omega) (by omega) (bc_d (fun hneg => rt_sub hs ⟨none, 0, 0, ?_, ?_⟩) (fun hneg => ?_))⟩
        · rw [if_pos hneg]
        · rw [if_pos hneg]; exact OwnSl.nil ..
        rw [if_neg hneg]
        refine cut_intro fun J30 h30 => ?_
        refine ⟨fun n xs c σ' => n = (gt X c).toNat ∧ 0 ≤ gt X c ∧ (0 ≤ c ∧ c < g.C.length) ∧ Hp.Sub τ σ' ∧ ∃ pre f, xs = pre ++ [c] ∧ pre ++ wayF g (gb ol) X b f c = wayF g (gb ol) X b 7000 a ∧ (gt X c).toNat ≤ f ∧ pre.length + (gt X c).toNat ≤ 7000, ⟨_, rfl, by omega, by omega, hs, [], 7000, rfl, rfl, ?_, ?_⟩, ?_⟩
        · have := hXb a; omega
        · have := hXb a; simp; omega
        rintro n xs c σ' ⟨rfl, hc0, hcr, hs, pre, f, rfl, hway, hf, hpre⟩ _
        refine bc_nd (fun hne => ?_) (fun he => ?_)
        · obtain ⟨w1, w2, w3, w4, w5⟩ := nxt_ok hok hXi hXf hcr.1 hcr.2 hne hc0
          refine clL M_ref04_Neighbours_enter (c_Neighbours ho hcr.1 hcr.2) ?_
          have hnl := nbr_len (g := g) (c := c)
          have hnin := nbr_in ho hcr.1 hcr.2
          show cut _ _
          refine cut_intro fun J48 h48 => ?_
          have k48 : ∀ σ', Hp.Sub τ σ' → J48 (nxt g (gb ol) X c) σ' := by
            intro σ' hs
            rw [h48]
            intro _
            refine roomy_i ?_ (bk_of _ ?_ ⟨rfl, w4, w3, hs, pre ++ [c], f - 1, rfl, ?_, ?_, ?_⟩)
            · simp only [List.length_append, List.length_cons, List.length_nil]; omega
            · omega
            · rw [← hway]
              obtain ⟨f', rfl⟩ : ∃ f', f = f' + 1 := ⟨f - 1, by omega⟩
              rw [wayF, if_neg hne]
              simp
            · omega
            · simp only [List.length_append, List.length_cons, List.length_nil]; omega
          refine ⟨fun n cc i σ' => ∃ j : Nat, n = (g.nbr c).length - j ∧ cc = c ∧ i = j ∧ j ≤ (g.nbr c).length ∧ Hp.Sub τ σ' ∧ ∀ i, (h : i < (g.nbr c).length) → i < j → wayP g (gb ol) X c (g.nbr c)[i] = false, ⟨_, 0, rfl, rfl, rfl, by omega, hs, fun i _ h => by omega⟩, ?_⟩
          rintro n cc i σ' ⟨j, rfl, rfl, rfl, hj, hs, hjf⟩ _
          refine bc_d (fun hlt => ?_) (fun hlt => ?_)
          · have hjl : j < (g.nbr cc).length := by omega
            have kin := hnin _ (gt_mem hjl)
            refine cut_intro fun J60 h60 => cut_intro fun J67 h67 => ?_
            have k67 : ∀ t σ', Hp.Sub τ σ' → t = wayP g (gb ol) X cc (g.nbr cc)[j] → J67 t σ' := by
              rintro t σ' hs rfl
              rw [h67]
              intro _
              refine bc_b (fun ht => ⟨by omega, by omega, lat_I (by omega) (by omega) ?_⟩) (fun ht => ?_)
              · have := k48 σ' hs
                unfold nxt at this
                rw [fidx_at hjl ht hjf] at this
                exact this
              · rw [h60]
                intro _
                refine wk_i (by omega) (bk_of _ (by omega) ⟨j + 1, rfl, rfl, rfl, by omega, hs, fun i hi hij => ?_⟩)
                rcases Nat.lt_or_ge i j with h | h
                · exact hjf i hi h
                · have : i = j := by omega
                  subst this
                  exact ht
            rw [← gt_nat hjl] at k67
            have hbk := hXb (gt (g.nbr cc) j)
            refine ⟨by omega, by omega, lat_I (by omega) (by omega) ⟨kin.1, by omega, lat_I kin.1 (by omega) (bc_d (fun h0 => ?_) (fun h0 => dup3 (k67 _ _ hs ?_)))⟩⟩
            · have hopn : gb ol (gt (g.nbr cc) j) = true := hXi.opn _ kin.1 kin.2 h0
              refine ⟨by omega, by omega, lat_I (by omega) (by omega) ⟨kin.1, by omega, lat_I kin.1 (by omega) ⟨by omega, by omega, lat_I (by omega) (by omega) ⟨by omega, by omega, lat_I (by omega) (by omega) ⟨hcr.1, by omega, lat_I hcr.1 (by omega) ?_⟩⟩⟩⟩⟩
              refine dup3 (l_cost2 (hg.sub hs) hok hcr kin (by omega) fun σ2 hs2 => k67 _ _ (hs.trans hs2) ?_)
              simp [wayP, hopn, h0]
            · simp [wayP, h0]
          · exfalso
            have : fidx (wayP g (gb ol) X cc) (g.nbr cc) = -1 := fidx_none fun i h => hjf i h (by omega)
            omega
        · rw [h30]
          intro _
          refine ⟨by omega, by omega, lat_I (by omega) (by omega) ?_⟩
          intro A33 l33 c33 σ34 o34
          obtain ⟨σ2, o2, s2⟩ := o34.base hs
          have ew : pre ++ [c] = wayF g (gb ol) X b 7000 a := by
            rw [← hway]
            cases f with
            | zero => rfl
            | succ f => rw [wayF, if_pos he]
          rw [ew] at o2
          exact rt_sub s2 ⟨_, _, _, rfl, o2⟩
      refine ⟨fun n i xs σ' => ∃ r : Nat, n = g.C.length - r ∧ i = r ∧ r ≤ g.C.length ∧ xs = rnds g (gb ol) r (ini g b) ∧ Hp.Sub τ σ' ∧ CInv g (gb ol) b xs ∧ Bd g xs, ⟨_, 0, rfl, rfl, by omega, rfl, o18.sub, ini1, ini2⟩, ?_⟩
      rintro n i xs σ' ⟨r, rfl, rfl, hr, rfl, hs, hi1, hi2⟩ _
      refine bc_d (fun hlt => cut_intro fun J121 h121 => ?_) (fun hlt => ?_)
      · refine ⟨fun n i xs σ' => ∃ k : Nat, n = g.C.length - k ∧ i = k ∧ k ≤ g.C.length ∧ xs = rndK g (gb ol) k (rnds g (gb ol) r (ini g b)) ∧ Hp.Sub τ σ' ∧ CInv g (gb ol) b xs ∧ Bd g xs, ⟨_, 0, rfl, rfl, by omega, rfl, hs, hi1, hi2⟩, ?_⟩
        rintro n i xs σ' ⟨k, rfl, rfl, hk, rfl, hs, hi1, hi2⟩ _
        refine bc_d (fun hlt2 => ?_) (fun hlt2 => ?_)
        · have hkN : (k : Int) < g.C.length := by omega
          refine cut_intro fun J134 h134 => ?_
          refine clL M_ref04_Neighbours_enter (c_Neighbours ho (by omega) hkN) ?_
          have hnl := nbr_len (g := g) (c := k)
          have hnin := nbr_in ho (c := k) (by omega) hkN
          show ∃ _, _
          have k134 : ∀ xs σ', xs = rndK g (gb ol) (k + 1) (rnds g (gb ol) r (ini g b)) → Hp.Sub τ σ' → CInv g (gb ol) b xs → Bd g xs → J134 xs σ' := by
            rintro xs σ' rfl hs hi1 hi2
            rw [h134]
            intro _
            exact wk_i (by omega) (bk_of _ (by omega) ⟨k + 1, rfl, rfl, by omega, rfl, hs, hi1, hi2⟩)
          rw [rndK_succ] at k134
          generalize rndK g (gb ol) k (rnds g (gb ol) r (ini g b)) = Z at *
          unfold rlxC at k134
          refine ⟨fun n i xs σ' => ∃ j : Nat, n = (g.nbr k).length - j ∧ i = j ∧ j ≤ (g.nbr k).length ∧ xs = ((g.nbr k).take j).foldl (rlx g (gb ol) k) Z ∧ (gb ol k = false → j = 0) ∧ Hp.Sub τ σ' ∧ CInv g (gb ol) b xs ∧ Bd g xs, ⟨_, 0, rfl, rfl, by omega, rfl, fun _ => rfl, hs, hi1, hi2⟩, ?_⟩
          rintro n i xs σ' ⟨j, rfl, rfl, hj, hxs, hj0, hs, hi1, hi2⟩ _
          refine cut_intro fun J152 h152 => cut_intro fun J215 h215 => ?_
          have hfin := fin_le (g := g) (X := xs)
          have hxl := hi1.len
          have k152 : gb ol k = true → j < (g.nbr k).length → J152 σ' := by
            intro hopk hjl
            have kin := hnin _ (gt_mem hjl)
            have knm := gt_mem hjl
            have hbk := hi2 (gt (g.nbr k) j)
            rw [h152]
            intro _
            refine cut_intro fun J155 h155 => ?_
            have k155 : ∀ ys σ', ys = rlx g (gb ol) k xs (gt (g.nbr k) j) → Hp.Sub τ σ' → J155 ys σ' := by
              rintro ys σ' rfl hs
              rw [h155]
              intro _
              refine wk_i (by omega) (bk_of _ (by omega) ⟨j + 1, rfl, rfl, by omega, ?_, fun h => absurd (hopk.symm.trans h) (by decide), hs, rlx_is.inv hok hi1 (by omega) hkN (by omega) hopk knm, rlx_is.bd hok hi1 (by omega) hkN hi2⟩)
              rw [take_fold hjl, ← hxs, gt_nat hjl]
            refine ⟨by omega, by omega, lat_I (by omega) (by omega) ⟨kin.1, by omega, lat_I kin.1 (by omega) (bc_d (fun hneg => k155 _ _ (rlx_neg hneg).symm hs) (fun hneg => ?_))⟩⟩
            refine cut_intro fun J164 h164 => ?_
            have hopn : gb ol (gt (g.nbr k) j) = true := hi1.opn _ kin.1 kin.2 (by omega)
            rw [rlx_pos (by omega) hopn] at k155
            refine ⟨by omega, by omega, lat_I (by omega) (by omega) ⟨kin.1, by omega, lat_I kin.1 (by omega) ⟨by omega, by omega, lat_I (by omega) (by omega) ⟨by omega, by omega, lat_I (by omega) (by omega) ?_⟩⟩⟩⟩
            refine dup3 (l_cost2 (hg.sub hs) hok (by omega) kin (by omega) fun σ2 hs2 => ?_)
            rw [h164]
            intro _
            refine cut_intro fun J168 h168 => ?_
            have k168 : ∀ t, t = decide (gt xs k < 0 ∨ gt xs (gt (g.nbr k) j) + g.stp k (gt (g.nbr k) j) + g.drn k < gt xs k) → J168 t σ2 := by
              rintro t rfl
              rw [h168]
              intro _
              refine bc_d (fun ht => ⟨by omega, by omega, lat_I (by omega) (by omega) (k155 _ _ ?_ (hs.trans hs2))⟩) (fun ht => k155 _ _ ?_ (hs.trans hs2))
              · rw [if_pos ht]
              · rw [if_neg ht]
            refine ⟨by omega, by omega, lat_I (by omega) (by omega) (bc_d (fun h1 => k168 _ ?_) (fun h1 => ⟨by omega, by omega, lat_I (by omega) (by omega) (k168 _ ?_)⟩))⟩
            · simp [h1]
            · simp [h1]
          have k215 : ∀ t, t = (decide (j < (g.nbr k).length) && gb ol k) → J215 t σ' := by
            rintro t rfl
            rw [h215]
            intro _
            refine bc_b (fun ht => ?_) (fun ht => k134 _ _ ?_ hs hi1 hi2)
            · simp only [Bool.and_eq_true, decide_eq_true_eq] at ht
              exact k152 ht.2 ht.1
            · rw [hxs]
              cases e : gb ol k with
              | false =>
                rw [hj0 e]
                simp
              | true =>
                rw [e] at ht
                have hjj : j = (g.nbr k).length := by simp at ht; omega
                rw [hjj, List.take_length]
                simp
          refine bc_d (fun h1 => ⟨by omega, by omega, lat_b (by omega) (by omega) (k215 _ ?_)⟩) (fun h1 => k215 _ ?_)
          · rw [decide_eq_true (by omega)]; rfl
          · rw [decide_eq_false (by omega)]; rfl
        · rw [h121]
          intro _
          have : k = g.C.length := by omega
          subst this
          exact wk_i (by omega) (bk_of _ (by omega) ⟨r + 1, rfl, rfl, by omega, rfl, hs, hi1, hi2⟩)
      · have : r = g.C.length := by omega
        subst this
        rw [hX]
        exact k25 _ hs
  have k230 : ∀ t, t = !decide ((0 ≤ a ∧ a ≤ (g.C.length : Int) - 1) ∧ (0 ≤ b ∧ b ≤ (g.C.length : Int) - 1) ∧ gb ol a = true ∧ gb ol b = true) → J230 t σ := by
    rintro t rfl
    rw [h230]
    intro _
    refine bc_nd (fun hn => rt_of ⟨none, 0, 0, ?_, ?_⟩) (fun hn => k12 hn)
    · rw [if_pos hn]
    · rw [if_pos hn]; exact OwnSl.nil ..
  refine wk_i (by omega) (l_rw (bc_nd (fun h1 => ?_) (fun h1 => ?_)))
  · refine bc_t (bc_t (k230 _ ?_))
    rw [hol] at h1
    simp [h1]
  · rw [hol] at h1
    refine wk_i (by omega) (l_rw (bc_nd (fun h2 => ?_) (fun h2 => ?_)))
    · refine bc_t (k230 _ ?_)
      rw [hol] at h2
      simp [h2]
    · rw [hol] at h2
      refine ⟨by omega, by omega, lat_b (by omega) (by omega) (bc_nb (fun h3 => k230 _ ?_) (fun h3 => ⟨by omega, by omega, lat_b (by omega) (by omega) (k230 _ ?_)⟩))⟩
      · simp [h3]
      · rw [h3]
        cases gb ol b <;> simp [h1, h2]
end Go.Proofs.Ytmpkiaghkhhlhaa

/- Contracts of layer 4: ground.Cable has the same answer. No conditions but those that each theorem names. -/
namespace Go.Proofs.Ytmpkiaghkhhlhaa
open Go.RowKit

/-- a box that holds one cell -/
def Bx1 (σ : Hp) (p : Option Addr) (v : Value) : Prop := ∃ b, p = some ⟨b, 0, none⟩ ∧ σ.cell? ⟨b, 0, none⟩ = some v
theorem cell_sub {σ σ' : Hp} (hs : Hp.Sub σ σ') {a : Addr} {v : Value} (h : σ.cell? a = some v) : σ'.cell? a = some v := by
  unfold Hp.cell? at h ⊢
  split at h
  · rename_i e
    rw [hs _ _ e]
    exact h
  · cases h
theorem Bx1.sub {σ σ' : Hp} {p : Option Addr} {v : Value} (h : Bx1 σ p v) (hs : Hp.Sub σ σ') : Bx1 σ' p v := let ⟨b, h1, h2⟩ := h; ⟨b, h1, cell_sub hs h2⟩
theorem Bx1.ins {σ : Hp} {b : Nat} {v : Value} {t : TypeId} : Bx1 (σ.ins b (.cells #[v] t (0, 0))) (some ⟨b, 0, none⟩) v := ⟨b, rfl, by unfold Hp.cell?; simp only [Hp.ins_same]; rfl⟩
theorem Bx1.ldI {σ : Hp} {p : Option Addr} {n : Int} {K : Int → Prop} (h : Bx1 σ p (.int .i64 n)) (hk : K n) : dr p fun b o => ldI σ .i64 b o K := by
  obtain ⟨b, rfl, hc⟩ := h
  exact dr_i (ldI_of hc hk)
theorem Bx1.ldP {σ : Hp} {p q : Option Addr} {K : Option Addr → Prop} (h : Bx1 σ p (.pointer q)) (hk : K q) : dr p fun b o => ldP σ b o K := by
  obtain ⟨b, rfl, hc⟩ := h
  exact dr_i (ldP_of hc hk)
theorem Bx1.ldS {σ : Hp} {p A : Option Addr} {n c : Nat} {K : Option Addr → Nat → Nat → Prop} (h : Bx1 σ p (.slice A n c)) (hk : K A n c) : dr p fun b o => ldS σ b o K := by
  obtain ⟨b, rfl, hc⟩ := h
  exact dr_i (ldS_of hc hk)
/-- what is free in a field with a right layout -/
theorem free_opn {g : Gnd} {l : List Pit} {st : List Sit} (h : (chkS g l st).2 = 0) {c : Int} (h0 : 0 ≤ c) (h1 : c < g.C.length) : (fdK g l st l.length).free c = gb (g.opn l st) c := by
  obtain ⟨e, hG, hlen, _, hs⟩ := chkS_ok h
  have hcon := fdK_con e l.length (Nat.le_refl _) hs
  have := fdK_full e (Nat.le_refl _) hcon h0 h1
  rw [gb_opn h0 h1, hlen, ← this]
  unfold Fd.free
  rw [(fdK_g _).1, Bool.decide_and, Bool.and_comm]
theorem c_Cable_1 {σ : Hp} {f cap0 cap1 cap2 A : Option Addr} {n cp : Nat} {V : FA} {F : Fd} {X : List Int} {at' k : Int} {op : Int → Bool} (hf : FdR σ f V F) (hF : F.ok) (h0 : Bx1 σ cap0 (.pointer f)) (h1 : Bx1 σ cap1 (.slice A n cp)) (h2 : Bx1 σ cap2 (.int .i64 at'))
    (hX : RdS [.int .i64] σ A n X) (hl : X.length = F.g.C.length) (hXb : ∀ c, gt X c ≤ 6656) (ha : 0 ≤ at' ∧ at' < F.g.C.length) (hk : 0 ≤ k ∧ k < F.g.C.length) (hop : F.free k = op k) :
    FCalls Try.prog N_ground_Cable_1 #[.int .i64 k, .pointer cap0, .pointer cap1, .pointer cap2] σ fun v σ' => v = .bool (wayP F.g op X at' k) ∧ σ' = σ := by
  refine M_ground_Cable_1_ok _ _ _ _ _ _ ?_
  unfold M_ground_Cable_1
  have s1 := stp_in hF.g (a := at') (b := k)
  have s2 := drn_in (g := F.g) (c := at')
  have hb := hXb k
  refine h0.ldP (clB M_ground_field_free_enter (c_field_free hf hF hk.1 hk.2) ?_)
  rw [hop]
  refine bc_b (fun h => ?_) (fun h => bc_f (rt_of ⟨?_, rfl⟩))
  · refine h1.ldS (gixg hX hk.1 (by omega) (bc_d (fun hx => ?_) (fun hx => rt_of ⟨?_, rfl⟩)))
    · refine h1.ldS (gixg hX hk.1 (by omega) (h0.ldP (h2.ldI (h0.ldP (h2.ldI (h1.ldS (h2.ldI (gixg hX ha.1 (by omega) ?_))))))))
      refine clIs M_ground_field_step_enter (c_field_step hf.toFdB hF.g ha.1 ha.2 hk.1 hk.2) (wk_i (by omega) ?_)
      refine clIs M_ground_field_drain_enter (c_field_drain hf.toFdB ha.1 ha.2) (wk_i (by omega) (rt_of ⟨?_, rfl⟩))
      simp [wayP, h, hx]
    · simp [wayP, hx]
  · simp [wayP, h]
theorem NewLII.base {σ τ τ' : Hp} {xs : List Int} {a b : Int} {A : Option Addr} {n c : Nat} (hs : Hp.Sub σ τ) (h : OwnSl 3 [.int .i64] τ A n c xs τ') : rt τ' (NewLII σ xs a b) (.tuple #[.slice A n c, .int .i64 a, .int .i64 b]) := by
  obtain ⟨σ2, o2, s2⟩ := h.base hs
  exact rt_sub s2 ⟨_, _, _, rfl, o2⟩
theorem c_ground_Cable {σ : Hp} {x : GV} {g : Gnd} {lA sA : Option Addr} {ln lc sn sc : Nat} {l : List Pit} {st : List Sit} {a b : Int} (hg : GRd σ x g) (hl : RdS sP σ lA ln l) (hst : RdS sS σ sA sn st) :
    FCalls Try.prog N_ground_Cable #[x.v g, .slice lA ln lc, .slice sA sn sc, .int .i64 a, .int .i64 b] σ (NewLII σ (cabS g l st a b).1 (cabS g l st a b).2.1 (cabS g l st a b).2.2) := by
  refine M_ground_Cable_ok _ _ _ _ _ _ _ _ _ _ _ _ _ _ _ _ _ _ ?_
  unfold M_ground_Cable
  intro A1 l1' c1 σ2 o1
  refine cl_of M_ground_withCell_enter (c_withCell (ks := [a, b]) (hg.sub o1.sub) (hl.sub o1.sub) (hst.sub o1.sub) o1.rd (by simp)) ?_
  have hany : ([a, b].any fun c => !decide (0 ≤ c ∧ c ≤ (g.C.length : Int) - 1)) = !decide ((0 ≤ a ∧ a ≤ (g.C.length : Int) - 1) ∧ (0 ≤ b ∧ b ≤ (g.C.length : Int) - 1)) := by
    simp only [List.any_cons, List.any_nil, Bool.or_false, Bool.decide_and (p := 0 ≤ a ∧ a ≤ (g.C.length : Int) - 1), Bool.not_and]
  rw [hany]
  rintro v σ4 (⟨hne, rfl, rfl⟩ | ⟨he0, f, V, σ0, rfl, hs0, hfw⟩)
  · refine ⟨_, _, rfl, bc_nd (fun h => rt_sub o1.sub ⟨none, 0, 0, ?_, ?_⟩) (fun h => absurd h hne)⟩
    · unfold cabS
      by_cases e : (chkS g l st).2 ≠ 0
      · rw [if_pos e, if_pos e]
      · rw [if_neg e] at hne ⊢
        rw [if_neg e]
        have hc : ¬ ((0 ≤ a ∧ a ≤ (g.C.length : Int) - 1) ∧ (0 ≤ b ∧ b ≤ (g.C.length : Int) - 1)) := by
          intro hc
          rw [decide_eq_true hc] at hne
          simp at hne
        rw [if_pos (fun h => hc ⟨h.1, h.2.1⟩), decide_eq_false hc]
        rfl
    · unfold cabS
      by_cases e : (chkS g l st).2 ≠ 0
      · rw [if_pos e]; exact OwnSl.nil ..
      · rw [if_neg e] at hne ⊢
        have hc : ¬ ((0 ≤ a ∧ a ≤ (g.C.length : Int) - 1) ∧ (0 ≤ b ∧ b ≤ (g.C.length : Int) - 1)) := by
          intro hc
          rw [decide_eq_true hc] at hne
          simp at hne
        rw [if_pos (fun h => hc ⟨h.1, h.2.1⟩)]
        exact OwnSl.nil ..
  have hch : (chkS g l st).2 = 0 := by
    by_cases e : (chkS g l st).2 ≠ 0
    · rw [if_pos e] at he0; exact absurd he0 e
    · simpa using e
  rw [if_neg (by simp [hch])] at he0 ⊢
  have hab : (0 ≤ a ∧ a ≤ (g.C.length : Int) - 1) ∧ (0 ≤ b ∧ b ≤ (g.C.length : Int) - 1) := by
    apply Classical.byContradiction
    intro hc
    rw [decide_eq_false hc] at he0
    simp at he0
  rw [he0]
  refine ⟨_, _, rfl, bc_nd (fun h => absurd rfl h) (fun _ => ?_)⟩
  obtain ⟨hchk, hG, hlen, _, hall⟩ := chkS_ok hch
  have hok := hG.ok
  have ho := hG.s
  obtain ⟨l1, l2, l3⟩ := Gnd.okS_len ho
  have hF := fdK_ok (st := st) hchk l.length
  obtain ⟨eg, el⟩ := fdK_g (g := g) (l := l) (st := st) l.length
  have hfree : ∀ c : Int, 0 ≤ c → c < g.C.length → (fdK g l st l.length).free c = gb (g.opn l st) c := fun c h0 h1 => free_opn hch h0 h1
  have hr4 := hfw.r
  have hs4 : Hp.Sub σ σ4 := o1.sub.trans (hs0.trans hfw.base)
  have hb4 : FdB σ4 f V g l := by have := hr4.toFdB; rw [eg, el] at this; exact this
  unfold cabS
  rw [if_neg (by simp [hch])]
  generalize fdK g l st l.length = F at *
  subst eg
  generalize hopn : gb (F.g.opn l st) = op at *
  refine cut_intro fun J9 h9 => cut_intro fun J172 h172 => ?_
  have k9 : op a = true → op b = true → J9 σ4 := by
    intro oa ob
    rw [h9, if_neg (fun h => h ⟨hab.1, hab.2, oa, ob⟩)]
    intro _
    refine hb4.dC ?_
    intro A13 l13 c13 σ14 o13
    obtain rfl : l13 = 1 := o13.len
    have hcn := hr4.cn
    refine clL M_slices_Repeat_int_enter (c_Repeat_int (a := (-1 : Int)) o13.rd (by omega)) ?_
    show cl _ _ _ _ _
    have hs14 : Hp.Sub σ σ14 := hs4.trans o13.sub
    have hr14 := hr4.sub o13.sub
    have hb14 := hb4.sub o13.sub
    rw [show ((V.x.cn : Nat) : Int).toNat = F.g.C.length by omega]
    refine clIs M_ground_field_drain_enter (c_field_drain hb14 (by omega) (by omega)) ?_
    have hrep : ((List.length (List.replicate F.g.C.length (-1 : Int)) : Nat) : Int) = F.g.C.length := by rw [List.length_replicate]
    refine ⟨by omega, show b < ((List.length (List.replicate F.g.C.length (-1 : Int)) : Nat) : Int) by omega, lat_I (xs := List.replicate F.g.C.length (-1 : Int)) (by omega) (by omega) ?_⟩
    obtain ⟨ini1, ini2⟩ := ini_inv (g := F.g) (op := op) (to := b) (by omega) (by omega) ob
    refine cut_intro fun J26 h26 => ?_
    generalize hX : rnds F.g op F.g.C.length (ini F.g b) = X at *
    have k26 : ∀ σ', Hp.Sub σ14 σ' → J26 X σ' := by
      intro σ' hs
      have hXi := rnds_inv (g := F.g) (op := op) hok (to := b) (by omega) ini1 F.g.C.length
      rw [hX] at hXi
      have hXl := hXi.len
      have hXb : ∀ c, gt X c ≤ 6656 := by
        intro c
        have h1 := rnds_bd hok (by omega) ini1 ini2 F.g.C.length c
        have h2 := fin_le (g := F.g) (X := rnds F.g op F.g.C.length (ini F.g b))
        rw [hX] at h1 h2
        omega
      have hXf : Fix F.g op X := hX ▸ rnds_fix hok (by omega) ini1 ini2
      have hsσ := hs14.trans hs
      rw [h26]
      intro _
      refine ⟨by omega, by omega, lat_I (by omega) (by omega) (bc_d (fun hneg => rt_sub hsσ ⟨none, 0, 0, ?_, ?_⟩) (fun hneg => ?_))⟩
      · rw [if_pos hneg]
      · rw [if_pos hneg]; exact OwnSl.nil ..
      rw [if_neg hneg]
      refine cut_intro fun J31 h31 => ?_
      refine ⟨fun n xs p55 p56 p57 σ' => ∃ c σ1 A n' c' b52, n = (gt X c).toNat ∧ 0 ≤ gt X c ∧ (0 ≤ c ∧ c < F.g.C.length) ∧ Hp.Sub σ σ1 ∧ FdR σ1 f V F ∧ Bx1 σ1 p55 (.pointer f) ∧ Bx1 σ1 p56 (.slice A n' c') ∧ RdS [.int .i64] σ1 A n' X ∧ σ1 b52 = none ∧ p57 = some ⟨b52, 0, none⟩ ∧ Hp.Sub (σ1.ins b52 (.cells #[.int .i64 c] 3 (0, 0))) σ' ∧ ∃ pre f, xs = pre ++ [c] ∧ pre ++ wayF F.g op X b f c = wayF F.g op X b 7000 a ∧ (gt X c).toNat ≤ f ∧ pre.length + (gt X c).toNat ≤ 7000, ⟨(gt X a).toNat, ?_⟩, ?_⟩
      · intro b46 hb46 A48 l48 c48 σ49 o48 b50 hb50 b52 hb52
        have e46 : Hp.Sub σ' (σ'.ins b46 (.cells #[.pointer f] 67)) := Hp.Sub.ins _ hb46
        have e50 : Hp.Sub σ49 (σ49.ins b50 (.cells #[.slice A48 l48 c48] 22)) := Hp.Sub.ins _ hb50
        have hh := hXb a
        exact ⟨a, _, A48, l48, c48, b52, rfl, by omega, by omega, hsσ.trans (e46.trans (o48.sub.trans e50)), hr14.sub (hs.trans (e46.trans (o48.sub.trans e50))), Bx1.ins.sub (o48.sub.trans e50), Bx1.ins, (show RdS [.int .i64] σ49 A48 l48 X from o48.rd).sub e50, hb52, rfl, Hp.Sub.refl _, [], 7000, rfl, rfl, by omega, by simp; omega⟩
      rintro n xs p55 p56 p57 σ3 ⟨c, σ1, A, n', c', b52, rfl, hc0, hcr, hs1, hf1, hp55, hp56, hXr, hb52, rfl, hsub, pre, ff, rfl, hway, hf, hpre⟩ _
      have hs13 : Hp.Sub σ1 σ3 := (Hp.Sub.ins _ hb52).trans hsub
      have hp57 : Bx1 σ3 (some ⟨b52, 0, none⟩) (.int .i64 c) := Bx1.ins.sub hsub
      refine hp57.ldI (bc_nd (fun hne => ?_) (fun he => ?_))
      · obtain ⟨w1, w2, w3, w4, w5⟩ := nxt_ok hok hXi hXf hcr.1 hcr.2 hne hc0
        refine (hp55.sub hs13).ldP (hp57.ldI ?_)
        refine clL M_ground_field_beside_enter (c_field_beside (hf1.sub hs13).toFdB ho hcr.1 hcr.2) ?_
        have hnl := nbr_len (g := F.g) (c := c)
        have hnin := nbr_in ho hcr.1 hcr.2
        intro A72 l72 c72 σ73 o72
        have hs73 := o72.sub
        have hrd : RdS [.int .i64] σ73 A72 l72 (F.g.nbr c) := o72.rd
        refine clI M_slices_IndexFunc_int_enter (c_IndexFunc_int (p := wayP F.g op X c) hrd (by omega) (Dec.of M_ground_Cable_1_enter fun k hk => ?_)) ?_
        · have kin := hnin k hk
          exact c_Cable_1 (hf1.sub (hs13.trans hs73)) hF (hp55.sub (hs13.trans hs73)) (hp56.sub (hs13.trans hs73)) (hp57.sub hs73) (hXr.sub (hs13.trans hs73)) hXl hXb hcr kin (hfree k kin.1 kin.2)
        refine adp_own o72 ⟨w1, w2, lat_I w1 w2 ?_⟩
        show dr _ _
        have h52 : σ3 b52 = some (.cells #[.int .i64 c] 3 (0, 0), true) := hsub _ _ (Hp.ins_same ..)
        refine dr_i ⟨⟨_, _, h52, by simp, rfl⟩, ?_⟩
        have hput : Bx1 (σ3.put ⟨b52, 0, none⟩ (.int .i64 (gt (F.g.nbr c) (fidx (wayP F.g op X c) (F.g.nbr c))))) (some ⟨b52, 0, none⟩) (.int .i64 (nxt F.g op X c)) := by
          refine ⟨b52, rfl, ?_⟩
          unfold Hp.cell?
          simp only [Hp.put_same h52]
          rfl
        have hs1p : Hp.Sub σ1 (σ3.put ⟨b52, 0, none⟩ (.int .i64 (gt (F.g.nbr c) (fidx (wayP F.g op X c) (F.g.nbr c))))) := by
          intro k x hx
          have : k ≠ b52 := fun e => by rw [e, hb52] at hx; cases hx
          rw [Hp.put_ne this]
          exact hs13 _ _ hx
        generalize σ3.put ⟨b52, 0, none⟩ (.int .i64 (gt (F.g.nbr c) (fidx (wayP F.g op X c) (F.g.nbr c)))) = σ82 at *
        refine hput.ldI (roomy_i ?_ (hput.ldI (bk_sub (gt X (nxt F.g op X c)).toNat ?_ hs1p ?_)))
        · simp only [List.length_append, List.length_cons, List.length_nil]; omega
        · omega
        · intro b91 hb91
          refine ⟨nxt F.g op X c, σ1, A, n', c', b91, rfl, w4, w3, hs1, hf1, hp55, hp56, hXr, hb91, rfl, Hp.Sub.refl _, pre ++ [c], ff - 1, rfl, ?_, ?_, ?_⟩
          · rw [← hway]
            obtain ⟨f', rfl⟩ : ∃ f', ff = f' + 1 := ⟨ff - 1, by omega⟩
            rw [wayF, if_neg hne]
            simp
          · omega
          · simp only [List.length_append, List.length_cons, List.length_nil]; omega
      · rw [h31]
        intro _
        refine (hp56.sub hs13).ldS (gixg (hXr.sub hs13) (by omega) (by omega) ?_)
        intro A33 l33 c33 σ34 o34
        have ew : pre ++ [c] = wayF F.g op X b 7000 a := by
          rw [← hway]
          cases ff with
          | zero => rfl
          | succ f => rw [wayF, if_pos he]
        rw [ew] at o34
        exact NewLII.base (hs1.trans hs13) o34
    refine ⟨fun n t xs σ' => n = 2 * Phi F.g xs + (if t = true then 1 else 0) ∧ Hp.Sub σ14 σ' ∧ CInv F.g op b xs ∧ Bd F.g xs ∧ ∃ r, xs = rnds F.g op r (ini F.g b) ∧ (t = false → rnd F.g op xs = xs), ⟨_, rfl, Hp.Sub.refl _, ini1, ini2, 0, rfl, fun h => by cases h⟩, ?_⟩
    rintro n t X0 σ' ⟨rfl, hs, hi1, hi2, r, hr, ht⟩ _
    cases t with
    | false =>
      refine bc_f ?_
      have hfix := ht rfl
      rw [hr] at hfix
      have := rnds_conv hok (by omega) ini1 hfix
      rw [hX] at this
      rw [hr, ← this]
      exact k26 _ hs
    | true =>
      refine bc_t ((hb14.sub hs).dC ?_)
      refine ⟨fun n t i xs σ' => ∃ k : Nat, n = F.g.C.length - k ∧ i = k ∧ k ≤ F.g.C.length ∧ xs = rndK F.g op k X0 ∧ Hp.Sub σ14 σ' ∧ CInv F.g op b xs ∧ Bd F.g xs ∧ (t = true → Phi F.g xs < Phi F.g X0) ∧ (t = false → xs = X0), ⟨_, 0, rfl, rfl, by omega, rfl, hs, hi1, hi2, fun h => by (cases h), fun _ => rfl⟩, ?_⟩
      rintro n t i xs σ' ⟨k, rfl, rfl, hk, rfl, hs, hi1, hi2, ht1, ht2⟩ _
      refine bc_d (fun hlt => ?_) (fun hlt => ?_)
      · have hkN : (k : Int) < F.g.C.length := by omega
        have hr5 := hr14.sub hs
        refine cut_intro fun J111 h111 => ?_
        have k111 : ∀ t xs σ', xs = rndK F.g op (k + 1) X0 → Hp.Sub σ14 σ' → CInv F.g op b xs → Bd F.g xs → (t = true → Phi F.g xs < Phi F.g X0) → (t = false → xs = X0) → J111 t xs σ' := by
          rintro t xs σ' rfl hs hi1 hi2 ht1 ht2
          rw [h111]
          intro _
          exact wk_i (by omega) (bk_of _ (by omega) ⟨k + 1, rfl, rfl, by omega, rfl, hs, hi1, hi2, ht1, ht2⟩)
        rw [rndK_succ] at k111
        generalize rndK F.g op k X0 = Z at *
        unfold rlxC at k111
        refine clB M_ground_field_free_enter (c_field_free hr5 hF (by omega) hkN) ?_
        rw [hfree k (by omega) hkN]
        refine bc_nb (fun hno => k111 _ _ _ (by rw [hno]; rfl) hs hi1 hi2 ht1 ht2) (fun hopk => ?_)
        rw [hopk] at k111
        refine clL M_ground_field_beside_enter (c_field_beside hr5.toFdB ho (by omega) hkN) ?_
        have hnl := nbr_len (g := F.g) (c := k)
        have hnin := nbr_in ho (c := k) (by omega) hkN
        refine ⟨fun n t i xs σ' => ∃ j : Nat, n = (F.g.nbr k).length - j ∧ i = j ∧ j ≤ (F.g.nbr k).length ∧ xs = ((F.g.nbr k).take j).foldl (rlx F.g op k) Z ∧ Hp.Sub σ14 σ' ∧ CInv F.g op b xs ∧ Bd F.g xs ∧ (t = true → Phi F.g xs < Phi F.g X0) ∧ (t = false → xs = X0), ⟨_, 0, rfl, rfl, by omega, rfl, hs, hi1, hi2, ht1, ht2⟩, ?_⟩
        rintro n t2 i xs σ' ⟨j, rfl, rfl, hj, hxs, hs, hi1, hi2, ht1, ht2⟩ _
        have hfin := fin_le (g := F.g) (X := xs)
        have hxl := hi1.len
        refine bc_d (fun hlt2 => ?_) (fun hlt2 => ?_)
        · have hjl : j < (F.g.nbr k).length := by omega
          have kin := hnin _ (gt_mem hjl)
          have knm := gt_mem hjl
          have hbk := hi2 (gt (F.g.nbr k) j)
          have s1 := stp_in hok (a := k) (b := gt (F.g.nbr k) j)
          have s2 := drn_in (g := F.g) (c := k)
          refine cut_intro fun J134 h134 => ?_
          have k134 : ∀ t ys, ys = rlx F.g op k xs (gt (F.g.nbr k) j) → (t = true → Phi F.g ys < Phi F.g X0) → (t = false → ys = X0) → J134 t ys σ' := by
            rintro t ys rfl ht1 ht2
            rw [h134]
            intro _
            refine wk_i (by omega) (bk_of _ (by omega) ⟨j + 1, rfl, rfl, by omega, ?_, hs, rlx_is.inv hok hi1 (by omega) hkN (by omega) hopk knm, rlx_is.bd hok hi1 (by omega) hkN hi2, ht1, ht2⟩)
            rw [take_fold hjl, ← hxs, gt_nat hjl]
          refine ⟨by omega, by omega, lat_I (by omega) (by omega) (cut_intro fun J143 h143 => cut_intro fun J162 h162 => ?_)⟩
          have k143 : 0 ≤ gt xs (gt (F.g.nbr k) j) → op (gt (F.g.nbr k) j) = true → J143 σ' := by
            intro hx hopn
            rw [rlx_pos hx hopn] at k134
            rw [h143]
            intro _
            refine ⟨kin.1, by omega, lat_I kin.1 (by omega) ?_⟩
            refine clIs M_ground_field_step_enter (c_field_step (hr14.sub hs).toFdB hok (by omega) hkN kin.1 kin.2) (wk_i (by omega) ?_)
            refine clIs M_ground_field_drain_enter (c_field_drain (hr14.sub hs).toFdB (by omega) hkN) (wk_i (by omega) ?_)
            refine cut_intro fun J155 h155 => ?_
            have k155 : ∀ t, t = decide (gt xs k < 0 ∨ gt xs (gt (F.g.nbr k) j) + F.g.stp k (gt (F.g.nbr k) j) + F.g.drn k < gt xs k) → J155 t σ' := by
              rintro t rfl
              rw [h155]
              intro _
              refine bc_d (fun hd => ⟨by omega, by omega, lat_I (by omega) (by omega) (k134 _ _ ?_ (fun _ => ?_) (fun h => by (cases h)))⟩) (fun hd => k134 _ _ ?_ ht1 ht2)
              · rw [if_pos hd]
              · have := Phi_set hok hi1 (c := k) (by omega) hkN hi2 hx hopn hd
                cases t2 with
                | true => have := ht1 rfl; simp only [Int.toNat_natCast] at *; omega
                | false => have := ht2 rfl; rw [← this]; exact Phi_set hok hi1 (c := k) (by omega) hkN hi2 hx hopn hd
              · rw [if_neg hd]
            refine ⟨by omega, by omega, lat_I (by omega) (by omega) (bc_d (fun h1 => k155 _ ?_) (fun h1 => ⟨by omega, by omega, lat_I (by omega) (by omega) (k155 _ ?_)⟩))⟩
            · simp [h1]
            · simp [h1]
          have k162 : ∀ t, t = !(decide (0 ≤ gt xs (gt (F.g.nbr k) j)) && op (gt (F.g.nbr k) j)) → J162 t σ' := by
            rintro t rfl
            rw [h162]
            intro _
            refine bc_nb (fun hn => k134 _ _ ?_ ht1 ht2) (fun hn => ?_)
            · unfold rlx
              rw [if_pos]
              cases e : op (gt (F.g.nbr k) j) with
              | false => exact .inr rfl
              | true => rw [e] at hn; simp at hn; exact .inl (by omega)
            · simp only [Bool.and_eq_true, decide_eq_true_eq] at hn
              exact k143 hn.1 hn.2
          refine ⟨kin.1, by omega, lat_I kin.1 (by omega) (bc_d (fun h1 => k162 _ ?_) (fun h1 => ?_))⟩
          · rw [decide_eq_false (by omega)]; rfl
          · refine clB M_ground_field_free_enter (c_field_free (hr14.sub hs) hF kin.1 kin.2) ?_
            rw [hfree _ kin.1 kin.2]
            refine k162 _ ?_
            rw [decide_eq_true (by omega), Bool.true_and]
        · have : j = (F.g.nbr k).length := by omega
          rw [this, List.take_length] at hxs
          exact k111 _ _ _ hxs hs hi1 hi2 ht1 ht2
      · have hkk : k = F.g.C.length := by omega
        refine bk_of (2 * Phi F.g (rndK F.g op k X0) + (if t = true then 1 else 0)) ?_ ⟨rfl, hs, hi1, hi2, r + 1, ?_, fun h => ?_⟩
        · cases t with
          | true => have := ht1 rfl; simp only [if_true]; omega
          | false => rw [ht2 rfl]; simp
        · rw [hkk, hr]; rfl
        · have h3 := ht2 h
          rw [h3]
          rw [hkk] at h3
          exact h3
  have k172 : ∀ t, t = !(op a && op b) → J172 t σ4 := by
    rintro t rfl
    rw [h172]
    intro _
    refine bc_nb (fun hn => rt_sub hs4 ⟨none, 0, 0, ?_, ?_⟩) (fun hn => ?_)
    · rw [if_pos (fun h => by simp [h.2.2.1, h.2.2.2] at hn)]
    · rw [if_pos (fun h => by simp [h.2.2.1, h.2.2.2] at hn)]; exact OwnSl.nil ..
    · simp only [Bool.and_eq_true] at hn
      exact k9 hn.1 hn.2
  refine clB M_ground_field_free_enter (c_field_free hr4 hF (by omega) (by omega)) ?_
  rw [hfree a (by omega) (by omega)]
  refine bc_nb (fun h => k172 _ (by rw [h]; rfl)) (fun h => ?_)
  refine clB M_ground_field_free_enter (c_field_free hr4 hF (by omega) (by omega)) ?_
  rw [hfree b (by omega) (by omega)]
  exact k172 _ (by rw [h]; rfl)
end Go.Proofs.Ytmpkiaghkhhlhaa

/- Contracts of layer 4: insertion sort. No conditions but those that each theorem names. -/
namespace Go.Proofs.Ytmpkiaghkhhlhaa
open Go.RowKit

/-! ### Insertion sort -/
def swp2 (xs : List Int) (j : Nat) : List Int := (xs.set (j + 1) (gt xs j)).set j (gt xs (j + 1 : Nat))
def insJ (cf : Int → Int → Int) : Nat → List Int → List Int
  | 0, xs => xs
  | j + 1, xs => if cf (gt xs (j + 1 : Nat)) (gt xs j) < 0 then insJ cf j (swp2 xs j) else xs
def insA (cf : Int → Int → Int) : Nat → List Int → List Int
  | 0, xs => xs
  | k + 1, xs => insJ cf k (insA cf k xs)
theorem swp2_len {xs : List Int} {j : Nat} : (swp2 xs j).length = xs.length := by simp [swp2]
theorem insJ_len {cf : Int → Int → Int} : ∀ (j : Nat) (xs : List Int), (insJ cf j xs).length = xs.length
  | 0, _ => rfl
  | j + 1, xs => by
    unfold insJ
    split
    · rw [insJ_len j, swp2_len]
    · rfl
theorem insA_len {cf : Int → Int → Int} {xs : List Int} : ∀ k : Nat, (insA cf k xs).length = xs.length
  | 0 => rfl
  | k + 1 => by unfold insA; rw [insJ_len, insA_len k]
/-- what holds of all elements -/
def AllI (P : Int → Prop) (xs : List Int) : Prop := ∀ i : Nat, i < xs.length → P (gt xs i)
theorem gtn_set {xs : List Int} {i c : Nat} {v : Int} (hi : i < xs.length) : gt (xs.set i v) c = if c = i then v else gt xs c := by
  have := gt_set' (xs := xs) (i := (i : Int)) (c := (c : Int)) (v := v) (by omega) (by omega)
  simp only [Int.toNat_natCast] at this
  exact this
theorem AllI.swp2 {P : Int → Prop} {xs : List Int} (h : AllI P xs) {j : Nat} (hj : j + 1 < xs.length) : AllI P (swp2 xs j) := by
  intro i hi
  rw [swp2_len] at hi
  unfold Go.Proofs.Ytmpkiaghkhhlhaa.swp2
  rw [gtn_set (by simp; omega), gtn_set (by omega)]
  split
  · exact h _ hj
  · split
    · exact h _ (by omega)
    · exact h _ hi
/-- a function's value that compares, on all that contains σ0 -/
def CmpI (f : Value) (cf : Int → Int → Int) (P : Int → Prop) (σ0 : Hp) : Prop := ∀ τ, Hp.Sub σ0 τ → ∀ a b, P a → P b → ∀ K : Int → Hp → Prop, K (cf a b) τ → cl Try.prog f #[.int .i64 a, .int .i64 b] τ fun v σ' => ∃ t : Int, (v = .int .i64 t ∧ K t σ')
theorem c_insertion {σ0 σ : Hp} {A : Option Addr} {n c : Nat} {xs : List Int} {f : Value} {cf : Int → Int → Int} {P : Int → Prop} (hf : CmpI f cf P σ0) (hP : AllI P xs) (ho : OwnSl 3 [.int .i64] σ0 A n c xs σ) (hl : xs.length ≤ 4294967296) :
    FCalls Try.prog N_slices_insertionSortCmpFunc_int #[.slice A n c, .int .i64 0, .int .i64 xs.length, f] σ fun _ σ' => OwnSl 3 [.int .i64] σ0 A n c (insA cf (max xs.length 1) xs) σ' := by
  refine M_slices_insertionSortCmpFunc_int_ok _ _ _ _ _ _ _ _ ?_
  unfold M_slices_insertionSortCmpFunc_int
  refine wk_i (by omega) ?_
  refine ⟨fun m i σ' => ∃ k : Nat, m = max xs.length 1 - k ∧ i = k ∧ 1 ≤ k ∧ k ≤ max xs.length 1 ∧ AllI P (insA cf k xs) ∧ ∃ σ1, OwnSl 3 [.int .i64] σ0 A n c (insA cf k xs) σ1 ∧ Hp.Sub σ1 σ', ⟨_, 1, rfl, rfl, by omega, by omega, hP, σ, ho, Hp.Sub.refl _⟩, ?_⟩
  rintro m i σ' ⟨k, rfl, rfl, hk1, hk, hPk, σ1, ho1, hs1⟩ _
  refine bc_d (fun hlt => ?_) (fun hlt => ?_)
  · have hkl : k < xs.length := by omega
    have hlen := insA_len (cf := cf) (xs := xs) k
    refine cut_intro fun J10 h10 => ?_
    have k10 : ∀ ys σ', ys = insA cf (k + 1) xs → AllI P ys → (∃ σ1, OwnSl 3 [.int .i64] σ0 A n c ys σ1 ∧ Hp.Sub σ1 σ') → J10 σ' := by
      rintro ys σ' rfl hP h
      rw [h10]
      intro _
      exact wk_i (by omega) (bk_of _ (by omega) ⟨k + 1, rfl, rfl, by omega, by omega, hP, h⟩)
    rw [insA] at k10
    generalize insA cf k xs = Z at *
    refine ⟨fun m i σ' => ∃ (j : Nat) (ys : List Int), m = j ∧ i = j ∧ j < xs.length ∧ ys.length = xs.length ∧ insJ cf j ys = insJ cf k Z ∧ AllI P ys ∧ ∃ σ1, OwnSl 3 [.int .i64] σ0 A n c ys σ1 ∧ Hp.Sub σ1 σ', ⟨_, k, Z, rfl, rfl, hkl, hlen, rfl, hPk, σ1, ho1, hs1⟩, ?_⟩
    rintro m i σ' ⟨j, ys, rfl, rfl, hj, hyl, hins, hPy, σ2, ho2, hs2⟩ _
    refine cut_intro fun J21 h21 => cut_intro fun J41 h41 => ?_
    have hrd : RdS [.int .i64] σ' A n ys := ho2.rd.sub hs2
    have hn : n = xs.length := by have := hrd.lenI; omega
    cases m with
    | zero =>
      refine bc_d (fun h => by omega) (fun _ => ?_)
      rw [h41]
      exact fun _ => bc_f (k10 _ _ hins hPy ⟨σ2, ho2, hs2⟩)
    | succ j =>
      have e1 : ((j + 1 : Nat) : Int) - 1 = (j : Nat) := by omega
      refine bc_d (fun _ => ?_) (fun h => by omega)
      refine gixg hrd (by omega) (by omega) (wk_i (by omega) ?_)
      rw [e1]
      refine gixg hrd (by omega) (by omega) (hf _ (ho2.sub.trans hs2) _ _ (hPy _ (by omega)) (hPy _ (by omega)) _ ?_)
      rw [h41]
      intro _
      refine bc_d (fun hc => ?_) (fun hc => k10 ys _ ?_ hPy ⟨σ2, ho2, hs2⟩)
      · rw [h21]
        intro _
        refine wk_i (by omega) (wk_i (by omega) ?_)
        rw [e1]
        refine gixg hrd (by omega) (by omega) (gixg hrd (by omega) (by omega) ?_)
        refine ho2.ix_stI hs2 (by omega) (by omega) fun σ3 τ3 ho3 hs3 => ?_
        refine ho3.ix_stI hs3 (by omega) (by simp; omega) fun σ4 τ4 ho4 hs4 => ?_
        refine wk_i (by omega) (bk_of j (by omega) ⟨j, swp2 ys j, rfl, by omega, by omega, by rw [swp2_len, hyl], ?_, hPy.swp2 (by omega), σ4, ?_, hs4⟩)
        · rw [← hins, insJ, if_pos hc]
        · simpa [swp2] using ho4
      · rw [← hins, insJ, if_neg hc]
  · have : k = max xs.length 1 := by omega
    rw [this] at ho1
    exact rt_sub hs1 ho1
theorem c_SortStable {σ0 σ : Hp} {A : Option Addr} {n c : Nat} {xs : List Int} {f : Value} {cf : Int → Int → Int} {P : Int → Prop} (hf : CmpI f cf P σ0) (hP : AllI P xs) (ho : OwnSl 3 [.int .i64] σ0 A n c xs σ) (hl : xs.length ≤ 8) :
    FCalls Try.prog N_slices_SortStableFunc_int #[.slice A n c, f] σ fun _ σ' => OwnSl 3 [.int .i64] σ0 A n c (insA cf (max xs.length 1) xs) σ' := by
  refine M_slices_SortStableFunc_int_ok _ _ _ _ _ _ ?_
  unfold M_slices_SortStableFunc_int
  have hn : n = xs.length := ho.len
  subst hn
  refine cl_of M_slices_stableCmpFunc_int_enter (R := fun _ σ' => OwnSl 3 [.int .i64] σ0 A xs.length c (insA cf (max xs.length 1) xs) σ') ?_ fun v σ' h => rt_of h
  refine M_slices_stableCmpFunc_int_ok _ _ _ _ _ _ _ ?_
  unfold M_slices_stableCmpFunc_int
  refine cut_intro fun J3 h3 => ?_
  refine ⟨fun m i j σ' => i = 0 ∧ j = 20 ∧ σ' = σ, ⟨0, rfl, rfl, rfl⟩, ?_⟩
  rintro m i j σ' ⟨rfl, rfl, rfl⟩ _
  refine bc_d (fun h => by omega) (fun _ => ?_)
  rw [h3]
  intro _
  refine cl_of M_slices_insertionSortCmpFunc_int_enter (c_insertion hf hP ho (by omega)) fun v σ2 h2 => ?_
  refine ⟨fun m i σ' => i = 20 ∧ σ' = σ2, ⟨0, rfl, rfl⟩, ?_⟩
  rintro m i σ' ⟨rfl, rfl⟩ _
  exact bc_d (fun h => by omega) (fun _ => rt_of h2)
end Go.Proofs.Ytmpkiaghkhhlhaa

/- Contracts of layer 4: where, as an iterator. No conditions but those that each theorem names. -/
namespace Go.Proofs.Ytmpkiaghkhhlhaa
open Go.RowKit

theorem FEnt.of {P : Program} {g : FuncId} {caps args : Array Value} {σ : Hp} {R : Value → Hp → Prop} (he : enterB P g = true) (h : FCalls P g (app3 #[] args caps) σ R) : FEnt P (.func (.func g) #[] caps) args σ R := fun σc hs => ⟨he, h σc hs⟩
/-- the k-th site that is tried -/
def cand (k : Nat) : Sit := (((k / 2 : Nat) : Int), decide (k % 2 = 1))
theorem c_where_1 {σ : Hp} {y : Value} {cap0 cap1 f : Option Addr} {V : FA} {F : Fd} {p : Int} {I : Nat → Hp → Prop} {Q : Hp → Prop} (hF : F.ok) (p0 : 0 ≤ p) (p1 : p < F.l.length)
    (hI : ∀ i τ, I i τ → FdR τ f V F ∧ Bx1 τ cap0 (.pointer f) ∧ Bx1 τ cap1 (.int .i64 p))
    (hno : ∀ i τ, i < 2 * F.g.C.length → I i τ → F.g.fit (pt F.l p) (cand i) F.bare = false → I (i + 1) τ)
    (hyes : ∀ i τ, i < 2 * F.g.C.length → I i τ → F.g.fit (pt F.l p) (cand i) F.bare = true → FFun Try.prog y #[sv (cand i)] τ fun v τ' => ∃ t : Bool, v = .bool t ∧ (t = true → I (i + 1) τ') ∧ (t = false → Q τ'))
    (h0 : I 0 σ) : FCalls Try.prog N_ground_field_where_1 #[y, .pointer cap0, .pointer cap1] σ fun _ σ' => I (2 * F.g.C.length) σ' ∨ Q σ' := by
  refine M_ground_field_where_1_ok _ _ _ _ _ ?_
  unfold M_ground_field_where_1
  obtain ⟨l1, l2, l3⟩ := hF.len
  obtain ⟨a1, a2, a3⟩ := hI 0 σ h0
  have hcn := a1.cn
  refine a2.ldP (a1.dC ?_)
  refine ⟨fun m i τ => ∃ k : Nat, m = F.g.C.length - k ∧ i = k ∧ k ≤ F.g.C.length ∧ I (2 * k) τ, ⟨_, 0, rfl, rfl, by omega, h0⟩, ?_⟩
  rintro m i τ ⟨k, rfl, rfl, hk, hIk⟩ _
  refine bc_d (fun hlt => ?_) (fun hlt => ?_)
  · have hkl : k < F.g.C.length := by omega
    refine cut_intro fun J15 h15 => ?_
    refine ⟨fun m j τ => ∃ e : Nat, m = 2 - e ∧ j = e ∧ e ≤ 2 ∧ I (2 * k + e) τ, ⟨_, 0, rfl, rfl, by omega, hIk⟩, ?_⟩
    rintro m j τ ⟨e, rfl, rfl, he, hIe⟩ _
    refine bc_d (fun hlt2 => ?_) (fun hlt2 => ?_)
    · have he2 : e < 2 := by omega
      refine cut_intro fun J26 h26 => ⟨by omega, by omega, decide (e = 1), ?_, ?_⟩
      · have : e = 0 ∨ e = 1 := by omega
        rcases this with rfl | rfl <;> rfl
      refine cut_intro fun J33 h33 => ?_
      have ec : cand (2 * k + e) = ((k : Int), decide (e = 1)) := by
        unfold cand
        have h1 : (2 * k + e) / 2 = k := by omega
        have h2 : (2 * k + e) % 2 = e := by omega
        rw [h1, h2]
      have k26 : ∀ τ, I (2 * k + (e + 1)) τ → J26 τ := by
        intro τ h
        rw [h26]
        intro _
        exact wk_i (by omega) (bk_of _ (by omega) ⟨e + 1, rfl, rfl, by omega, h⟩)
      obtain ⟨b1, b2, b3⟩ := hI _ τ hIe
      refine b2.ldP (b3.ldI ?_)
      refine clB M_ground_field_fits_enter (c_field_fits (s := ((k : Int), decide (e = 1))) b1 hF p0 p1) ?_
      have hy := hyes (2 * k + e) τ (by omega) hIe
      have hn := hno (2 * k + e) τ (by omega) hIe
      rw [ec] at hy hn
      refine bc_b (fun hfit => ?_) (fun hfit => ?_)
      · refine FFun.mono (hy hfit) ?_
        rintro v τ' ⟨t, rfl, ht, hq⟩
        refine ⟨t, rfl, ?_⟩
        rw [h33]
        intro _
        exact bc_nb (fun h => rt_of (.inr (hq h))) (fun h => k26 _ (ht h))
      · rw [h33]
        exact fun _ => bc_f (k26 _ (hn hfit))
    · have : e = 2 := by omega
      subst this
      rw [h15]
      intro _
      exact wk_i (by omega) (bk_of _ (by omega) ⟨k + 1, rfl, rfl, by omega, hIe⟩)
  · have : k = F.g.C.length := by omega
    subst this
    exact rt_of (.inl hIk)
end Go.Proofs.Ytmpkiaghkhhlhaa

/- Contracts of layer 4: what Award does, as a function on lists. No conditions but those that each theorem names. -/
namespace Go.Proofs.Ytmpkiaghkhhlhaa
open Go.RowKit

/-! ### Award, as the program does it -/
def stA (F : Fd) (p : Int) (w : Int) : Nat → Sit × Bool × Bool
  | 0 => ((-1, false), false, false)
  | i + 1 => if (stA F p w i).2.2 = true then stA F p w i else if F.g.fit (pt F.l p) (cand i) F.bare = true ∧ ((cand i).1 = w ∨ (stA F p w i).2.1 = false) then (cand i, true, decide ((cand i).1 = w)) else stA F p w i
theorem stA_done {F : Fd} {p w : Int} {j : Nat} (h : (stA F p w j).2.2 = true) : ∀ i, j ≤ i → stA F p w i = stA F p w j
  | 0, hi => by
    have : j = 0 := by omega
    subst this
    rfl
  | i + 1, hi => by
    rcases Nat.lt_or_ge j (i + 1) with hlt | hge
    · have := stA_done h i (by omega)
      rw [stA, if_pos (by rw [this]; exact h), this]
    · have : j = i + 1 := by omega
      subst this
      rfl
def awStep (F : Fd) (p : Int) : Fd := if (stA F p (pt F.l p).2.2.2.2 (2 * F.g.C.length)).2.1 = true then F.put p (stA F p (pt F.l p).2.2.2.2 (2 * F.g.C.length)).1 else F
def yearsC (l : List Pit) (a b : Int) : Int := (pt l b).2.2.2.1 - (pt l a).2.2.2.1
def order (l : List Pit) : List Int := insA (yearsC l) (max l.length 1) ((List.range l.length).map fun i : Nat => (i : Int))
def awF (g : Gnd) (l : List Pit) : Fd := (order l).foldl awStep (fd0 g l)
theorem pix3 {σ : Hp} {A : Option Addr} {n : Nat} {xs : List Pit} {i : Int} {K : Int → Prop} (h : RdS sP σ A n xs) (hi : 0 ≤ i) (hn : i < xs.length) (hk : K (pt xs i).2.2.2.1) : ix A n i 5 fun b a => ldI σ .i64 b (a + 3) K := by
  have h' : i.toNat < xs.length := by omega
  rw [pt_eq h'] at hk
  refine ix_of (ss := sP) h rfl hi h' fun b o hc => ?_
  exact ldI_of (hc 3 (by decide)) hk
theorem pix4 {σ : Hp} {A : Option Addr} {n : Nat} {xs : List Pit} {i : Int} {K : Int → Prop} (h : RdS sP σ A n xs) (hi : 0 ≤ i) (hn : i < xs.length) (hk : K (pt xs i).2.2.2.2) : ix A n i 5 fun b a => ldI σ .i64 b (a + 4) K := by
  have h' : i.toNat < xs.length := by omega
  rw [pt_eq h'] at hk
  refine ix_of (ss := sP) h rfl hi h' fun b o hc => ?_
  exact ldI_of (hc 4 (by decide)) hk
theorem c_Award_1 {σ : Hp} {cap0 A : Option Addr} {n c : Nat} {l : List Pit} {a b : Int} (h : Bx1 σ cap0 (.slice A n c)) (hl : RdS sP σ A n l) (hp : ∀ i, (h : i < l.length) → -1000000 ≤ l[i].2.2.2.1 ∧ l[i].2.2.2.1 ≤ 1000000) (ha : 0 ≤ a ∧ a < l.length) (hb : 0 ≤ b ∧ b < l.length) :
    FCalls Try.prog N_ground_Award_1 #[.int .i64 a, .int .i64 b, .pointer cap0] σ fun v σ' => v = .int .i64 (yearsC l a b) ∧ σ' = σ := by
  refine M_ground_Award_1_ok _ _ _ _ _ ?_
  unfold M_ground_Award_1
  have h1 := hp a.toNat (by omega)
  have h2 := hp b.toNat (by omega)
  rw [← pt_eq] at h1 h2
  exact h.ldS (pix3 hl hb.1 hb.2 (h.ldS (pix3 hl ha.1 ha.2 (wk_i (by omega) (rt_of ⟨rfl, rfl⟩)))))
theorem c_where {σ : Hp} {f : Option Addr} {p : Int} : FCalls Try.prog N_ground_field_where #[.pointer f, .int .i64 p] σ fun v σ' => ∃ c0 c1, v = .func (.func N_ground_field_where_1) #[] #[.pointer c0, .pointer c1] ∧ Hp.Sub σ σ' ∧ Bx1 σ' c0 (.pointer f) ∧ Bx1 σ' c1 (.int .i64 p) := by
  refine M_ground_field_where_ok _ _ _ _ ?_
  unfold M_ground_field_where
  intro b1 h1 b3 h3
  exact rt_of ⟨_, _, rfl, (Hp.Sub.ins _ h1).trans (Hp.Sub.ins _ h3), Bx1.ins.sub (Hp.Sub.ins _ h3), Bx1.ins⟩
/-- the heap while the sites are gone through -/
structure AwH (σb : Hp) (b57 b59 b61 l : Nat) (p : Int) (r : Obj) (best : Sit) (found : Bool) (τ : Hp) : Prop where
  sub : Hp.Sub σb τ
  h57 : τ b57 = some (.cells #[.int .i64 p] 3 (0, 0), true)
  h59 : τ b59 = some (.cells #[.int .i64 best.1, .bool best.2] 50 (0, 0), true)
  h61 : τ b61 = some (.cells #[.bool found] 4 (0, 0), true)
  hl : τ l = some (r, true)
structure AwN (σb : Hp) (b57 b59 b61 l : Nat) : Prop where
  n57 : σb b57 = none
  n59 : σb b59 = none
  n61 : σb b61 = none
  nl : σb l = none
  d1 : b57 ≠ b59
  d2 : b57 ≠ b61
  d3 : b59 ≠ b61
  d4 : l ≠ b57
  d5 : l ≠ b59
  d6 : l ≠ b61
section
variable {σb : Hp} {b57 b59 b61 l : Nat} {p : Int} {r : Obj} {best : Sit} {found : Bool} {τ : Hp}
theorem AwH.recs (h : AwH σb b57 b59 b61 l p r best found τ) (n : AwN σb b57 b59 b61 l) (r' : Obj) : AwH σb b57 b59 b61 l p r' best found (τ.ins l r') := by
  refine ⟨fun k x hx => ?_, ?_, ?_, ?_, Hp.ins_same ..⟩
  · have : k ≠ l := fun e => by rw [e, n.nl] at hx; cases hx
    rw [Hp.ins_ne _ this]; exact h.sub _ _ hx
  · rw [Hp.ins_ne _ n.d4.symm]; exact h.h57
  · rw [Hp.ins_ne _ n.d5.symm]; exact h.h59
  · rw [Hp.ins_ne _ n.d6.symm]; exact h.h61
theorem AwH.set (h : AwH σb b57 b59 b61 l p r best found τ) (n : AwN σb b57 b59 b61 l) {s : Sit} {K : Hp → Prop} (hk : ∀ τ', AwH σb b57 b59 b61 l p r s true τ' → K τ') :
    st τ b59 0 (.int .i64 s.1) fun τ1 => st τ1 b59 1 (.bool s.2) fun τ2 => st τ2 b61 0 (.bool true) K := by
  have e1 : τ.put ⟨b59, 0, none⟩ (.int .i64 s.1) b59 = some (.cells #[.int .i64 s.1, .bool best.2] 50 (0, 0), true) := Hp.put_same h.h59
  have e2 : (τ.put ⟨b59, 0, none⟩ (.int .i64 s.1)).put ⟨b59, 1, none⟩ (.bool s.2) b59 = some (.cells #[.int .i64 s.1, .bool s.2] 50 (0, 0), true) := Hp.put_same e1
  have e3 : (τ.put ⟨b59, 0, none⟩ (.int .i64 s.1)).put ⟨b59, 1, none⟩ (.bool s.2) b61 = some (.cells #[.bool found] 4 (0, 0), true) := by
    rw [Hp.put_ne n.d3.symm, Hp.put_ne n.d3.symm]; exact h.h61
  refine ⟨⟨_, _, h.h59, by simp, rfl⟩, ⟨_, _, e1, by simp, rfl⟩, ⟨_, _, e3, by simp, rfl⟩, hk _ ⟨fun k x hx => ?_, ?_, ?_, Hp.put_same e3, ?_⟩⟩
  · have k1 : k ≠ b59 := fun e => by rw [e, n.n59] at hx; cases hx
    have k2 : k ≠ b61 := fun e => by rw [e, n.n61] at hx; cases hx
    rw [Hp.put_ne k2, Hp.put_ne k1, Hp.put_ne k1]; exact h.sub _ _ hx
  · rw [Hp.put_ne n.d2, Hp.put_ne n.d1, Hp.put_ne n.d1]; exact h.h57
  · rw [Hp.put_ne n.d3]; exact e2
  · rw [Hp.put_ne n.d6, Hp.put_ne n.d5, Hp.put_ne n.d5]; exact h.hl
theorem cells_get {b i : Nat} {cs : Array Value} {e : TypeId} {rw' : Bool} {f : Nat × Nat} {v : Value} (h : τ b = some (.cells cs e f, rw')) (hv : cs[i]? = some v) : τ.cell? ⟨b, i, none⟩ = some v := by
  unfold Hp.cell?
  simp only [h]
  exact hv
end
theorem idK {N k : Nat} (h : k < N) : (((List.range k).map fun i : Nat => (i : Int)) ++ List.replicate (N - k) 0).set k k = ((List.range (k + 1)).map fun i : Nat => (i : Int)) ++ List.replicate (N - (k + 1)) 0 := by
  rw [List.set_append_right _ _ (by simp)]
  have e : List.replicate (N - k) (0 : Int) = 0 :: List.replicate (N - (k + 1)) 0 := by
    rw [← List.replicate_succ]
    congr 1
    omega
  rw [e, List.range_succ]
  simp
/-- what hands back sites and an error -/
def NewS (σ : Hp) (xs : List Sit) (e : Int) : Value → Hp → Prop := fun v σ' => ∃ A n c, v = .tuple #[.slice A n c, .int .i64 e] ∧ OwnSl 50 sS σ A n c xs σ'
theorem awStep_ok {F : Fd} (h : F.ok) (p : Int) : (awStep F p).ok ∧ (awStep F p).g = F.g ∧ (awStep F p).l = F.l := by
  unfold awStep
  split
  · exact ⟨h.put _ _, rfl, rfl⟩
  · exact ⟨h, rfl, rfl⟩
end Go.Proofs.Ytmpkiaghkhhlhaa

/- Contracts of layer 4: ground.Award. No conditions but those that each theorem names. -/
namespace Go.Proofs.Ytmpkiaghkhhlhaa
open Go.RowKit

theorem foldAw_ok {F : Fd} (h : F.ok) : ∀ (ps : List Int), (ps.foldl awStep F).ok ∧ (ps.foldl awStep F).g = F.g ∧ (ps.foldl awStep F).l = F.l := by
  intro ps
  induction ps generalizing F with
  | nil => exact ⟨h, rfl, rfl⟩
  | cons p ps ih =>
    obtain ⟨a1, a2, a3⟩ := awStep_ok h p
    obtain ⟨b1, b2, b3⟩ := ih a1
    exact ⟨b1, b2.trans a2, b3.trans a3⟩
theorem AllI_insJ {cf : Int → Int → Int} {P : Int → Prop} : ∀ (j : Nat) {xs : List Int}, j < xs.length ∨ j = 0 → AllI P xs → AllI P (insJ cf j xs)
  | 0, _, _, h => h
  | j + 1, xs, hj, h => by
    unfold insJ
    split
    · exact AllI_insJ j (.inl (by rw [swp2_len]; omega)) (h.swp2 (by omega))
    · exact h
theorem AllI_insA {cf : Int → Int → Int} {P : Int → Prop} {xs : List Int} (h : AllI P xs) : ∀ k : Nat, k ≤ max xs.length 1 → AllI P (insA cf k xs)
  | 0, _ => h
  | k + 1, hk => by
    unfold insA
    exact AllI_insJ k (by rw [insA_len]; omega) (AllI_insA h k (by omega))
theorem FdW.box {σ0 σ : Hp} {f : Option Addr} {V : FA} {F : Fd} (h : FdW σ0 σ f V F) {b : Nat} (hb : σ b = none) (o : Obj) : FdW (σ0.ins b o) (σ.ins b o) f V F := by
  have hb0 := h.base.none hb
  obtain ⟨h0, σ1, σ2, h1, h2, h3⟩ := h
  have hb2 := h3.none hb
  have hb1 := h2.sub.none hb2
  exact ⟨h0.sub (Hp.Sub.ins _ hb0), _, _, h1.ins_base hb1 _, h2.ins_base hb2 _, h3.ins_both b _⟩
theorem c_Award {σ : Hp} {x : GV} {g : Gnd} {lA : Option Addr} {ln lc : Nat} {l : List Pit} (hg : GRd σ x g) (hl : RdS sP σ lA ln l) (hch : (chkP g l).2 = 0) :
    FCalls Try.prog N_ground_Award #[x.v g, .slice lA ln lc] σ (NewS σ (awF g l).st 0) := by
  refine M_ground_Award_ok _ _ _ _ _ _ _ _ _ _ _ _ _ ?_
  unfold M_ground_Award
  have hln := hl.lenP
  obtain ⟨hok, h8, hp, h00⟩ := chkP_ok hch
  refine cl_of M_ground_empty_enter (c_empty hg hl) ?_
  rintro v σ2 (⟨hne, rfl, rfl⟩ | ⟨_, f, V, σ0, rfl, hs0, hfw⟩)
  · exact absurd hch hne
  refine ⟨_, _, _, rfl, bc_nd (fun h => absurd hch h) (fun _ => ⟨by omega, by omega, by omega, cut_intro fun J8 h8' => ?_⟩)⟩
  have hs2 : Hp.Sub σ σ2 := hs0.trans hfw.base
  have hF0 := fd0_ok hch
  refine ⟨fun m i xs τ => ∃ k : Nat, m = l.length - k ∧ i = k ∧ k ≤ l.length ∧ xs = ((List.range k).map fun i : Nat => (i : Int)) ++ List.replicate (l.length - k) 0 ∧ τ = σ2, ⟨_, 0, rfl, rfl, by omega, by simp [hln], rfl⟩, ?_⟩
  rintro m i xs τ ⟨k, rfl, rfl, hk, rfl, rfl⟩ _
  have hrepl : ((List.length (List.replicate (((ln : Nat) : Int) : Int).toNat 0 : List Int) : Nat) : Int) = l.length := by rw [List.length_replicate]; omega
  rw [hrepl]
  refine bc_d (fun hlt => ⟨by omega, ?_, lat_I (by omega) ?_ ?_⟩) (fun hlt => ?_)
  · simp; omega
  · simp; omega
  · refine wk_i (by omega) (bk_of _ ?_ ⟨k + 1, rfl, rfl, by omega, ?_, rfl⟩)
    · omega
    · simp only [Int.toNat_natCast]
      exact idK (by omega)
  have hkk : k = l.length := by omega
  rw [h8', hkk]
  intro _
  simp only [Nat.sub_self, List.replicate_zero, List.append_nil]
  intro b10 hb10 A12 l12 c12 σ13 o13
  have e10 : Hp.Sub τ (τ.ins b10 (.cells #[.slice lA ln lc] 25)) := Hp.Sub.ins _ hb10
  have hbx : Bx1 (τ.ins b10 (.cells #[.slice lA ln lc] 25)) (some ⟨b10, 0, none⟩) (.slice lA ln lc) := Bx1.ins
  have hlx := hl.sub (hs2.trans e10)
  have hyr : ∀ i, (h : i < l.length) → -1000000 ≤ l[i].2.2.2.1 ∧ l[i].2.2.2.1 ≤ 1000000 := by
    intro i hi
    have := of_decide_eq_true (hp i hi)
    omega
  have hcmp : CmpI (.func (.func N_ground_Award_1) #[] #[.pointer (some ⟨b10, 0, none⟩)]) (yearsC l) (fun a => 0 ≤ a ∧ a < l.length) (τ.ins b10 (.cells #[.slice lA ln lc] 25)) := by
    intro τ' hs a b ha hb K hK
    exact FFun.func M_ground_Award_1_enter ((c_Award_1 (hbx.sub hs) (hlx.sub hs) hyr ha hb).mono fun _ _ ⟨e1, e2⟩ => by subst e1; subst e2; exact ⟨_, rfl, hK⟩)
  have hall : AllI (fun a => 0 ≤ a ∧ a < l.length) ((List.range l.length).map fun i : Nat => (i : Int)) := by
    intro i hi
    rw [gt_nat hi]
    simp at hi ⊢
    omega
  have hlr : ((List.range l.length).map fun i : Nat => (i : Int)).length = l.length := by simp
  refine cl_of M_slices_SortStableFunc_int_enter (c_SortStable hcmp hall o13 (by omega)) fun v14 σ15 o15 => ?_
  rw [hlr] at o15
  refine adp_own o15 ?_
  have hfw1 := hfw.box hb10 (.cells #[.slice lA ln lc] 25)
  have hb0 := hfw.base.none hb10
  have hsσ : Hp.Sub σ (σ0.ins b10 (.cells #[.slice lA ln lc] 25)) := hs0.trans (Hp.Sub.ins _ hb0)
  have hbx0 : Bx1 (σ0.ins b10 (.cells #[.slice lA ln lc] 25)) (some ⟨b10, 0, none⟩) (.slice lA ln lc) := Bx1.ins
  generalize σ0.ins b10 (.cells #[.slice lA ln lc] 25) = σB at *
  generalize τ.ins b10 (.cells #[.slice lA ln lc] 25) = σ17 at *
  show cut _ _
  have hord : insA (yearsC l) (max l.length 1) (List.map (fun i : Nat => (i : Int)) (List.range l.length)) = order l := rfl
  rw [hord]
  have hoall : AllI (fun a => 0 ≤ a ∧ a < l.length) (order l) := AllI_insA hall _ (by rw [hlr]; omega)
  have holen : (order l).length = l.length := by unfold order; rw [insA_len, hlr]
  refine cut_intro fun J20 h20 => ?_
  refine ⟨fun m i σ' => ∃ k : Nat, m = (order l).length - k ∧ i = k ∧ k ≤ (order l).length ∧ FdW σB σ' f V (((order l).take k).foldl awStep (fd0 g l)), ⟨_, 0, rfl, rfl, by omega, hfw1⟩, ?_⟩
  rintro m i σ25 ⟨k, rfl, rfl, hk, hfk⟩ _
  refine bc_d (fun hlt => ?_) (fun hlt => ?_)
  · have hkl : k < (order l).length := by omega
    refine cut_intro fun J31 h31 => ⟨by omega, by omega, lat_I (by omega) (by omega) ?_⟩
    have hpr := hoall k hkl
    have k31 : ∀ σ', FdW σB σ' f V (awStep (((order l).take k).foldl awStep (fd0 g l)) (gt (order l) k)) → J31 σ' := by
      intro σ' h
      rw [h31]
      intro _
      refine wk_i (by omega) (bk_of _ (by omega) ⟨k + 1, rfl, rfl, by omega, ?_⟩)
      rw [take_fold hkl, ← gt_nat hkl]
      exact h
    obtain ⟨hFk, egk, elk⟩ := foldAw_ok hF0 ((order l).take k)
    generalize ((order l).take k).foldl awStep (fd0 g l) = F at *
    generalize gt (order l) k = p at *
    have eg : F.g = g := egk
    have el : F.l = l := elk
    refine cut_intro fun J38 h38 => ?_
    refine cl_of M_ground_field_where_enter c_where ?_
    rintro v54 σ55 ⟨c0, c1, rfl, hs55, hc0, hc1⟩
    refine ⟨_, rfl, ?_⟩
    intro b57 n57 b59 n59 b61 n61
    obtain ⟨d1, n59'⟩ := ins_eq_none n59
    obtain ⟨d3, n61'⟩ := ins_eq_none n61
    obtain ⟨d2, n61''⟩ := ins_eq_none n61'
    have hW : (pt F.l p).2.2.2.2 = (pt l p).2.2.2.2 := by rw [el]
    generalize hw : (pt l p).2.2.2.2 = w at *
    have k38 : ∀ lb r best found τ, AwN σ55 b57 b59 b61 lb → AwH σ55 b57 b59 b61 lb p r best found τ → (stA F p w (2 * F.g.C.length)).1 = best → (stA F p w (2 * F.g.C.length)).2.1 = found → J38 (some ⟨b57, 0, none⟩) (some ⟨b59, 0, none⟩) (some ⟨b61, 0, none⟩) τ := by
      rintro lb r best found τ hN hA rfl rfl
      have hfτ : FdW σB τ f V F := hfk.less (hs55.trans hA.sub)
      unfold awStep at k31
      rw [hW] at k31
      rw [h38]
      intro _
      refine dr_i (ldB_of (cells_get hA.h61 rfl) (bc_b (fun hfd => ?_) (fun hfd => ?_)))
      · rw [if_pos hfd] at k31
        refine dr_i (ldI_of (cells_get hA.h57 rfl) (dr_i (ldI_of (cells_get hA.h59 rfl) (ldB_of (cells_get hA.h59 rfl) ?_))))
        exact cl_of M_ground_field_put_enter (c_put (s := (stA F p w (2 * F.g.C.length)).1) hfτ hFk hpr.1 (by rw [el]; exact hpr.2)) fun v σ' h => k31 _ h
      · rw [if_neg (by rw [hfd]; simp)] at k31
        exact k31 _ hfτ
    intro lb Rec hlb hcall
    obtain ⟨d6, hlb'⟩ := ins_eq_none hlb
    obtain ⟨d5, hlb''⟩ := ins_eq_none hlb'
    obtain ⟨d4, hlb3⟩ := ins_eq_none hlb''
    have hN : AwN σ55 b57 b59 b61 lb := ⟨n57, n59', n61'', hlb3, d1.symm, d2.symm, d3.symm, d4, d5, d6⟩
    have hA0 : AwH σ55 b57 b59 b61 lb p (Rec .ready none) (-1, false) false ((((σ55.ins b57 (.cells #[.int .i64 p] 3)).ins b59 (.cells #[.int .i64 (-1), .bool false] 50)).ins b61 (.cells #[.bool false] 4)).ins lb (Rec .ready none)) := by
      refine ⟨((Hp.Sub.ins _ n57).trans (Hp.Sub.ins _ n59)).trans ((Hp.Sub.ins _ n61).trans (Hp.Sub.ins _ hlb)), ?_, ?_, ?_, Hp.ins_same ..⟩
      · rw [Hp.ins_ne _ d4.symm, Hp.ins_ne _ d2.symm, Hp.ins_ne _ d1.symm, Hp.ins_same]
      · rw [Hp.ins_ne _ d5.symm, Hp.ins_ne _ d3.symm, Hp.ins_same]
      · rw [Hp.ins_ne _ d6.symm, Hp.ins_same]
    have hf55 := hfk.r.sub hs55
    refine FEnt.of M_ground_field_where_1_enter (FCalls.mono (c_where_1 (y := .func (.yield lb) #[] #[]) (f := f) (V := V) (F := F) (p := p)
      (I := fun i τ => (stA F p w i).2.2 = false ∧ AwH σ55 b57 b59 b61 lb p (Rec .ready none) (stA F p w i).1 (stA F p w i).2.1 τ)
      (Q := fun τ => ∃ j, j ≤ 2 * F.g.C.length ∧ (stA F p w j).2.2 = true ∧ AwH σ55 b57 b59 b61 lb p (Rec .done (some (.exit 4))) (stA F p w j).1 (stA F p w j).2.1 τ)
      hFk hpr.1 (by rw [el]; exact hpr.2) (fun i τ h => ⟨hf55.sub h.2.sub, hc0.sub h.2.sub, hc1.sub h.2.sub⟩) (fun i τ hi h hfit => ?_) (fun i τ hi h hfit => ?_) ⟨rfl, hA0⟩) ?_)
    · have : stA F p w (i + 1) = stA F p w i := by rw [stA, if_neg (by rw [h.1]; simp), if_neg (by rw [hfit]; simp)]
      rw [this]
      exact h
    · obtain ⟨hd, hA⟩ := h
      refine hcall _ _ _ hA.hl ⟨(cand i).1, (cand i).2, rfl, fun _ => ⟨hA.hl, ?_⟩⟩
      have hA1 := hA.recs hN (Rec .busy none)
      generalize τ.ins lb (Rec .busy none) = τ1 at *
      have hsB : Hp.Sub σB τ1 := hfk.base.trans (hs55.trans hA1.sub)
      obtain ⟨bb, hbb, hcell⟩ := hbx0.sub hsB
      cases hbb
      have hlτ := hl.sub (hsσ.trans hsB)
      refine ldS_of hcell (ldI_of (cells_get hA1.h57 rfl) (pix4 hlτ hpr.1 hpr.2 ?_))
      rw [hw]
      refine cut_intro fun J81 h81 => ?_
      have k81 : ∀ t, t = decide ((cand i).1 = w ∨ (stA F p w i).2.1 = false) → J81 t τ1 := by
        rintro t rfl
        rw [h81]
        intro _
        refine bc_d (fun ht => ?_) (fun ht => ?_)
        · have e : stA F p w (i + 1) = (cand i, true, decide ((cand i).1 = w)) := by rw [stA, if_neg (by rw [hd]; simp), if_pos ⟨hfit, ht⟩]
          refine hA1.set hN (s := cand i) fun τ2 hA2 => bc_d (fun hcw => ⟨hA2.hl, false, rfl, fun h => by (cases h), fun _ => ⟨i + 1, by omega, ?_, ?_⟩⟩) (fun hcw => ⟨hA2.hl, true, rfl, fun _ => ⟨?_, ?_⟩, fun h => by (cases h)⟩)
          · rw [e]; exact decide_eq_true hcw
          · rw [e]; exact hA2.recs hN _
          · rw [e]; exact decide_eq_false hcw
          · rw [e]; exact hA2.recs hN _
        · have e : stA F p w (i + 1) = stA F p w i := by rw [stA, if_neg (by rw [hd]; simp), if_neg (fun h => ht h.2)]
          refine ⟨hA1.hl, true, rfl, fun _ => ?_, fun h => by (cases h)⟩
          rw [e]
          exact ⟨hd, hA1.recs hN _⟩
      refine bc_d (fun hcw => k81 _ ?_) (fun hcw => ldB_of (cells_get hA1.h61 rfl) (k81 _ ?_))
      · simp [hcw]
      · cases (stA F p w i).2.1 <;> simp [hcw]
    · rintro v σ' (⟨hd, hA⟩ | ⟨j, hj, hd, hA⟩)
      · exact ⟨.ready, none, hA.hl, rfl, k38 _ _ _ _ _ hN (hA.recs hN _) rfl rfl⟩
      · have e := stA_done hd (2 * F.g.C.length) hj
        exact ⟨.done, some (.exit 4), hA.hl, rfl, k38 _ _ _ _ _ hN (hA.recs hN _) (by rw [e]) (by rw [e])⟩
  · have : k = (order l).length := by omega
    subst this
    rw [List.take_length] at hfk
    rw [h20]
    intro _
    refine hfk.r.toFdB.dS ?_
    obtain ⟨_, s1, s2, o1, o2, o3⟩ := hfk
    obtain ⟨s1', q1, q2⟩ := o1.base hsσ
    exact rt_sub (q2.trans (o2.sub.trans o3)) ⟨_, _, _, rfl, q1⟩
end Go.Proofs.Ytmpkiaghkhhlhaa

/- Contracts of layer 4: works returns true. No conditions but those that each theorem names. -/
namespace Go.Proofs.Ytmpkiaghkhhlhaa
open Go.RowKit

/-! ### The example -/
def exG : Gnd := ⟨4, 3, [3, 0, 0, 0, 0, 1, 2, 0, 0, 0, 0, 3], List.replicate 12 0⟩
def exL : List Pit := [(2, 1, 0, 3, 9), (1, 1, 0, 5, 9)]
set_option maxRecDepth 100000 in
theorem ex_chk : (chkP exG exL).2 = 0 := by decide +kernel
set_option maxRecDepth 100000 in
theorem ex_award : (awF exG exL).st = [(1, false), (9, false)] := by decide +kernel
set_option maxRecDepth 100000 in
theorem ex_cable : cabS exG [] [] 0 11 = ([0, 1, 2, 3, 7, 11], 5, 0) := by decide +kernel
theorem c_works {σ : Hp} : FCalls Try.prog N_law04_works #[] σ fun v σ' => v = .bool true ∧ σ' = σ := by
  refine M_law04_works_ok _ _ ?_
  unfold M_law04_works
  refine cl_of (R := fun v σ' => ∃ x lA ln lc, v = .tuple #[GV.v x exG, .slice lA ln lc] ∧ Hp.Sub σ σ' ∧ GRd σ' x exG ∧ RdS sP σ' lA ln exL) M_law04_Example_enter ?_ ?_
  · refine M_law04_Example_ok _ _ ?_
    unfold M_law04_Example
    refine ⟨by omega, by omega, by omega, ?_⟩
    intro A1 l1 c1 σ2 o1 A3 l3 c3 σ4 o3 A5 l5 c5 σ6 o5
    exact rt_of ⟨⟨A1, l1, c1, A3, l3, c3⟩, _, _, _, rfl, o1.sub.trans (o3.sub.trans o5.sub), ⟨o1.rd.sub (o3.sub.trans o5.sub), o3.rd.sub o5.sub⟩, o5.rd⟩
  · rintro v σ2 ⟨x, lA, ln, lc, rfl, hs2, hg, hl⟩
    refine ⟨_, _, _, _, _, _, _, _, _, _, _, rfl, ?_⟩
    refine cl_of M_ground_Award_enter (c_Award (x := x) hg hl ex_chk) ?_
    rw [ex_award]
    rintro v σ9 ⟨A10, l10, c10, rfl, o10⟩
    refine ⟨_, _, _, _, rfl, ?_⟩
    refine cl_of M_ground_Cable_enter (c_ground_Cable (x := x) (l := []) (st := []) (a := 0) (b := 11) (hg.sub o10.sub) (lA := none) (ln := 0) (lc := 0) (sA := none) (sn := 0) (sc := 0) ⟨rfl, .inl rfl⟩ ⟨rfl, .inl rfl⟩) ?_
    rw [ex_cable]
    rintro v σ13 ⟨A14, l14, c14, rfl, o14⟩
    refine ⟨_, _, _, _, _, rfl, bc_d (fun _ => bc_d (fun _ => bc_d (fun _ => ?_) (fun h => absurd rfl h)) (fun h => absurd rfl h)) (fun h => absurd rfl h)⟩
    intro A17 l17 c17 σ18 o17
    have hr14 : RdS [.int .i64] σ18 A14 l14 ([0, 1, 2, 3, 7, 11] : List Int) := o14.rd.sub o17.sub
    refine clB M_law04_sameInts_enter (c_sameInts (b := [0, 1, 2, 3, 7, 11]) hr14 o17.rd (by simp)) ?_
    refine bc_d (fun _ => ?_) (fun h => absurd rfl h)
    intro A22 l22 c22 σ23 o22
    have hr10 : RdS sS σ23 A10 l10 ([(1, false), (9, false)] : List Sit) := o10.rd.sub (o14.sub.trans (o17.sub.trans o22.sub))
    refine clB M_law04_sameSites_enter (c_sameSites (b := [(1, false), (9, false)]) hr10 o22.rd (by simp)) ?_
    refine rt_sub (hs2.trans (o10.sub.trans (o14.sub.trans (o17.sub.trans o22.sub)))) ⟨?_, rfl⟩
    simp
end Go.Proofs.Ytmpkiaghkhhlhaa

/- J, part 2: the arguments of the laws of layer 4, opened. -/
namespace Go.Proofs.Ytmpkiaghkhhlhaa
open Go.RowKit Go.ChangeShapes Go.WideShapes Go.Deep Go.Joins

theorem Try.own : ownKnob Try.prog.godebug = none := by kernel_rfl
theorem Try.laidOut : laidOutB Try.prog = true := by kernel_rfl
theorem elt_int : EltP Try.prog 3 [.int .i64] := EltP.int Try.underlying3
theorem elt_pit : EltP Try.prog 52 sP := EltP.struct Try.underlying52 (by kernel_rfl) (by kernel_rfl) (by kernel_rfl)
theorem elt_sit : EltP Try.prog 50 sS := EltP.struct Try.underlying50 (by kernel_rfl) (by kernel_rfl) (by kernel_rfl)
section
variable {H : Type} {enc : TypeId × Value → H} {W : World} {sp : Nat → Bool} {hd : Bool}
set_option maxRecDepth 100000 in
theorem slice_trod {t e : TypeId} {v : Value} {d : DataW H} {p : List MemPlace} {b0 : Nat} (ht : Try.prog.underlying t = some (.slice e)) (hv : Value.okWide Try.prog W .any b0 t v) (h : DataW.Trod enc Try.prog W 0 sp hd t v d p) : ∃ n, DataW.trod enc Try.prog W 0 sp hd n t [v] = some (d, p) := by
  obtain ⟨a, len, cap, rfl⟩ := okWide_slice ht hv
  exact h
set_option maxRecDepth 100000 in
theorem open_ints1 {n : Nat} {v : Value} {y : DataW H × List MemPlace} (h : DataW.trod enc Try.prog W 0 sp hd n 22 [v] = some y) : ∃ A n c xs, v = .slice A n c ∧ n ≤ c ∧ RdS [.int .i64] (whole W) A n xs :=
  open_rows Try.underlying22 elt_int (by kernel_rfl) (by decide) h
set_option maxRecDepth 100000 in
theorem open_sits1 {n : Nat} {v : Value} {y : DataW H × List MemPlace} (h : DataW.trod enc Try.prog W 0 sp hd n 26 [v] = some y) : ∃ A n c xs, v = .slice A n c ∧ n ≤ c ∧ RdS sS (whole W) A n xs :=
  open_rows Try.underlying26 elt_sit (by kernel_rfl) (by decide) h
set_option maxRecDepth 100000 in
theorem open_pits {v : Value} {d : DataW H} {p : List MemPlace} {b0 : Nat} (hv : Value.okWide Try.prog W .any b0 25 v) (h : DataW.Trod enc Try.prog W 0 sp hd 25 v d p) : ∃ A n c xs, v = .slice A n c ∧ n ≤ c ∧ RdS sP (whole W) A n xs := by
  obtain ⟨n, h⟩ := slice_trod Try.underlying25 hv h
  exact open_rows Try.underlying25 elt_pit (by kernel_rfl) (by decide) h
set_option maxRecDepth 100000 in
theorem open_sits {v : Value} {d : DataW H} {p : List MemPlace} {b0 : Nat} (hv : Value.okWide Try.prog W .any b0 26 v) (h : DataW.Trod enc Try.prog W 0 sp hd 26 v d p) : ∃ A n c xs, v = .slice A n c ∧ n ≤ c ∧ RdS sS (whole W) A n xs := by
  obtain ⟨n, h⟩ := slice_trod Try.underlying26 hv h
  exact open_sits1 h
set_option maxRecDepth 100000 in
theorem open_ground {v : Value} {d : DataW H} {p : List MemPlace} {b0 : Nat} (hv : Value.okWide Try.prog W .any b0 24 v) (h : DataW.Trod enc Try.prog W 0 sp hd 24 v d p) : ∃ x g, v = GV.v x g ∧ GRd (whole W) x g := by
  obtain ⟨v0, v1, v2, v3, y0, y1, y2, y3, n, rfl, _, _, h0, h1, h2, h3⟩ := open_agg4 Try.underlying24 (by kernel_rfl) (by kernel_rfl) hv h
  obtain ⟨a, e0, _⟩ := DataW.trod_int Try.underlying3 h0
  obtain ⟨b, e1, _⟩ := DataW.trod_int Try.underlying3 h1
  obtain ⟨A2, n2, c2, C, rfl, _, hC⟩ := open_ints1 h2
  obtain ⟨A3, n3, c3, T, rfl, _, hT⟩ := open_ints1 h3
  cases e0
  cases e1
  exact ⟨⟨A2, n2, c2, A3, n3, c3⟩, ⟨a, b, C, T⟩, rfl, hC, hT⟩
set_option maxRecDepth 100000 in
theorem open_plan {v : Value} {d : DataW H} {p : List MemPlace} {b0 : Nat} (hv : Value.okWide Try.prog W .any b0 28 v) (h : DataW.Trod enc Try.prog W 0 sp hd 28 v d p) : ∃ A n c xs a b, v = .agg #[.slice A n c, .int .i64 a, .int .i64 b] ∧ n ≤ c ∧ RdS sS (whole W) A n xs := by
  obtain ⟨v0, v1, v2, y0, y1, y2, n, rfl, _, _, h0, h1, h2⟩ := open_agg3 Try.underlying28 (by kernel_rfl) (by kernel_rfl) hv h
  obtain ⟨A, n, c, xs, rfl, hn, hr⟩ := open_sits1 h0
  obtain ⟨a, e1, _⟩ := DataW.trod_int Try.underlying3 h1
  obtain ⟨b, e2, _⟩ := DataW.trod_int Try.underlying3 h2
  cases e1
  cases e2
  exact ⟨A, n, c, xs, a, b, rfl, hn, hr⟩
end
/-- what the three arguments are, of laws with a ground, pitches and a plan -/
def Law3 (n t3 : Nat) (K : Hp → Value → Prop) : Prop := ∀ (σ : Hp) (x : GV) (g : Gnd) (lA : Option Addr) (ln lc : Nat) (l : List Pit) (w : Value), GRd σ x g → RdS sP σ lA ln l → K σ w → FCalls Try.prog n #[x.v g, .slice lA ln lc, w] σ fun v _ => v = .bool true
end Go.Proofs.Ytmpkiaghkhhlhaa

/- M-forms, printed by wip/gen/genm.py out of the translation: each function as a proposition over its local objects, with the lemma that it is what the function does. -/
namespace Go.Proofs.Ytmpkiaghkhhlhaa
open Go.RowKit

theorem mixed_L3 : Try.prog.follows .mixedOrders = true := by kernel_rfl

abbrev N_law04_GroundCables : FuncId := 3
/-- waltzer/waltzerlaw04.GroundCables -/
def M_law04_GroundCables (σ : Hp) (g_Wide : Int) (g_High : Int) (g_Cells_A : Option Addr) (g_Cells_n : Nat) (g_Cells_c : Nat) (g_Heights_A : Option Addr) (g_Heights_n : Nat) (g_Heights_c : Nat) (l_A : Option Addr) (l_n : Nat) (l_c : Nat) (p_Sites_A : Option Addr) (p_Sites_n : Nat) (p_Sites_c : Nat) (p_A : Int) (p_B : Int) (R : Value → Hp → Prop) : Prop :=
  cl Try.prog (.func (.func 13) #[] #[]) #[(.agg #[(.int .i64 g_Wide), (.int .i64 g_High), (.slice g_Cells_A g_Cells_n g_Cells_c), (.slice g_Heights_A g_Heights_n g_Heights_c)]), (.slice l_A l_n l_c)] σ (fun v1 σ2 => 
    ∃ t3 : Bool, (v1 = (.bool t3) ∧ bc t3 (cl Try.prog (.func (.func 14) #[] #[]) #[] σ2 (fun v4 σ5 => ∃ t6 : Bool, (v4 = (.bool t6) ∧ 
    rt σ5 R (.bool t6)))) (cl Try.prog (.func (.func 15) #[] #[]) #[(.agg #[(.int .i64 g_Wide), (.int .i64 g_High), (.slice g_Cells_A g_Cells_n g_Cells_c), (.slice g_Heights_A g_Heights_n g_Heights_c)]), (.slice l_A l_n l_c), (.slice p_Sites_A p_Sites_n p_Sites_c), (.int .i64 p_A), (.int .i64 p_B)] σ2 (fun v7 σ8 => 
    ∃ A9 : Option Addr, ∃ l9 : Nat, ∃ c9 : Nat, ∃ n10 : Int, ∃ n11 : Int, (v7 = (.tuple #[(.slice A9 l9 c9), (.int .i64 n10), (.int .i64 n11)]) ∧ 
    cl Try.prog (.func (.func 16) #[] #[]) #[(.agg #[(.int .i64 g_Wide), (.int .i64 g_High), (.slice g_Cells_A g_Cells_n g_Cells_c), (.slice g_Heights_A g_Heights_n g_Heights_c)]), (.slice l_A l_n l_c), (.slice p_Sites_A p_Sites_n p_Sites_c), (.int .i64 p_A), (.int .i64 p_B)] σ8 (fun v12 σ13 => 
    ∃ A14 : Option Addr, ∃ l14 : Nat, ∃ c14 : Nat, ∃ n15 : Int, ∃ n16 : Int, (v12 = (.tuple #[(.slice A14 l14 c14), (.int .i64 n15), (.int .i64 n16)]) ∧ 
    bc (decide (n10 = n15)) (bc (decide (n11 = n16)) (cl Try.prog (.func (.func 17) #[] #[]) #[(.slice A9 l9 c9), (.slice A14 l14 c14)] σ13 (fun v17 σ18 => 
    ∃ t19 : Bool, (v17 = (.bool t19) ∧ bc t19 (cl Try.prog (.func (.func 14) #[] #[]) #[] σ18 (fun v20 σ21 => 
    ∃ t22 : Bool, (v20 = (.bool t22) ∧ rt σ21 R (.bool t22)))) (rt σ18 R (.bool false))))) (bc false (cl Try.prog (.func (.func 14) #[] #[]) #[] σ13 (fun v23 σ24 => 
    ∃ t25 : Bool, (v23 = (.bool t25) ∧ rt σ24 R (.bool t25)))) (rt σ13 R (.bool false)))) (bc false (cl Try.prog (.func (.func 17) #[] #[]) #[(.slice A9 l9 c9), (.slice A14 l14 c14)] σ13 (fun v26 σ27 => 
    ∃ t28 : Bool, (v26 = (.bool t28) ∧ bc t28 (cl Try.prog (.func (.func 14) #[] #[]) #[] σ27 (fun v29 σ30 => 
    ∃ t31 : Bool, (v29 = (.bool t31) ∧ rt σ30 R (.bool t31)))) (rt σ27 R (.bool false))))) (bc false (cl Try.prog (.func (.func 14) #[] #[]) #[] σ13 (fun v32 σ33 => 
    ∃ t34 : Bool, (v32 = (.bool t34) ∧ rt σ33 R (.bool t34)))) (rt σ13 R (.bool false)))))))))))
def M_law04_GroundCables_an : MAn := (.seq (.txt []) (.seq (.seq (.txt []) (.cond (.seq (.txt []) .leaf) .leaf)) (.seq (.txt []) (.seq (.txt []) (.seq (.txt [⟨[], false, []⟩, ⟨[], false, []⟩, ⟨[], false, []⟩, ⟨[], true, []⟩, ⟨[], false, []⟩, ⟨[], false, []⟩, ⟨[], false, []⟩, ⟨[], false, []⟩, ⟨[], true, []⟩, ⟨[], false, []⟩, ⟨[], false, []⟩, ⟨[], false, []⟩, ⟨[], false, []⟩, ⟨[], true, []⟩]) .leaf)))))
set_option maxRecDepth 100000 in
theorem M_law04_GroundCables_ok (σ : Hp) (g_Wide : Int) (g_High : Int) (g_Cells_A : Option Addr) (g_Cells_n : Nat) (g_Cells_c : Nat) (g_Heights_A : Option Addr) (g_Heights_n : Nat) (g_Heights_c : Nat) (l_A : Option Addr) (l_n : Nat) (l_c : Nat) (p_Sites_A : Option Addr) (p_Sites_n : Nat) (p_Sites_c : Nat) (p_A : Int) (p_B : Int) (R : Value → Hp → Prop) (h : M_law04_GroundCables σ g_Wide g_High g_Cells_A g_Cells_n g_Cells_c g_Heights_A g_Heights_n g_Heights_c l_A l_n l_c p_Sites_A p_Sites_n p_Sites_c p_A p_B R) : FCalls Try.prog 3 #[(.agg #[(.int .i64 g_Wide), (.int .i64 g_High), (.slice g_Cells_A g_Cells_n g_Cells_c), (.slice g_Heights_A g_Heights_n g_Heights_c)]), (.slice l_A l_n l_c), (.agg #[(.slice p_Sites_A p_Sites_n p_Sites_c), (.int .i64 p_A), (.int .i64 p_B)])] σ R :=
  fcalls_of_M mixed_L3 M_law04_GroundCables_an Try.func3 rfl (by kernel_rfl) (by kernel_rfl) (M := M_law04_GroundCables σ g_Wide g_High g_Cells_A g_Cells_n g_Cells_c g_Heights_A g_Heights_n g_Heights_c l_A l_n l_c p_Sites_A p_Sites_n p_Sites_c p_A p_B R) (by kernel_rfl) h
theorem M_law04_GroundCables_enter : enterB Try.prog 3 = true := by kernel_rfl

end Go.Proofs.Ytmpkiaghkhhlhaa

/- For all inputs the law GroundCables returns true, and what came in reads as it did. -/
namespace Go.Proofs.Ytmpkiaghkhhlhaa
open Go.RowKit Go.ChangeShapes Go.WideShapes Go.Deep Go.Joins

theorem cab_len {g : Gnd} {op : Int → Bool} {X : List Int} {b : Int} : ∀ (f : Nat) (c : Int), (wayF g op X b f c).length ≤ f + 1
  | 0, c => by simp [wayF]
  | f + 1, c => by
    rw [wayF]
    split
    · simp
    · simp only [List.length_cons]
      have := cab_len (g := g) (op := op) (X := X) (b := b) f (nxt g op X c)
      omega
theorem cabS_len {g : Gnd} {l : List Pit} {st : List Sit} {a b : Int} : (cabS g l st a b).1.length ≤ 4294967296 := by
  unfold cabS
  split
  · simp
  · split
    · simp
    · split
      · simp
      · have := cab_len (g := g) (op := gb (g.opn l st)) (X := rnds g (gb (g.opn l st)) g.C.length (ini g b)) (b := b) 7000 a
        simp only
        omega
theorem law_Cables {σ : Hp} {x : GV} {g : Gnd} {lA sA : Option Addr} {ln lc sn sc : Nat} {l : List Pit} {st : List Sit} {a b : Int} (hg : GRd σ x g) (hl : RdS sP σ lA ln l) (hst : RdS sS σ sA sn st) (hsc : sn ≤ sc) :
    FCalls Try.prog N_law04_GroundCables #[x.v g, .slice lA ln lc, .agg #[.slice sA sn sc, .int .i64 a, .int .i64 b]] σ fun v _ => v = .bool true := by
  refine M_law04_GroundCables_ok _ _ _ _ _ _ _ _ _ _ _ _ _ _ _ _ _ _ ?_
  unfold M_law04_GroundCables
  refine clB M_law04_Large_enter (c_Large hg.c.lenI hl.lenP) ?_
  refine bc_b (fun _ => clB M_law04_works_enter c_works (rt_of rfl)) (fun _ => ?_)
  refine cl_of M_ground_Cable_enter (c_ground_Cable hg hl hst) ?_
  rintro v σ8 ⟨A9, l9, c9, rfl, o9⟩
  refine ⟨_, _, _, _, _, rfl, ?_⟩
  refine cl_of M_ref04_Cable_enter (c_ref04_Cable (hg.sub o9.sub) (hl.sub o9.sub) (hst.sub o9.sub) hsc) ?_
  rintro v σ13 ⟨A14, l14, c14, rfl, o14⟩
  refine ⟨_, _, _, _, _, rfl, bc_d (fun _ => bc_d (fun _ => ?_) (fun h => absurd rfl h)) (fun h => absurd rfl h)⟩
  refine clB M_law04_sameInts_enter (c_sameInts (o9.rd.sub o14.sub) o14.rd cabS_len) ?_
  refine bc_d (fun _ => clB M_law04_works_enter c_works (rt_of rfl)) (fun h => absurd rfl h)
set_option maxRecDepth 100000 in
theorem lifted_Cables (os : Os) (started : os.Started) (H : Type) (enc : TypeId × Value → H) :
    ReturnsInHanded {} Try.checked os N_law04_GroundCables .any (Rows.groundCablesSpec.pre6 enc Try.prog Try.f3 Rows.groundCablesRow.domain false) (Rows.groundCablesSpec.post enc Try.prog Try.f3 false true false false) := by
  refine returnsInHanded_of_change (C := Try.checked) Try.own started (by kernel_rfl) Try.func3
    (ChangeSpec.witness6 (enc := enc) (C := Try.checked) false ⟨#[], #[.agg #[.int .i64 0, .int .i64 0, .slice none 0 0, .slice none 0 0], .slice none 0 0, .agg #[.slice none 0 0, .int .i64 0, .int .i64 0]], []⟩ 8 (by kernel_rfl) (by kernel_rfl) (by kernel_rfl) (by kernel_rfl)) ?_
  intro W base args ds gs before hval0 hW _ _
  have hval : ∀ (j : Nat) t v, Try.f3.params[j]? = some t → args[j]? = some v → Value.okWide Try.prog W .any base t v := hval0
  have hW' := hW
  obtain ⟨p, q, hA0, hV, rfl, hfz, hnd⟩ := hW
  have hA : DataW.TrodAll enc Try.prog W 0 (fun _ => true) true Try.f3.params.toList args.toList ds p := hA0
  have hA1 := hA
  rw [Try.params3] at hA hval
  obtain ⟨v0, v1, v2, d0, d1, d2, p0, p1, p2, rfl, rfl, rfl, h0, h1, h2⟩ := trodAll_three hA
  obtain ⟨rfl, rfl⟩ := trodVars_none hV
  obtain ⟨x, g, rfl, hg⟩ := open_ground (hval 0 24 v0 rfl rfl) h0
  obtain ⟨lA, ln, lc, l, rfl, _, hl⟩ := open_pits (hval 1 25 v1 rfl rfl) h1
  obtain ⟨sA, sn, sc, st, a, b, rfl, hsc, hst⟩ := open_plan (hval 2 28 v2 rfl rfl) h2
  simp only [List.append_nil] at hW' hA1
  exact law_shut Try.laidOut (by kernel_rfl) rfl Try.underlying4 rfl rfl hW' hA1 (law_Cables hg hl hst hsc)
theorem groundCables_holds : Rows.GroundCablesSaid :=
  OpenClaim.holds_of_wide N_law04_GroundCables Try.f3 rfl rfl rfl rfl rfl rfl rfl ⟨rfl, rfl, rfl, rfl, rfl⟩ rfl rfl rfl rfl rfl (by kernel_rfl) Try.func3 (by kernel_rfl)
    (of_decide_eq_true (by kernel_rfl)) (by unfold Func.isWrapper; rw [if_neg (of_decide_eq_false (by kernel_rfl))]; exact ⟨rfl, rfl⟩)
    (fun os started H enc _ => lifted_Cables os started H enc)
#print axioms groundCables_holds
end Go.Proofs.Ytmpkiaghkhhlhaa

