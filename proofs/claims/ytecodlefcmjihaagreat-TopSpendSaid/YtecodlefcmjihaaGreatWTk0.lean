/- Trimmed by wip/trim.py to what this claim rests on. -/
import Derived.Test.YtecodlefcmjihaaGreatWKa1
import Derived.Test.YtecodlefcmjihaaGreatWT2
import Derived.Test.YtecodlefcmjihaaGreatWT3
namespace Go.Proofs.YtecodlefcmjihaaGreat
open Go.RowKit
theorem WA {a b : Int} {m n : Int} (h1 : 0 ≤ a) (h2 : a ≤ m) (h3 : 0 ≤ b) (h4 : b ≤ n) : 0 ≤ a * b ∧ a * b ≤ m * n := ⟨Int.mul_nonneg h1 h3, Int.mul_le_mul h2 h4 h3 (by omega)⟩
theorem U3 {e : Int} (h : 0 ≤ e ∧ e ≤ 18446744073709551615) : IntKind.u64.wrap e = e := by
  have h1 : IntKind.u64.wrap e = e % 18446744073709551616 := by
    unfold IntKind.wrap
    simp [IntKind.signed, IntKind.bits]
  rw [h1]
  omega
theorem Lt {e : Int} {K : Int → Prop} (h : 0 ≤ e ∧ e ≤ 18446744073709551615) (hk : K e) : wk .u64 e K := by
  unfold wk
  rw [U3 h]
  exact hk
theorem Vw {x : Int} (h : 0 ≤ x ∧ x < 4294967296) : (((BitVec.ofInt (IntKind.bits .u64) x &&& BitVec.ofInt (IntKind.bits .u64) 4294967295).toNat : Nat) : Int) = x := by
  have key : ∀ w, w = 64 → (((BitVec.ofInt w x &&& BitVec.ofInt w 4294967295).toNat : Nat) : Int) = x := by
    rintro w rfl
    rw [BitVec.toNat_and, BitVec.toNat_ofInt, BitVec.toNat_ofInt]
    have e3 : ((4294967295 : Int) % ((2 ^ 64 : Nat) : Int)).toNat = 2 ^ 32 - 1 := by decide
    rw [e3, Nat.and_two_pow_sub_one_eq_mod]
    omega
  exact key _ rfl
theorem Vn {x : Int} (h : 0 ≤ x ∧ x < 4294967296) : Int.fdiv x (2 ^ (min (32 : Int).toNat (IntKind.bits .u64))) = 0 := by
  have : (2 : Int) ^ (min (32 : Int).toNat (IntKind.bits .u64)) = 4294967296 := by decide
  rw [this, Int.fdiv_eq_ediv_of_nonneg _ (by omega)]
  omega
theorem VH {σ : Hp} {x y : Int} (hx : 0 ≤ x ∧ x < 65536) (hy : 0 ≤ y ∧ y < 65536) : Al Tryz.prog Lp #[.int .u64 x, .int .u64 y] σ fun v σ' => v = .tuple #[.int .u64 0, .int .u64 (x * y)] ∧ σ' = σ := by
  refine I0 _ _ _ _ ?_
  unfold DM
  have b1 : 0 ≤ x * y ∧ x * y ≤ 65535 * 65535 := WA hx.1 (by omega) hy.1 (by omega)
  rw [Vw (by omega), Vw (by omega), Vn (x := x) (by omega), Vn (x := y) (by omega)]
  refine Lt (by omega) ⟨by omega, Lt (by omega) ⟨by omega, Lt (by omega) ?_⟩⟩
  rw [Vn (x := x * y) (by omega)]
  simp only [Int.zero_mul, Int.mul_zero, Int.add_zero]
  refine Lt (by omega) ⟨by omega, Lt (by omega) ?_⟩
  rw [Vw (by omega)]
  refine Lt (by omega) ⟨by omega, Lt (by omega) (Lt (by omega) (Lt (by omega) ?_))⟩
  rw [Vn (x := 0) (by omega)]
  refine Lt (by omega) ⟨by omega, ?_⟩
  rw [Vn (x := 0 + 0) (by omega)]
  refine Lt (by omega) (Lt (by omega) (Az ⟨rfl, rfl⟩))
theorem XA {σ : Hp} {x y : Int} (hx : 0 ≤ x ∧ x < 65536) (hy : 0 ≤ y ∧ y < 65536) : Al Tryz.prog M6 #[.int .u64 x, .int .u64 y] σ fun v σ' => v = .tuple #[.int .u64 0, .int .u64 (x * y)] ∧ σ' = σ := by
  refine Ka _ _ _ _ ?_
  unfold EM
  refine AM Hc (VH hx hy) ?_
  rintro v σ' ⟨rfl, rfl⟩
  exact ⟨_, _, rfl, Az ⟨rfl, rfl⟩⟩
theorem RdS.take {ss : List Sh} {σ : Hp} {A : Option Addr} {n : Nat} {xs : List (TyR ss)} (h : RdS ss σ A n xs) {k : Nat} (hk : k ≤ n) : RdS ss σ A k (xs.take k) := by
  refine ⟨?_, ?_⟩
  · rw [List.length_take]; have := h.1; omega
  · rcases h.2 with h0 | ⟨b, off, cells, e, f, rw, hA, hb, hr⟩
    · exact .inl (by omega)
    · exact .inr ⟨b, off, cells, e, f, rw, hA, hb, hr.take k⟩
theorem Rf {α : Type} (a z : α) (k m : Nat) : (List.replicate k a ++ List.replicate m z).take k = List.replicate k a := by
  rw [List.take_left' (by simp)]
theorem U8 {α : Type} (a z : α) (k m q : Nat) : (List.replicate k a ++ List.replicate m z).drop (k + q) = List.replicate (m - q) z := by
  rw [List.drop_append, List.drop_of_length_le (by simp)]
  simp
theorem Rs {P : Program} {t0 t1 ty e : TypeId} {ss : List Sh} {σ : Hp} {a z : TyR ss} {N w : Nat} {R : Value → Hp → Prop} {xA : Option Addr} {xc : Nat}
    (hok : SA P t0 e ss.length = true) (hw : w = ss.length) (hna : JT ss = true) (hx : RdS ss σ xA 1 [a]) (hN : N ≤ 4294967296) (hR : ∀ A n c σ', An e ss σ A n c (List.replicate N a) σ' → R (.slice A n c) σ') :
    exl e ss (List.replicate N z) σ fun A14 l14 c14 σ15 => cpy P #[t0, t1] ty #[(.slice A14 l14 c14), (.slice xA 1 xc)] σ15 fun n16 σ17 => cut (α := Hp → Prop) (fun σ19 => ∀ _ : Nat → Value, rt σ19 R (.slice A14 l14 c14)) fun J20 => ∃ I23 : Nat → Int → Hp → Prop, (∃ n240, I23 n240 n16 σ17) ∧ 
    ∀ n24 : Nat, ∀ n25 : Int, ∀ σ22 : Hp, I23 n24 n25 σ22 → ∀ _ : Nat → Value, bc (decide (n25 < ((l14 : Nat) : Int))) ((0 ≤ n25 ∧ 
    n25 ≤ ((l14 : Nat) : Int) ∧ (0 ≤ n25 ∧ n25 ≤ ((c14 : Nat) : Int) ∧ cpy P #[t0, t1] ty #[(.slice (if c14 = (n25 : Int).toNat then (A14 : Option Addr) else (A14 : Option Addr).map (fun x => 
    x.add ((n25 : Int).toNat * w))) (l14 - (n25 : Int).toNat) (c14 - (n25 : Int).toNat)), (.slice A14 ((n25 : Int).toNat) c14)] σ22 (fun n26 σ27 => 
    wk .i64 (n25 + n26) (fun n28 => bk σ27 n24 (fun m29 σ30 => I23 m29 n28 σ30)))))) (J20 σ22) := by
  intro A n c σ' hown
  have hl : n = N := by simpa using hown.len
  subst hl
  have hnc : n ≤ c := by
    rcases hown with ⟨_, h2, h3, _⟩ | ⟨_, _, _, _, _, h, _⟩ <;> omega
  subst hw
  refine SE (k := 0) hok hna hown (Hp.Sub.refl _) (Nat.zero_le _) (fun b off h => by simpa using h) id (hx.sub hown.sub) fun σ2 τ2 ho2 hs2 => ?_
  refine Aj fun J hJ => ?_
  refine ⟨fun m i τ => ∃ k : Nat, m = n - k ∧ i = k ∧ k ≤ n ∧ (k = 0 → n = 0) ∧ ∃ σ3, An e ss σ A n c (List.replicate k a ++ List.replicate (n - k) z) σ3 ∧ Hp.Sub σ3 τ, ⟨_, min 1 (n - 0), rfl, rfl, by omega, by omega, σ2, ?_, hs2⟩, ?_⟩
  · cases n with
    | zero => simpa using ho2
    | succ n =>
      have : min 1 (n + 1 - 0) = 1 := by omega
      rw [this] at ho2 ⊢
      simpa using ho2
  · rintro m i τ ⟨k, rfl, rfl, hk, hk0, σ3, ho3, hs3⟩ _
    refine AK (fun hlt => ⟨by omega, by omega, by omega, by omega, ?_⟩) (fun hlt => ?_)
    · simp only [Int.toNat_natCast]
      rw [if_neg (by omega)]
      have hsrc : RdS ss τ A k (List.replicate k a) := by
        have := (ho3.rd.sub hs3).take hk
        rw [Rf] at this
        exact this
      refine SE hok hna ho3 hs3 hk (fun b off h => by rw [h]; simp [CL]) (fun h => by rw [h]; rfl) hsrc fun σ4 τ4 ho4 hs4 => ?_
      generalize hq : min k (n - k) = q at *
      refine AJ (by omega) (Bb _ ?_ ⟨k + q, rfl, by omega, by omega, by omega, σ4, ?_, hs4⟩)
      · omega
      · rw [Rf, U8, List.take_replicate, show min q k = q by omega, ← List.append_assoc, List.replicate_append_replicate] at ho4
        rw [show n - (k + q) = n - k - q by omega]
        exact ho4
    · subst hJ
      intro _
      have : k = n := by omega
      subst this
      refine Ms hs3 (hR _ _ _ _ ?_)
      simpa using ho3
set_option maxRecDepth 20000 in
theorem Lb {σ : Hp} {a n : Int} {xA : Option Addr} {xc : Nat} (hx : RdS [.int .i64] σ xA 1 [a]) (hn : 0 ≤ n ∧ n < 65536) : Al Tryz.prog JQ #[.slice xA 1 xc, .int .i64 n] σ (Yb 3 [.int .i64] σ (List.replicate n.toNat a)) := by
  refine Hx _ _ _ _ _ _ ?_
  unfold CZ
  refine Aj fun J3 h3 => AK (fun h => by omega) (fun h => ?_)
  subst h3
  intro _
  refine Lt (by omega) (Lt (by omega) (AM Io (XA (by omega) (by omega)) ?_))
  rintro v σ' ⟨rfl, rfl⟩
  refine ⟨_, _, rfl, Aj fun J12 h12 => Aj fun J33 h33 => AK (fun h => by omega) (fun h => ?_)⟩
  rw [show (((1 : Nat) : Int) * n) = n by omega] at *
  rw [h33]
  intro _
  refine AK (fun h => by omega) (fun h => ?_)
  subst h12
  intro _
  refine AJ (by omega) ⟨by omega, by omega, by omega, ?_⟩
  exact Rs (by kernel_rfl) rfl rfl hx (by omega) fun A n c σ' ho => ⟨_, _, _, rfl, ho⟩
end Go.Proofs.YtecodlefcmjihaaGreat
