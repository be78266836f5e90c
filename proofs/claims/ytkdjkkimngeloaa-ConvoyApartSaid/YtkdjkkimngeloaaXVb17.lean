/- Trimmed by wip/trim.py to what this claim rests on. -/
import Derived.Test.YtkdjkkimngeloaaXVb2
import Derived.Test.YtkdjkkimngeloaaXVs3
import Derived.Test.YtkdjkkimngeloaaXVb16
import Derived.Test.YtkdjkkimngeloaaXC4
namespace Go.Proofs.Ytkdjkkimngeloaa
open Go.RowKit
theorem Rn {m : Mp} {l : Lry} {t : Int} (h : eT m [l] t = 0) : MpS m ∧ AZ m l ∧ 0 ≤ t ∧ t < m.pk.length := by
  obtain ⟨a, _, b, c⟩ := JI h
  exact ⟨a, b l (List.mem_singleton.2 rfl), c⟩
def Tr (m : Mp) (l : Lry) (out : List Int) (k : Nat) : Prop := out.length = k ∧ ∀ i (_ : i < out.length), (Non m l i ∧ out[i] = -1) ∨ ∃ c, Sn m l i c ∧ out[i] = l.rdy + c.1
def Lry.up (l : Lry) (h : Int) : Lry := { l with h := h }
def hts (m : Mp) : List Int := 1000 :: m.rs.map fun r => r.2.2.2.1
theorem KG {m : Mp} {l : Lry} (hm : MpS m) (hl : AZ m l) {h : Int} (hh : h ∈ hts m) : AZ m (l.up h) := by
  refine ⟨?_, hl.w, hl.f, hl.y, hl.d, hl.s⟩
  show 0 ≤ h ∧ h ≤ 1000
  rcases List.mem_cons.1 hh with rfl | hh
  · omega
  · obtain ⟨r, hr, rfl⟩ := List.mem_map.1 hh
    exact (hm.r r hr).2.2.2.2.1
def HgR (m : Mp) (l : Lry) (t h : Int) : Prop := h ∈ hts m ∧ ¬ Non m (l.up h) t ∧ ∀ h' ∈ hts m, h < h' → Non m (l.up h') t
def HgN (m : Mp) (l : Lry) (t : Int) : Prop := ∀ h ∈ hts m, Non m (l.up h) t
theorem Sn.nn {m : Mp} {l : Lry} {t : Int} {c : Cst} (h : Sn m l t c) : ¬ Non m l t := fun hn => by
  obtain ⟨p, h1, h2⟩ := h.1
  exact hn p c h1 h2
section
variable {σ : Hp}
set_option maxRecDepth 100000 in
theorem PZ {w : MW} {m : Mp} {l : Lry} {t : Int} (h : MIn σ w m) (hp : m.pk.length ≤ 4294967296) (hr : m.rs.length ≤ 4294967296) : Af Try.prog KA #[w.v, l.v, .int .i64 t] σ fun v σ' =>
    (¬ eT m [l] t = 0 ∧ v = .tuple #[.slice none 0 0, .int .i64 (eT m [l] t)] ∧ σ' = σ) ∨ (eT m [l] t = 0 ∧ ((Non m l t ∧ v = .tuple #[.slice none 0 0, .int .i64 3] ∧ σ' = σ) ∨ ∃ A n c js a, v = .tuple #[.slice A n c, .int .i64 0] ∧ Ap 60 sJ σ A n c js σ' ∧ Bst m l t (a, js))) := by
  refine Ik _ _ _ _ _ _ _ _ _ _ _ _ _ _ _ ?_
  unfold DW
  intro A1 l1 c1 σ2 ho
  have hs : Hp.Sub σ σ2 := ho.sub
  refine clI Be (El (h.up hs) hp hr ho.rd (show (1 : Nat) ≤ _ by decide)) ?_
  show bc (!decide (eT m [l] t = 0)) _ _
  refine Bu (fun e => BN hs (.inl ⟨e, rfl, rfl⟩)) (fun e => ?_)
  obtain ⟨hm, hl, _⟩ := Rn e
  refine Bg B4 (OU (h.up hs) hm.ok hl) ?_
  rintro v σ7 (⟨rfl, rfl, hn⟩ | ⟨A, n, c, js, a, rfl, ho2, hb⟩)
  · exact ⟨_, _, _, _, rfl, Hf (fun _ => BN hs (.inr ⟨e, .inl ⟨hn, rfl, rfl⟩⟩)) (fun e => by cases e)⟩
  · refine ⟨_, _, _, _, rfl, Hf (fun e => by cases e) (fun _ => ?_)⟩
    obtain ⟨σ4, h6, h7⟩ := Ao.ownJ.less ho2 hs
    exact BN h7 (.inr ⟨e, .inr ⟨_, _, _, js, a, rfl, h6, hb⟩⟩)
set_option maxRecDepth 100000 in
theorem QX {w : MW} {m : Mp} {l : Lry} (h : MIn σ w m) (hp : m.pk.length ≤ 4294967296) (hr : m.rs.length ≤ 4294967296) : Af Try.prog J0 #[w.v, l.v] σ fun v σ' =>
    (¬ eC m [l] = 0 ∧ v = .tuple #[.slice none 0 0, .int .i64 (eC m [l])] ∧ σ' = σ) ∨ (eC m [l] = 0 ∧ MpS m ∧ AZ m l ∧ ∃ A n c out, v = .tuple #[.slice A n c, .int .i64 0] ∧ Ap 3 [.int .i64] σ A n c out σ' ∧ Tr m l out m.pk.length) := by
  refine HI _ _ _ _ _ _ _ _ _ _ _ _ _ _ ?_
  unfold DU
  intro A1 l1 c1 σ2 ho
  have hs : Hp.Sub σ σ2 := ho.sub
  refine P1 h hp hr ho (fun hm hl e => Bu (fun g => absurd rfl g) (fun _ => ?_)) (fun e => Bu (fun _ => BN hs (.inl ⟨e, rfl, rfl⟩)) (fun g => absurd g e))
  have hpn := h.pn
  have hn12 := hm.n
  refine Ag fun J8 h8 => ?_
  refine ⟨fun q xs i τ => ∃ k : Nat, q = m.pk.length - k ∧ i = k ∧ k ≤ m.pk.length ∧ τ = σ2 ∧ Tr m l xs k, ⟨m.pk.length, [], σ2, Ap.nil .., 0, rfl, rfl, by omega, rfl, rfl, fun i hi => absurd hi (Nat.not_lt_zero _)⟩, ?_⟩
  rintro q xs i τ ⟨k, rfl, rfl, hk, rfl, hlen, hx⟩ _
  refine Bd (fun hlt => ?_) (fun hge => ?_)
  · have hkl : k < m.pk.length := by omega
    refine Ag fun J22 h22 => ?_
    have k22 : ∀ x : Int, ((Non m l (k : Nat) ∧ x = -1) ∨ ∃ c, Sn m l (k : Nat) c ∧ x = l.rdy + c.1) → J22 (xs ++ [x]) τ := by
      intro x hx2
      rw [h22]
      intro _
      refine AT (by omega) (BP _ (by omega) ⟨k + 1, rfl, rfl, by omega, rfl, by simp [hlen], fun i hi => ?_⟩)
      by_cases e1 : i < xs.length
      · have := hx i e1
        simpa [List.getElem_append_left e1] using this
      · have e2 : i = k := by
          have : i < xs.length + 1 := by simpa using hi
          omega
        subst e2
        have : (xs ++ [x])[i] = x := by rw [List.getElem_append_right (by omega)]; simp [hlen]
        rw [this]
        exact hx2
    refine Bg Bi (Iz (t := (k : Nat)) (h.up hs) hm.ok hl) ?_
    rintro v σ28 ⟨c, b, rfl, rfl, hy, hno⟩
    have hy1 := hl.y
    refine ⟨_, _, _, rfl, Hf (fun e => Bh (show xs.length + 1 ≤ _ by omega) (k22 _ (.inl ⟨hno e, rfl⟩))) (fun e => ?_)⟩
    obtain ⟨hsn, ⟨hb1, hb2⟩, _⟩ := hy e
    exact AT (by omega) (Bh (show xs.length + 1 ≤ _ by omega) (k22 _ (.inr ⟨c, hsn, rfl⟩)))
  · obtain rfl : k = m.pk.length := by omega
    rw [h8]
    intro _ A n c σ11 ho2
    obtain ⟨σ4, h6, h7⟩ := Ao.own.less (R := fun s τ => Ap 3 [.int .i64] s A n c xs τ) ho2 hs
    exact BN h7 (.inr ⟨e, hm, hl, _, _, _, xs, rfl, h6, hlen, hx⟩)
theorem N3 {A : Option Addr} {n c : Nat} : Af Try.prog FV #[.slice A n c] σ fun v σ' => ∃ b, v = .func (.func Cz) #[] #[.pointer (some ⟨b, 0, none⟩)] ∧ Blk b (.cells #[.slice A n c] 45 (0, 0)) σ σ' := by
  refine EL _ _ _ _ _ ?_
  intro b nb
  exact AC ⟨b, rfl, nb, rfl⟩
set_option maxRecDepth 100000 in
theorem LE {y : Value} {b : Nat} {A : Option Addr} {n c : Nat} {xs : List Int} {I : Nat → Hp → Prop} {Q : Hp → Prop} (hn : n ≤ 4294967296)
    (hI : ∀ i τ, I i τ → τ b = some (.cells #[.slice A n c] 45 (0, 0), true) ∧ RdS [.int .i64] τ A n xs)
    (hy : ∀ i (h : i < xs.length) τ, I i τ → Hj Try.prog y #[.int .i64 ((xs.length - 1 - i : Nat) : Int), .int .i64 (xs[xs.length - 1 - i]'(by omega))] τ fun v τ' => ∃ t : Bool, v = .bool t ∧ (t = true → I (i + 1) τ') ∧ (t = false → Q τ'))
    (h0 : I 0 σ) : Af Try.prog Cz #[y, .pointer (some ⟨b, 0, none⟩)] σ fun _ σ' => I xs.length σ' ∨ Q σ' := by
  refine DR _ _ _ _ ?_
  unfold BL
  obtain ⟨g0, r0⟩ := hI _ _ h0
  have hnx : n = xs.length := r0.1
  refine AP (DK g0 rfl (AT (by omega) ?_))
  refine ⟨fun q i τ => ∃ k : Nat, q = xs.length - k ∧ i = (xs.length : Int) - 1 - k ∧ k ≤ xs.length ∧ I k τ, ⟨_, 0, rfl, by omega, by omega, h0⟩, ?_⟩
  rintro q i τ ⟨k, rfl, rfl, hk, hIk⟩ _
  obtain ⟨g1, r1⟩ := hI _ _ hIk
  refine Bd (fun hlt => ?_) (fun hge => ?_)
  · refine AP (DK g1 rfl ?_)
    have ei : (xs.length : Int) - 1 - k = ((xs.length - 1 - k : Nat) : Int) := by omega
    rw [ei]
    refine EN r1 (by omega) (by rw [Int.toNat_natCast]; omega) ?_
    have := hy k (by omega) τ hIk
    refine Hj.mono this ?_
    rintro v τ' ⟨t, rfl, ht, hq⟩
    refine ⟨t, rfl, Hf (fun e => AC (.inr (hq e))) (fun e => AT (by omega) (BP _ (by omega) ⟨k + 1, rfl, by omega, by omega, ht e⟩))⟩
  · obtain rfl : k = xs.length := by omega
    exact AC (.inl hIk)
end
end Go.Proofs.Ytkdjkkimngeloaa
