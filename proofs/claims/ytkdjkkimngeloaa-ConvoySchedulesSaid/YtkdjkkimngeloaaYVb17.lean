/- Trimmed by wip/trim.py to what this claim rests on. -/
import Derived.Test.YtkdjkkimngeloaaYVb2
import Derived.Test.YtkdjkkimngeloaaYVs3
import Derived.Test.YtkdjkkimngeloaaYVb16
import Derived.Test.YtkdjkkimngeloaaYC4
namespace Go.Proofs.Ytkdjkkimngeloaa
open Go.RowKit
theorem SK {m : Mp} {l : Lry} {t : Int} (h : eT m [l] t = 0) : MpS m ∧ Bj m l ∧ 0 ≤ t ∧ t < m.pk.length := by
  obtain ⟨a, _, b, c⟩ := L6 h
  exact ⟨a, b l (List.mem_singleton.2 rfl), c⟩
def Lry.up (l : Lry) (h : Int) : Lry := { l with h := h }
def hts (m : Mp) : List Int := 1000 :: m.rs.map fun r => r.2.2.2.1
theorem Lm {m : Mp} {l : Lry} (hm : MpS m) (hl : Bj m l) {h : Int} (hh : h ∈ hts m) : Bj m (l.up h) := by
  refine ⟨?_, hl.w, hl.f, hl.y, hl.d, hl.s⟩
  show 0 ≤ h ∧ h ≤ 1000
  rcases List.mem_cons.1 hh with rfl | hh
  · omega
  · obtain ⟨r, hr, rfl⟩ := List.mem_map.1 hh
    exact (hm.r r hr).2.2.2.2.1
def HgR (m : Mp) (l : Lry) (t h : Int) : Prop := h ∈ hts m ∧ ¬ Non m (l.up h) t ∧ ∀ h' ∈ hts m, h < h' → Non m (l.up h') t
def HgN (m : Mp) (l : Lry) (t : Int) : Prop := ∀ h ∈ hts m, Non m (l.up h) t
theorem Sn.nn {m : Mp} {l : Lry} {t : Int} {c : Cst} (h : Sn m l t c) : ¬ Non m l t := fun hn => by
  obtain ⟨p, h1, h2⟩ := h.1
  exact hn p c h1 h2
section
variable {σ : Hp}
set_option maxRecDepth 100000 in
theorem S7 {w : MW} {m : Mp} {l : Lry} {t : Int} (h : MIn σ w m) (hp : m.pk.length ≤ 4294967296) (hr : m.rs.length ≤ 4294967296) : Ah Try.prog La #[w.v, l.v, .int .i64 t] σ fun v σ' =>
    (¬ eT m [l] t = 0 ∧ v = .tuple #[.slice none 0 0, .int .i64 (eT m [l] t)] ∧ σ' = σ) ∨ (eT m [l] t = 0 ∧ ((Non m l t ∧ v = .tuple #[.slice none 0 0, .int .i64 3] ∧ σ' = σ) ∨ ∃ A n c js a, v = .tuple #[.slice A n c, .int .i64 0] ∧ Av 60 sJ σ A n c js σ' ∧ Bst m l t (a, js))) := by
  refine IU _ _ _ _ _ _ _ _ _ _ _ _ _ _ _ ?_
  unfold Ei
  intro A1 l1 c1 σ2 ho
  have hs : Hp.Sub σ σ2 := ho.sub
  refine clI BW (G1 (h.up hs) hp hr ho.rd (show (1 : Nat) ≤ _ by decide)) ?_
  show bc (!decide (eT m [l] t = 0)) _ _
  refine Bl (fun e => CM hs (.inl ⟨e, rfl, rfl⟩)) (fun e => ?_)
  obtain ⟨hm, hl, _⟩ := SK e
  refine Bf Ci (QP (h.up hs) hm.ok hl) ?_
  rintro v σ7 (⟨rfl, rfl, hn⟩ | ⟨A, n, c, js, a, rfl, ho2, hb⟩)
  · exact ⟨_, _, _, _, rfl, GZ (fun _ => CM hs (.inr ⟨e, .inl ⟨hn, rfl, rfl⟩⟩)) (fun e => by cases e)⟩
  · refine ⟨_, _, _, _, rfl, GZ (fun e => by cases e) (fun _ => ?_)⟩
    obtain ⟨σ4, h6, h7⟩ := Au.ownJ.less ho2 hs
    exact CM h7 (.inr ⟨e, .inr ⟨_, _, _, js, a, rfl, h6, hb⟩⟩)
theorem Pu {A : Option Addr} {n c : Nat} : Ah Try.prog GL #[.slice A n c] σ fun v σ' => ∃ b, v = .func (.func CR) #[] #[.pointer (some ⟨b, 0, none⟩)] ∧ Blk b (.cells #[.slice A n c] 45 (0, 0)) σ σ' := by
  refine E4 _ _ _ _ _ ?_
  intro b nb
  exact Ay ⟨b, rfl, nb, rfl⟩
set_option maxRecDepth 100000 in
theorem ND {y : Value} {b : Nat} {A : Option Addr} {n c : Nat} {xs : List Int} {I : Nat → Hp → Prop} {Q : Hp → Prop} (hn : n ≤ 4294967296)
    (hI : ∀ i τ, I i τ → τ b = some (.cells #[.slice A n c] 45 (0, 0), true) ∧ RdS [.int .i64] τ A n xs)
    (hy : ∀ i (h : i < xs.length) τ, I i τ → IF Try.prog y #[.int .i64 ((xs.length - 1 - i : Nat) : Int), .int .i64 (xs[xs.length - 1 - i]'(by omega))] τ fun v τ' => ∃ t : Bool, v = .bool t ∧ (t = true → I (i + 1) τ') ∧ (t = false → Q τ'))
    (h0 : I 0 σ) : Ah Try.prog CR #[y, .pointer (some ⟨b, 0, none⟩)] σ fun _ σ' => I xs.length σ' ∨ Q σ' := by
  refine Ee _ _ _ _ ?_
  unfold B3
  obtain ⟨g0, r0⟩ := hI _ _ h0
  have hnx : n = xs.length := r0.1
  refine Bg (Df g0 rfl (AU (by omega) ?_))
  refine ⟨fun q i τ => ∃ k : Nat, q = xs.length - k ∧ i = (xs.length : Int) - 1 - k ∧ k ≤ xs.length ∧ I k τ, ⟨_, 0, rfl, by omega, by omega, h0⟩, ?_⟩
  rintro q i τ ⟨k, rfl, rfl, hk, hIk⟩ _
  obtain ⟨g1, r1⟩ := hI _ _ hIk
  refine Bc (fun hlt => ?_) (fun hge => ?_)
  · refine Bg (Df g1 rfl ?_)
    have ei : (xs.length : Int) - 1 - k = ((xs.length - 1 - k : Nat) : Int) := by omega
    rw [ei]
    refine Ea r1 (by omega) (by rw [Int.toNat_natCast]; omega) ?_
    have := hy k (by omega) τ hIk
    refine IF.mono this ?_
    rintro v τ' ⟨t, rfl, ht, hq⟩
    refine ⟨t, rfl, GZ (fun e => Ay (.inr (hq e))) (fun e => AU (by omega) (Bs _ (by omega) ⟨k + 1, rfl, by omega, by omega, ht e⟩))⟩
  · obtain rfl : k = xs.length := by omega
    exact Ay (.inl hIk)
end
end Go.Proofs.Ytkdjkkimngeloaa
