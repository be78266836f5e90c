/- Trimmed by wip/trim.py to what this claim rests on. -/
import Derived.Test.YtkdjkkimngeloaaZVb2
import Derived.Test.YtkdjkkimngeloaaZVs3
import Derived.Test.YtkdjkkimngeloaaZVb16
import Derived.Test.YtkdjkkimngeloaaZC4
namespace Go.Proofs.Ytkdjkkimngeloaa
open Go.RowKit
theorem TJ {m : Mp} {l : Lry} {t : Int} (h : eT m [l] t = 0) : MpS m ∧ Bi m l ∧ 0 ≤ t ∧ t < m.pk.length := by
  obtain ⟨a, _, b, c⟩ := ML h
  exact ⟨a, b l (List.mem_singleton.2 rfl), c⟩
def Lry.up (l : Lry) (h : Int) : Lry := { l with h := h }
def hts (m : Mp) : List Int := 1000 :: m.rs.map fun r => r.2.2.2.1
theorem MT {m : Mp} {l : Lry} (hm : MpS m) (hl : Bi m l) {h : Int} (hh : h ∈ hts m) : Bi m (l.up h) := by
  refine ⟨?_, hl.w, hl.f, hl.y, hl.d, hl.s⟩
  show 0 ≤ h ∧ h ≤ 1000
  rcases List.mem_cons.1 hh with rfl | hh
  · omega
  · obtain ⟨r, hr, rfl⟩ := List.mem_map.1 hh
    exact (hm.r r hr).2.2.2.2.1
def HgR (m : Mp) (l : Lry) (t h : Int) : Prop := h ∈ hts m ∧ ¬ Non m (l.up h) t ∧ ∀ h' ∈ hts m, h < h' → Non m (l.up h') t
def HgN (m : Mp) (l : Lry) (t : Int) : Prop := ∀ h ∈ hts m, Non m (l.up h) t
theorem Sn.nn {m : Mp} {l : Lry} {t : Int} {c : Cst} (h : Sn m l t c) : ¬ Non m l t := fun hn => by
  obtain ⟨p, h1, h2⟩ := h.1
  exact hn p c h1 h2
section
variable {σ : Hp}
set_option maxRecDepth 100000 in
theorem SH {w : MW} {m : Mp} {l : Lry} {t : Int} (h : MIn σ w m) (hp : m.pk.length ≤ 4294967296) (hr : m.rs.length ≤ 4294967296) : Ag Try.prog L5 #[w.v, l.v, .int .i64 t] σ fun v σ' =>
    (¬ eT m [l] t = 0 ∧ v = .tuple #[.slice none 0 0, .int .i64 (eT m [l] t)] ∧ σ' = σ) ∨ (eT m [l] t = 0 ∧ ((Non m l t ∧ v = .tuple #[.slice none 0 0, .int .i64 3] ∧ σ' = σ) ∨ ∃ A n c js a, v = .tuple #[.slice A n c, .int .i64 0] ∧ Aj 60 sJ σ A n c js σ' ∧ Bst m l t (a, js))) := by
  refine JZ _ _ _ _ _ _ _ _ _ _ _ _ _ _ _ ?_
  unfold Er
  intro A1 l1 c1 σ2 ho
  have hs : Hp.Sub σ σ2 := ho.sub
  refine clI BT (H3 (h.up hs) hp hr ho.rd (show (1 : Nat) ≤ _ by decide)) ?_
  show bc (!decide (eT m [l] t = 0)) _ _
  refine Bj (fun e => CY hs (.inl ⟨e, rfl, rfl⟩)) (fun e => ?_)
  obtain ⟨hm, hl, _⟩ := TJ e
  refine AV Cn (Q8 (h.up hs) hm.ok hl) ?_
  rintro v σ7 (⟨rfl, rfl, hn⟩ | ⟨A, n, c, js, a, rfl, ho2, hb⟩)
  · exact ⟨_, _, _, _, rfl, Hn (fun _ => CY hs (.inr ⟨e, .inl ⟨hn, rfl, rfl⟩⟩)) (fun e => by cases e)⟩
  · refine ⟨_, _, _, _, rfl, Hn (fun e => by cases e) (fun _ => ?_)⟩
    obtain ⟨σ4, h6, h7⟩ := Al.ownJ.less ho2 hs
    exact CY h7 (.inr ⟨e, .inr ⟨_, _, _, js, a, rfl, h6, hb⟩⟩)
theorem Qy {A : Option Addr} {n c : Nat} : Ag Try.prog Hh #[.slice A n c] σ fun v σ' => ∃ b, v = .func (.func Da) #[] #[.pointer (some ⟨b, 0, none⟩)] ∧ Blk b (.cells #[.slice A n c] 45 (0, 0)) σ σ' := by
  refine Fz _ _ _ _ _ ?_
  intro b nb
  exact Av ⟨b, rfl, nb, rfl⟩
set_option maxRecDepth 100000 in
theorem OE {y : Value} {b : Nat} {A : Option Addr} {n c : Nat} {xs : List Int} {I : Nat → Hp → Prop} {Q : Hp → Prop} (hn : n ≤ 4294967296)
    (hI : ∀ i τ, I i τ → τ b = some (.cells #[.slice A n c] 45 (0, 0), true) ∧ RdS [.int .i64] τ A n xs)
    (hy : ∀ i (h : i < xs.length) τ, I i τ → HY Try.prog y #[.int .i64 ((xs.length - 1 - i : Nat) : Int), .int .i64 (xs[xs.length - 1 - i]'(by omega))] τ fun v τ' => ∃ t : Bool, v = .bool t ∧ (t = true → I (i + 1) τ') ∧ (t = false → Q τ'))
    (h0 : I 0 σ) : Ag Try.prog Da #[y, .pointer (some ⟨b, 0, none⟩)] σ fun _ σ' => I xs.length σ' ∨ Q σ' := by
  refine EG _ _ _ _ ?_
  unfold B0
  obtain ⟨g0, r0⟩ := hI _ _ h0
  have hnx : n = xs.length := r0.1
  refine AN (CP g0 rfl (AL (by omega) ?_))
  refine ⟨fun q i τ => ∃ k : Nat, q = xs.length - k ∧ i = (xs.length : Int) - 1 - k ∧ k ≤ xs.length ∧ I k τ, ⟨_, 0, rfl, by omega, by omega, h0⟩, ?_⟩
  rintro q i τ ⟨k, rfl, rfl, hk, hIk⟩ _
  obtain ⟨g1, r1⟩ := hI _ _ hIk
  refine AK (fun hlt => ?_) (fun hge => ?_)
  · refine AN (CP g1 rfl ?_)
    have ei : (xs.length : Int) - 1 - k = ((xs.length - 1 - k : Nat) : Int) := by omega
    rw [ei]
    refine BP r1 (by omega) (by rw [Int.toNat_natCast]; omega) ?_
    have := hy k (by omega) τ hIk
    refine HY.mono this ?_
    rintro v τ' ⟨t, rfl, ht, hq⟩
    refine ⟨t, rfl, Hn (fun e => Av (.inr (hq e))) (fun e => AL (by omega) (Bf _ (by omega) ⟨k + 1, rfl, by omega, by omega, ht e⟩))⟩
  · obtain rfl : k = xs.length := by omega
    exact Av (.inl hIk)
end
end Go.Proofs.Ytkdjkkimngeloaa
