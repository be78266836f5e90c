/- Trimmed by wip/trim.py to what this claim rests on. -/
import Derived.Test.YtkdjkkimngeloaaXVb22
import Derived.Test.YtkdjkkimngeloaaXVd3
namespace Go.Proofs.Ytkdjkkimngeloaa
open Go.RowKit
def R3 (m : Mp) (ls : List Lry) (t g : Int) (js' : List (List Leg)) (e : Int) : Prop :=
  (¬ cE m ls t g = 0 ∧ e = cE m ls t g ∧ js' = []) ∨ (cE m ls t g = 0 ∧ ((PS m ls t ∧ e = 3 ∧ js' = []) ∨ (e = 0 ∧ ∃ js ar out, IS m ls t js ar ∧ FX ar g (DF ls.length) out ∧ RT js ar out js')))
def Tu (m : Mp) (ls : List Lry) (t g : Int) (out : List Int) (e : Int) : Prop :=
  (¬ cE m ls t g = 0 ∧ e = cE m ls t g ∧ out = []) ∨ (cE m ls t g = 0 ∧ ((PS m ls t ∧ e = 3 ∧ out = []) ∨ (e = 0 ∧ ∃ js ar, IS m ls t js ar ∧ FX ar g (DF ls.length) out)))
theorem R3.small {m : Mp} {ls : List Lry} {t g e : Int} {x : List (List Leg)} (h : R3 m ls t g x e) : ∀ j ∈ x, j.length ≤ 156 := by
  intro j hj
  rcases h with ⟨_, _, rfl⟩ | ⟨c, (⟨_, _, rfl⟩ | ⟨_, js, ar, out, f, a, s⟩)⟩
  · cases hj
  · cases hj
  · obtain ⟨i, hi, rfl⟩ := List.mem_iff_getElem.1 hj
    have hi2 : i < js.length := by rw [← s.1]; exact hi
    have hi3 : i < ls.length := by rw [← f.1]; exact hi2
    obtain ⟨e1, hg⟩ := Om c
    obtain ⟨hm, h8, hlo, ht⟩ := JI e1
    have := ((f.2.2 i hi3 hi2 (by rw [f.2.1]; exact hi3)).sml hm.ok (hlo _ (List.getElem_mem hi3))).2.1
    rw [s.2 i hi2 hi]
    unfold shf
    rw [List.length_map]
    exact this
section
variable {σ : Hp}
theorem F3.nil {A : Option Addr} : F3 σ A 0 [] := ⟨([] : List (Option Addr × Nat × Nat)), ⟨rfl, .inl rfl⟩, rfl, fun _ h1 => absurd h1 (Nat.not_lt_zero _)⟩
theorem MO {w : MW} {m : Mp} {t g : Int} {A : Option Addr} {n c : Nat} {ls : List LrT} (h : MIn σ w m) (hp : m.pk.length ≤ 4294967296) (hr : m.rs.length ≤ 4294967296) (hl : RdS sL σ A n ls) (hll : ls.length ≤ 4294967296) :
    Af Try.prog CJ #[w.v, .slice A n c, .int .i64 t, .int .i64 g] σ fun v σ' => Hp.Sub σ σ' ∧ ∃ A' n' c' e js, v = .tuple #[.slice A' n' c', .int .i64 e] ∧ F3 σ' A' n' js ∧ R3 m (ls.map AN) t g js e := by
  refine (MT (c := c) (t := t) (g := g) h hp hr hl hll).mono ?_
  rintro v σ' ⟨hs, (⟨e, rfl⟩ | ⟨e0, (⟨hno, rfl⟩ | ⟨A', n', c', js, ar, out, js', rfl, hj, hf, ha, hq⟩)⟩)⟩
  · exact ⟨hs, _, _, _, _, [], rfl, F3.nil, .inl ⟨e, rfl, rfl⟩⟩
  · exact ⟨hs, _, _, _, _, [], rfl, F3.nil, .inr ⟨e0, .inl ⟨hno, rfl, rfl⟩⟩⟩
  · exact ⟨hs, _, _, _, _, js', rfl, hj, .inr ⟨e0, .inr ⟨rfl, js, ar, out, hf, by rw [List.length_map]; exact ha, hq⟩⟩⟩
theorem Mk {w : MW} {m : Mp} {t g : Int} {A : Option Addr} {n c : Nat} {ls : List LrT} (h : MIn σ w m) (hp : m.pk.length ≤ 4294967296) (hr : m.rs.length ≤ 4294967296) (hl : RdS sL σ A n ls) (hll : ls.length ≤ 4294967296) :
    Af Try.prog CY #[w.v, .slice A n c, .int .i64 t, .int .i64 g] σ fun v σ' => Hp.Sub σ σ' ∧ ∃ A' n' c' e, ∃ out : List Int, v = .tuple #[.slice A' n' c', .int .i64 e] ∧ RdS [.int .i64] σ' A' n' out ∧ Tu m (ls.map AN) t g out e := by
  refine (Mg (c := c) (t := t) (g := g) h hp hr hl hll).mono ?_
  rintro v σ' ⟨hs, (⟨e, rfl⟩ | ⟨e0, (⟨hno, rfl⟩ | ⟨A', n', c', js, ar, out, rfl, hj, hf, ha⟩)⟩)⟩
  · exact ⟨hs, _, _, _, _, [], rfl, ⟨rfl, .inl rfl⟩, .inl ⟨e, rfl, rfl⟩⟩
  · exact ⟨hs, _, _, _, _, [], rfl, ⟨rfl, .inl rfl⟩, .inr ⟨e0, .inl ⟨hno, rfl, rfl⟩⟩⟩
  · exact ⟨hs, _, _, _, _, out, rfl, hj, .inr ⟨e0, .inr ⟨rfl, js, ar, hf, by rw [List.length_map]; exact ha⟩⟩⟩
end
end Go.Proofs.Ytkdjkkimngeloaa
