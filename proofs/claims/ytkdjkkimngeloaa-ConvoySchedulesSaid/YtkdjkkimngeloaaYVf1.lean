/- Trimmed by wip/trim.py to what this claim rests on. -/
import Derived.Test.YtkdjkkimngeloaaYVe6
import Derived.Test.YtkdjkkimngeloaaYVd3
namespace Go.Proofs.Ytkdjkkimngeloaa
open Go.RowKit
def Mm (m : Mp) (ls : List Lry) (t g : Int) (js' : List (List Leg)) (e : Int) : Prop :=
  (¬ cE m ls t g = 0 ∧ e = cE m ls t g ∧ js' = []) ∨ (cE m ls t g = 0 ∧ ((Nc m ls t ∧ e = 3 ∧ js' = []) ∨ (e = 0 ∧ ∃ js ar out, EM m ls t js ar ∧ Ez ar g (ED ls.length) out ∧ Pt js ar out js')))
def Oo (m : Mp) (ls : List Lry) (t g : Int) (out : List Int) (e : Int) : Prop :=
  (¬ cE m ls t g = 0 ∧ e = cE m ls t g ∧ out = []) ∨ (cE m ls t g = 0 ∧ ((Nc m ls t ∧ e = 3 ∧ out = []) ∨ (e = 0 ∧ ∃ js ar, EM m ls t js ar ∧ Ez ar g (ED ls.length) out)))
theorem Mm.uniq {m : Mp} {ls : List Lry} {t g e e' : Int} {x x' : List (List Leg)} (h : Mm m ls t g x e) (h' : Mm m ls t g x' e') : x = x' ∧ e = e' := by
  rcases h with ⟨c, rfl, rfl⟩ | ⟨c, h⟩
  · rcases h' with ⟨_, rfl, rfl⟩ | ⟨c', _⟩
    · exact ⟨rfl, rfl⟩
    · exact absurd c' c
  · rcases h' with ⟨c', _⟩ | ⟨_, h'⟩
    · exact absurd c c'
    · rcases h with ⟨n, rfl, rfl⟩ | ⟨rfl, js, ar, out, f, a, s⟩
      · rcases h' with ⟨_, rfl, rfl⟩ | ⟨_, js, ar, out, f, _⟩
        · exact ⟨rfl, rfl⟩
        · exact absurd n f.nn
      · rcases h' with ⟨n, _⟩ | ⟨rfl, js', ar', out', f', a', s'⟩
        · exact absurd n f.nn
        · obtain ⟨rfl, rfl⟩ := f.uniq f'
          obtain rfl := a.uniq a'
          exact ⟨s.uniq s', rfl⟩
theorem Oo.uniq {m : Mp} {ls : List Lry} {t g e e' : Int} {x x' : List Int} (h : Oo m ls t g x e) (h' : Oo m ls t g x' e') : x = x' ∧ e = e' := by
  rcases h with ⟨c, rfl, rfl⟩ | ⟨c, h⟩
  · rcases h' with ⟨_, rfl, rfl⟩ | ⟨c', _⟩
    · exact ⟨rfl, rfl⟩
    · exact absurd c' c
  · rcases h' with ⟨c', _⟩ | ⟨_, h'⟩
    · exact absurd c c'
    · rcases h with ⟨n, rfl, rfl⟩ | ⟨rfl, js, ar, f, a⟩
      · rcases h' with ⟨_, rfl, rfl⟩ | ⟨_, js, ar, f, _⟩
        · exact ⟨rfl, rfl⟩
        · exact absurd n f.nn
      · rcases h' with ⟨n, _⟩ | ⟨rfl, js', ar', f', a'⟩
        · exact absurd n f.nn
        · obtain ⟨rfl, rfl⟩ := f.uniq f'
          exact ⟨a.uniq a', rfl⟩
theorem Mm.small {m : Mp} {ls : List Lry} {t g e : Int} {x : List (List Leg)} (h : Mm m ls t g x e) : ∀ j ∈ x, j.length ≤ 156 := by
  intro j hj
  rcases h with ⟨_, _, rfl⟩ | ⟨c, (⟨_, _, rfl⟩ | ⟨_, js, ar, out, f, a, s⟩)⟩
  · cases hj
  · cases hj
  · obtain ⟨i, hi, rfl⟩ := List.mem_iff_getElem.1 hj
    have hi2 : i < js.length := by rw [← s.1]; exact hi
    have hi3 : i < ls.length := by rw [← f.1]; exact hi2
    obtain ⟨e1, hg⟩ := Oj c
    obtain ⟨hm, h8, hlo, ht⟩ := L6 e1
    have := ((f.2.2 i hi3 hi2 (by rw [f.2.1]; exact hi3)).sml hm.ok (hlo _ (List.getElem_mem hi3))).2.1
    rw [s.2 i hi2 hi]
    unfold shf
    rw [List.length_map]
    exact this
theorem Mm.len {m : Mp} {ls : List Lry} {t g e : Int} {x : List (List Leg)} (h : Mm m ls t g x e) : x.length ≤ ls.length := by
  rcases h with ⟨_, _, rfl⟩ | ⟨_, (⟨_, _, rfl⟩ | ⟨_, js, ar, out, f, a, s⟩)⟩
  · exact Nat.zero_le _
  · exact Nat.zero_le _
  · rw [s.1, f.1]
    exact Nat.le_refl _
theorem Oo.len {m : Mp} {ls : List Lry} {t g e : Int} {x : List Int} (h : Oo m ls t g x e) : x.length ≤ ls.length := by
  rcases h with ⟨_, _, rfl⟩ | ⟨_, (⟨_, _, rfl⟩ | ⟨_, js, ar, f, a⟩)⟩
  · exact Nat.zero_le _
  · exact Nat.zero_le _
  · rw [a.1, DE]
    exact Nat.le_refl _
section
variable {σ : Hp}
theorem GT.nil {A : Option Addr} : GT σ A 0 [] := ⟨([] : List (Option Addr × Nat × Nat)), ⟨rfl, .inl rfl⟩, rfl, fun _ h1 => absurd h1 (Nat.not_lt_zero _)⟩
theorem N2 {w : MW} {m : Mp} {t g : Int} {A : Option Addr} {n c : Nat} {ls : List LrT} (h : MIn σ w m) (hp : m.pk.length ≤ 4294967296) (hr : m.rs.length ≤ 4294967296) (hl : RdS sL σ A n ls) (hll : ls.length ≤ 4294967296) :
    Ah Try.prog C5 #[w.v, .slice A n c, .int .i64 t, .int .i64 g] σ fun v σ' => Hp.Sub σ σ' ∧ ∃ A' n' c' e js, v = .tuple #[.slice A' n' c', .int .i64 e] ∧ GT σ' A' n' js ∧ Mm m (ls.map AM) t g js e := by
  refine (Ol (c := c) (t := t) (g := g) h hp hr hl hll).mono ?_
  rintro v σ' ⟨hs, (⟨e, rfl⟩ | ⟨e0, (⟨hno, rfl⟩ | ⟨A', n', c', js, ar, out, js', rfl, hj, hf, ha, hq⟩)⟩)⟩
  · exact ⟨hs, _, _, _, _, [], rfl, GT.nil, .inl ⟨e, rfl, rfl⟩⟩
  · exact ⟨hs, _, _, _, _, [], rfl, GT.nil, .inr ⟨e0, .inl ⟨hno, rfl, rfl⟩⟩⟩
  · exact ⟨hs, _, _, _, _, js', rfl, hj, .inr ⟨e0, .inr ⟨rfl, js, ar, out, hf, by rw [List.length_map]; exact ha, hq⟩⟩⟩
theorem N0 {w : MW} {m : Mp} {t g : Int} {A : Option Addr} {n c : Nat} {ls : List LrT} (h : MIn σ w m) (hp : m.pk.length ≤ 4294967296) (hr : m.rs.length ≤ 4294967296) (hl : RdS sL σ A n ls) :
    Ah Try.prog Fs #[w.v, .slice A n c, .int .i64 t, .int .i64 g] σ fun v σ' => Hp.Sub σ σ' ∧ ∃ A' n' c' e js, v = .tuple #[.slice A' n' c', .int .i64 e] ∧ GT σ' A' n' js ∧ Mm m (ls.map AM) t g js e := by
  refine (OF (c := c) (t := t) (g := g) h hp hr hl).mono ?_
  rintro v σ' ⟨hs, (⟨e, rfl⟩ | ⟨e0, (⟨hno, rfl⟩ | ⟨A', n', c', js, ar, out, js', rfl, hj, hf, ha, hq⟩)⟩)⟩
  · exact ⟨hs, _, _, _, _, [], rfl, GT.nil, .inl ⟨e, rfl, rfl⟩⟩
  · exact ⟨hs, _, _, _, _, [], rfl, GT.nil, .inr ⟨e0, .inl ⟨hno, rfl, rfl⟩⟩⟩
  · exact ⟨hs, _, _, _, _, js', rfl, hj, .inr ⟨e0, .inr ⟨rfl, js, ar, out, hf, by rw [List.length_map]; exact ha, hq⟩⟩⟩
theorem N7 {w : MW} {m : Mp} {t g : Int} {A : Option Addr} {n c : Nat} {ls : List LrT} (h : MIn σ w m) (hp : m.pk.length ≤ 4294967296) (hr : m.rs.length ≤ 4294967296) (hl : RdS sL σ A n ls) (hll : ls.length ≤ 4294967296) :
    Ah Try.prog C8 #[w.v, .slice A n c, .int .i64 t, .int .i64 g] σ fun v σ' => Hp.Sub σ σ' ∧ ∃ A' n' c' e, ∃ out : List Int, v = .tuple #[.slice A' n' c', .int .i64 e] ∧ RdS [.int .i64] σ' A' n' out ∧ Oo m (ls.map AM) t g out e := by
  refine (OE (c := c) (t := t) (g := g) h hp hr hl hll).mono ?_
  rintro v σ' ⟨hs, (⟨e, rfl⟩ | ⟨e0, (⟨hno, rfl⟩ | ⟨A', n', c', js, ar, out, rfl, hj, hf, ha⟩)⟩)⟩
  · exact ⟨hs, _, _, _, _, [], rfl, ⟨rfl, .inl rfl⟩, .inl ⟨e, rfl, rfl⟩⟩
  · exact ⟨hs, _, _, _, _, [], rfl, ⟨rfl, .inl rfl⟩, .inr ⟨e0, .inl ⟨hno, rfl, rfl⟩⟩⟩
  · exact ⟨hs, _, _, _, _, out, rfl, hj, .inr ⟨e0, .inr ⟨rfl, js, ar, hf, by rw [List.length_map]; exact ha⟩⟩⟩
theorem Oq {w : MW} {m : Mp} {t g : Int} {A : Option Addr} {n c : Nat} {ls : List LrT} (h : MIn σ w m) (hp : m.pk.length ≤ 4294967296) (hr : m.rs.length ≤ 4294967296) (hl : RdS sL σ A n ls) :
    Ah Try.prog Fw #[w.v, .slice A n c, .int .i64 t, .int .i64 g] σ fun v σ' => Hp.Sub σ σ' ∧ ∃ A' n' c' e, ∃ out : List Int, v = .tuple #[.slice A' n' c', .int .i64 e] ∧ RdS [.int .i64] σ' A' n' out ∧ Oo m (ls.map AM) t g out e := by
  refine (Ks (c := c) (t := t) (g := g) h hp hr hl).mono ?_
  rintro v σ' ⟨hs, (⟨e, rfl⟩ | ⟨e0, (⟨hno, rfl⟩ | ⟨A', n', c', js, ar, out, rfl, hj, hf, ha⟩)⟩)⟩
  · exact ⟨hs, _, _, _, _, [], rfl, ⟨rfl, .inl rfl⟩, .inl ⟨e, rfl, rfl⟩⟩
  · exact ⟨hs, _, _, _, _, [], rfl, ⟨rfl, .inl rfl⟩, .inr ⟨e0, .inl ⟨hno, rfl, rfl⟩⟩⟩
  · exact ⟨hs, _, _, _, _, out, rfl, hj, .inr ⟨e0, .inr ⟨rfl, js, ar, hf, by rw [List.length_map]; exact ha⟩⟩⟩
end
end Go.Proofs.Ytkdjkkimngeloaa
