/- Trimmed by wip/trim.py to what this claim rests on. -/
import Derived.Test.YtkdjkkimngeloaaXVs2
namespace Go.Proofs.Ytkdjkkimngeloaa
open Go.RowKit Go.Shelf Go.Sort Go.Lib
set_option maxRecDepth 100000 in
theorem Mb {σ0 σ : Hp} {A : Option Addr} {n c : Nat} {xs : List Int} (ho : Ap 3 [.int .i64] σ0 A n c xs σ) (hl : xs.length ≤ 4294967296) :
    Af Try.prog 54 #[.slice A n c] σ fun v σ' => v = .tuple #[] ∧ ∃ ys : List Int, (ys.Perm xs ∧ ys.Pairwise fun p q => p ≤ q) ∧ Ap 3 [.int .i64] σ0 A n c ys σ' := by
  rcases ho with ⟨rfl, rfl, rfl, rfl, rfl⟩ | ⟨b, off, cells, hA, hn, hnc, hb, rfl, hsz, hr⟩
  · refine (Jc fun w => AnyM.slices_Sort_int_none Ytkdjkkimngeloaa.sortI none 0 w).mono ?_
    rintro v σ' ⟨rfl, rfl⟩
    exact ⟨rfl, [], ⟨List.Perm.refl _, List.Pairwise.nil⟩, Ap.nil ..⟩
  · have hr' : ∀ i, (h : i < xs.length) → cells[off + i]? = some (.int .i64 xs[i]) := fun i h => by
      have := hr i 0 h (by show 0 < 1; omega)
      simp only [List.length_cons, List.length_nil, Nat.zero_add, Nat.mul_one, Nat.add_zero] at this
      rw [this]
      rfl
    have hsz' : off + c ≤ cells.size := by simpa using hsz
    have hnx : n = xs.length := hn
    have hlen : (xs.mergeSort fun x y : Int => decide (x ≤ y)).length = xs.length := List.length_mergeSort ..
    have hp : (xs.mergeSort fun x y : Int => decide (x ≤ y)).Perm xs := List.mergeSort_perm ..
    have hpw : (xs.mergeSort fun x y : Int => decide (x ≤ y)).Pairwise fun p q => p ≤ q := by
      have := List.pairwise_mergeSort (le := fun x y : Int => decide (x ≤ y)) (fun a b c h1 h2 => decide_eq_true (Int.le_trans (of_decide_eq_true h1) (of_decide_eq_true h2))) (fun a b => by
        simp only [Bool.or_eq_true, decide_eq_true_eq]; omega) xs
      exact this.imp fun h => of_decide_eq_true h
    generalize hys : (xs.mergeSort fun x y : Int => decide (x ≤ y)) = ys at hlen hp hpw
    refine Jd (G := fun ys : List (TyR [.int .i64]) => List.Perm (α := Int) ys xs ∧ List.Pairwise (α := Int) (fun p q => p ≤ q) ys) hA hnc hb hsz ?_
    intro w hw _
    have hwl := (Array.getElem?_eq_some_iff.1 hw).1
    subst hA
    have := AnyM.slices_Sort_int Ytkdjkkimngeloaa.sortI b off c xs w (fun j hj => ?_) hwl (by omega)
    · rw [← hnx] at this
      refine this.mono ?_
      rintro x w' ⟨rfl, q, os, rfl⟩
      have hys' : xs.mergeSort (fun x y : Int => decide (x ≤ y)) = ys := hys
      refine ⟨rfl, ys, putCells (Value.int .i64) off ys.toArray, q, os, ⟨hp, hpw⟩, hnx.trans hlen.symm, by simp [putCells], ?_, ?_⟩
      · intro i j hi hj
        have hj0 : j = 0 := by simpa using hj
        subst hj0
        have hi' : i < ys.length := hi
        show (putCells (Value.int .i64) off ys.toArray cells)[off + (i * 1 + 0)]? = some (Value.int .i64 (ys[i]'hi'))
        rw [Nat.mul_one, Nat.add_zero]
        unfold putCells
        rw [Array.getElem?_mapIdx, Array.getElem?_eq_getElem (by omega), Option.map_some, if_pos ⟨by omega, by simpa using hi'⟩, Nat.add_sub_cancel_left, getElem!_pos _ _ (by simpa using hi')]
        rfl
      · rw [← hys]
        rfl
    · have hj' : j < xs.length := by simpa using hj
      refine ⟨?_, ?_⟩
      · unfold World.cell?
        rw [hw]
        show (if _ then none else cells[off + j]?) = _
        rw [hr' j hj', getElem!_pos xs.toArray j hj]
        rfl
      · unfold World.frozen?
        rw [hw]
        show (decide (0 ≤ off + j) && decide (off + j < 0)) = false
        simp
end Go.Proofs.Ytkdjkkimngeloaa
