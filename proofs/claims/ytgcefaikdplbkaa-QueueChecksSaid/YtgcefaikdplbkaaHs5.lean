/- A sort by insertion; that it is what any sort gives where the order tells all elements apart. No program in sight. -/
import Derived.Test.YtgcefaikdplbkaaHs0
namespace Go.Proofs.Ytgcefaikdplbkaa
open Go.RowKit

section
variable {α : Type}
def insB (le : α → α → Bool) (x : α) : List α → List α
  | [] => [x]
  | y :: ys => if le x y = true then x :: y :: ys else y :: insB le x ys
def sortB (le : α → α → Bool) : List α → List α
  | [] => []
  | x :: xs => insB le x (sortB le xs)
theorem insB_perm (le : α → α → Bool) (x : α) : ∀ xs : List α, (insB le x xs).Perm (x :: xs)
  | [] => List.Perm.refl _
  | y :: ys => by
    unfold insB
    split
    · exact List.Perm.refl _
    · exact ((insB_perm le x ys).cons y).trans (List.Perm.swap x y ys)
theorem sortB_perm (le : α → α → Bool) : ∀ xs : List α, (sortB le xs).Perm xs
  | [] => List.Perm.refl _
  | x :: xs => (insB_perm le x _).trans ((sortB_perm le xs).cons x)
theorem sortB_length (le : α → α → Bool) (xs : List α) : (sortB le xs).length = xs.length := (sortB_perm le xs).length_eq
theorem mem_sortB {le : α → α → Bool} {xs : List α} {a : α} : a ∈ sortB le xs ↔ a ∈ xs := (sortB_perm le xs).mem_iff
theorem insB_sorted {le : α → α → Bool} (ht : ∀ a b c, le a b = true → le b c = true → le a c = true) (hl : ∀ a b, le a b = true ∨ le b a = true) (x : α) : ∀ xs : List α, xs.Pairwise (fun a b => le a b = true) → (insB le x xs).Pairwise (fun a b => le a b = true)
  | [], _ => by simp [insB]
  | y :: ys, h => by
    obtain ⟨h1, h2⟩ := List.pairwise_cons.1 h
    unfold insB
    split
    · rename_i hxy
      refine List.pairwise_cons.2 ⟨fun b hb => ?_, h⟩
      rcases List.mem_cons.1 hb with rfl | hb
      · exact hxy
      · exact ht _ _ _ hxy (h1 b hb)
    · rename_i hxy
      refine List.pairwise_cons.2 ⟨fun b hb => ?_, insB_sorted ht hl x ys h2⟩
      rcases List.mem_cons.1 ((insB_perm le x ys).mem_iff.1 hb) with rfl | hb
      · rcases hl b y with h3 | h3
        · exact absurd h3 hxy
        · exact h3
      · exact h1 b hb
theorem sortB_sorted {le : α → α → Bool} (ht : ∀ a b c, le a b = true → le b c = true → le a c = true) (hl : ∀ a b, le a b = true ∨ le b a = true) : ∀ xs : List α, (sortB le xs).Pairwise (fun a b => le a b = true)
  | [] => List.Pairwise.nil
  | x :: xs => insB_sorted ht hl x _ (sortB_sorted ht hl xs)
/-- two sorted lists of the same elements -/
theorem perm_sorted_eq {R : α → α → Prop} : ∀ {l1 l2 : List α}, l1.Perm l2 → l1.Pairwise R → l2.Pairwise R → (∀ a ∈ l1, ∀ b ∈ l1, R a b → R b a → a = b) → l1 = l2
  | [], l2, h, _, _, _ => (List.nil_perm.1 h).symm
  | a :: l1, [], h, _, _, _ => absurd h.length_eq (by simp)
  | a :: l1, b :: l2, h, h1, h2, ha => by
    obtain ⟨p1, p2⟩ := List.pairwise_cons.1 h1
    obtain ⟨q1, q2⟩ := List.pairwise_cons.1 h2
    have e : a = b := by
      have m1 : a ∈ b :: l2 := h.mem_iff.1 (List.mem_cons_self ..)
      have m2 : b ∈ a :: l1 := h.mem_iff.2 (List.mem_cons_self ..)
      rcases List.mem_cons.1 m1 with e | m1
      · exact e
      · rcases List.mem_cons.1 m2 with e | m2
        · exact e.symm
        · exact ha a (List.mem_cons_self ..) b (List.mem_cons_of_mem _ m2) (p1 b m2) (q1 a m1)
    subst e
    rw [perm_sorted_eq ((List.perm_cons a).1 h) p2 q2 fun x hx y hy => ha x (List.mem_cons_of_mem _ hx) y (List.mem_cons_of_mem _ hy)]
theorem mergeSort_sortB {le : α → α → Bool} (ht : ∀ a b c, le a b = true → le b c = true → le a c = true) (hl : ∀ a b, le a b = true ∨ le b a = true) {xs : List α} (ha : ∀ a ∈ xs, ∀ b ∈ xs, le a b = true → le b a = true → a = b) : xs.mergeSort le = sortB le xs := by
  refine perm_sorted_eq (R := fun a b => le a b = true) ((List.mergeSort_perm xs le).trans (sortB_perm le xs).symm) ?_ (sortB_sorted ht hl xs) fun a h1 b h2 => ha a ((List.mergeSort_perm xs le).mem_iff.1 h1) b ((List.mergeSort_perm xs le).mem_iff.1 h2)
  exact List.pairwise_mergeSort (le := le) (fun a b c => ht a b c) (fun a b => by
    rcases hl a b with h | h <;> simp [h]) xs
end
end Go.Proofs.Ytgcefaikdplbkaa
