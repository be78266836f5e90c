/- Trimmed by wip/trim.py to what this claim rests on. -/
import Derived.Test.YtkdjkkimngeloaaZVb6
namespace Go.Proofs.Ytkdjkkimngeloaa
open Go.RowKit
theorem Aj.take {e : TypeId} {ss : List Sh} {σ σ' : Hp} {A : Option Addr} {n c k : Nat} {xs : List (TyR ss)} (h : Aj e ss σ A n c xs σ') (hk : k ≤ n) : Aj e ss σ A k c (xs.take k) σ' := by
  rcases h with ⟨rfl, rfl, rfl, rfl, rfl⟩ | ⟨b, off, cells, hA, hn, hnc, hb, rfl, hsz, hr⟩
  · obtain rfl : k = 0 := by omega
    exact .inl ⟨rfl, rfl, rfl, rfl, rfl⟩
  · refine .inr ⟨b, off, cells, hA, by rw [List.length_take]; omega, by omega, hb, rfl, hsz, fun i j hi hj => ?_⟩
    rw [List.length_take] at hi
    rw [hr i j (by omega) hj, List.getElem_take]
abbrev hv (b : Nat) : Value := .iface 154 (.pointer (some ⟨b, 0, none⟩))
def Stk (b : Nat) (xs : List Stp) : Rel := fun σ σ' => ∃ A n c σ1, Aj 156 s4 σ A n c xs σ1 ∧ Blk b (.cells #[.slice A n c] 158 (0, 0)) σ1 σ'
theorem Al.stk {b : Nat} {xs : List Stp} : Al (Stk b xs) := Al.ex fun _ => Al.ex fun _ => Al.ex fun _ => Al.seq (R := fun σ σ' => Aj 156 s4 σ _ _ _ xs σ') (S := Blk b _) Al.own Al.blk
section
variable {σ σ' : Hp} {b : Nat} {xs : List Stp}
def Mth (P : Program) (t : TypeId) (v : Value) (m : String) (f : FuncId) (rv : Value) (σ : Hp) : Prop := ywp P (method (P.types.size + Made.depth) t v m) (fun x => x = (f, rv)) σ
theorem Rn {v : Value} (h : σ.cell? ⟨b, 0, none⟩ = some v) : Mth Try.prog 154 (.pointer (some ⟨b, 0, none⟩)) "Len" BM v σ := by
  have e : Mth Try.prog 154 (.pointer (some ⟨b, 0, none⟩)) "Len" BM v σ = (∃ u, σ.cell? ⟨b, 0, none⟩ = some u ∧ (BM, u) = (BM, v)) := by kernel_rfl
  rw [e]
  exact ⟨v, h, rfl⟩
theorem SW {v : Value} (h : σ.cell? ⟨b, 0, none⟩ = some v) : Mth Try.prog 154 (.pointer (some ⟨b, 0, none⟩)) "Less" BC v σ := by
  have e : Mth Try.prog 154 (.pointer (some ⟨b, 0, none⟩)) "Less" BC v σ = (∃ u, σ.cell? ⟨b, 0, none⟩ = some u ∧ (BC, u) = (BC, v)) := by kernel_rfl
  rw [e]
  exact ⟨v, h, rfl⟩
theorem Tw {v : Value} (h : σ.cell? ⟨b, 0, none⟩ = some v) : Mth Try.prog 154 (.pointer (some ⟨b, 0, none⟩)) "Swap" BB v σ := by
  have e : Mth Try.prog 154 (.pointer (some ⟨b, 0, none⟩)) "Swap" BB v σ = (∃ u, σ.cell? ⟨b, 0, none⟩ = some u ∧ (BB, u) = (BB, v)) := by kernel_rfl
  rw [e]
  exact ⟨v, h, rfl⟩
theorem T4 : Mth Try.prog 154 (.pointer (some ⟨b, 0, none⟩)) "Push" BD (.pointer (some ⟨b, 0, none⟩)) σ := by
  have e : Mth Try.prog 154 (.pointer (some ⟨b, 0, none⟩)) "Push" BD (.pointer (some ⟨b, 0, none⟩)) σ = ((BD, (.pointer (some ⟨b, 0, none⟩) : Value)) = (BD, .pointer (some ⟨b, 0, none⟩))) := by kernel_rfl
  rw [e]
theorem UF : Mth Try.prog 154 (.pointer (some ⟨b, 0, none⟩)) "Pop" BK (.pointer (some ⟨b, 0, none⟩)) σ := by
  have e : Mth Try.prog 154 (.pointer (some ⟨b, 0, none⟩)) "Pop" BK (.pointer (some ⟨b, 0, none⟩)) σ = ((BK, (.pointer (some ⟨b, 0, none⟩) : Value)) = (BK, .pointer (some ⟨b, 0, none⟩))) := by kernel_rfl
  rw [e]
theorem Sm {P : Program} {t : TypeId} {v rv : Value} {m : String} {args : Array Value} {R : Value → Hp → Prop} {f : FuncId} (h1 : Mth P t v m f rv σ) (h2 : Aw P f = true) (h3 : Ag P f (P9 #[rv] args) σ R) : ivk P (.iface t v) m args σ R := ⟨f, rv, h1, h2, h3⟩
set_option maxRecDepth 100000 in
theorem Rf {K : Value → Hp → Prop} (h : Stk b xs σ σ') (hk : K (.int .i64 xs.length) σ') : ivk Try.prog (hv b) "Len" #[] σ' K := by
  obtain ⟨A, n, c, σ1, ho, hb⟩ := h
  have hn : n = xs.length := ho.len
  refine Sm (Rn (AX hb.get rfl)) CM ?_
  refine Ag.mono (Lc (A := A) (n := n) (c := c)) fun v σ2 h => ?_
  obtain ⟨rfl, rfl⟩ := h
  rw [hn]
  exact hk
set_option maxRecDepth 100000 in
theorem MX {K : Value → Hp → Prop} {i k : Nat} (h : Stk b xs σ σ') (hc : ∀ x ∈ xs, cOK (Stp.c x)) (hi : i < xs.length) (hkl : k < xs.length) (hk : K (.bool (decide (cl1 xs i k))) σ') : ivk Try.prog (hv b) "Less" #[.int .i64 i, .int .i64 k] σ' K := by
  obtain ⟨A, n, c, σ1, ho, hb⟩ := h
  refine Sm (SW (AX hb.get rfl)) E1 ?_
  refine Ag.mono (On (ho.rd.sub (Al.blk.sub hb)) hi hkl hc) fun v σ2 h => ?_
  obtain ⟨rfl, rfl⟩ := h
  exact hk
set_option maxRecDepth 100000 in
theorem Mj {K : Value → Hp → Prop} {i k : Nat} (h : Stk b xs σ σ') (hi : i < xs.length) (hkl : k < xs.length) (hk : ∀ σ2, Stk b (Ke xs i k) σ σ2 → K (.tuple #[]) σ2) : ivk Try.prog (hv b) "Swap" #[.int .i64 i, .int .i64 k] σ' K := by
  obtain ⟨A, n, c, σ1, ho, hb⟩ := h
  refine Sm (Tw (AX hb.get rfl)) EW ?_
  refine Ag.mono (Ag.over (R := Blk b _) Al.blk (Ov ho hi hkl) hb) fun v σ2 h => ?_
  obtain ⟨σ3, ⟨rfl, h1⟩, h2⟩ := h
  exact hk _ ⟨A, n, c, σ3, h1, h2⟩
theorem Pb {v : Value} {K : Value → Prop} (h : K v) : tas Try.prog (.iface 156 v) 20 156 σ K := by
  have e : tas Try.prog (.iface 156 v) 20 156 σ K = K v := by kernel_rfl
  rw [e]; exact h
set_option maxRecDepth 100000 in
theorem Oz {x : Stp} (h : Stk b xs σ σ') (hl : xs.length ≤ 4294967295) : Ag Try.prog BD #[.pointer (some ⟨b, 0, none⟩), .iface 156 (stV x)] σ' fun v σ2 => v = .tuple #[] ∧ Stk b (xs ++ [x]) σ σ2 := by
  obtain ⟨A, n, c, σ1, ho, hb⟩ := h
  refine Gp _ _ _ _ ?_
  unfold CG
  refine AN (CP hb.get rfl (Pb ⟨Hp.Sub.refl _, _, _, _, _, rfl, ?_⟩))
  obtain ⟨σ2, hb2, ho2⟩ := Al.swap (R := fun σ σ' => Aj 156 s4 σ A n c xs σ') (S := Blk b _) Al.own Al.blk ho hb
  refine J4 ho2 (Bb (by show xs.length + 1 ≤ _; omega) (AN ?_))
  intro A3 n3 c3 σ3 ho3
  obtain ⟨w, hb4, _⟩ := hb2.st ho3.sub (k := 0) (show (0 : Nat) < 1 by omega) (.slice A3 n3 c3)
  have ho4 := Al.put (R := fun σ σ' => Aj 156 s4 σ A3 n3 c3 (xs ++ [x]) σ') Al.own ho3 hb2.get (k := 0) (.slice A3 n3 c3)
  obtain ⟨σ5, ho5, hb5⟩ := Al.swap (R := Blk b _) (S := fun σ σ' => Aj 156 s4 σ A3 n3 c3 (xs ++ [x]) σ') Al.blk Al.own hb4 ho4
  exact ⟨w, Av ⟨rfl, A3, n3, c3, σ5, ho5, hb5⟩⟩
set_option maxRecDepth 100000 in
theorem PM (h : Stk b xs σ σ') (h0 : 0 < xs.length) (hl : xs.length ≤ 4294967295) : Ag Try.prog BK #[.pointer (some ⟨b, 0, none⟩)] σ' fun v σ2 => v = .iface 156 (stV (gs xs (xs.length - 1))) ∧ Stk b (xs.take (xs.length - 1)) σ σ2 := by
  obtain ⟨A, n, c, σ1, ho, hb⟩ := h
  have hn : n = xs.length := ho.len
  have hc : n ≤ c := by
    rcases ho with ⟨_, rfl, rfl, _⟩ | ⟨_, _, _, _, _, h, _⟩
    · exact Nat.le_refl _
    · exact h
  refine Hd _ _ _ ?_
  unfold CX
  refine AN (CP hb.get rfl (AN (CP hb.get rfl (AL (by omega) ?_))))
  refine QP (ho.rd.sub (Al.blk.sub hb)) (by omega) (by omega) ?_
  have e1 : ((n : Int) - 1).toNat = xs.length - 1 := by omega
  refine AN (CP hb.get rfl (AN (CP hb.get rfl (AL (by omega) ⟨by omega, by omega, AN ?_⟩))))
  obtain ⟨w, hb4, _⟩ := hb.st (Hp.Sub.refl _) (k := 0) (show (0 : Nat) < 1 by omega) (.slice A ((n : Int) - 1).toNat c)
  refine ⟨w, Av ⟨?_, A, _, c, σ1, ?_, hb4⟩⟩
  · rw [e1]
  · rw [e1]
    exact ho.take (by omega)
end
end Go.Proofs.Ytkdjkkimngeloaa
