/- Trimmed by wip/trim.py to what this claim rests on. -/
import Derived.Test.YtkdjkkimngeloaaXVb6
namespace Go.Proofs.Ytkdjkkimngeloaa
open Go.RowKit
theorem Ap.take {e : TypeId} {ss : List Sh} {σ σ' : Hp} {A : Option Addr} {n c k : Nat} {xs : List (TyR ss)} (h : Ap e ss σ A n c xs σ') (hk : k ≤ n) : Ap e ss σ A k c (xs.take k) σ' := by
  rcases h with ⟨rfl, rfl, rfl, rfl, rfl⟩ | ⟨b, off, cells, hA, hn, hnc, hb, rfl, hsz, hr⟩
  · obtain rfl : k = 0 := by omega
    exact .inl ⟨rfl, rfl, rfl, rfl, rfl⟩
  · refine .inr ⟨b, off, cells, hA, by rw [List.length_take]; omega, by omega, hb, rfl, hsz, fun i j hi hj => ?_⟩
    rw [List.length_take] at hi
    rw [hr i j (by omega) hj, List.getElem_take]
abbrev hv (b : Nat) : Value := .iface 154 (.pointer (some ⟨b, 0, none⟩))
def Stk (b : Nat) (xs : List Stp) : Rel := fun σ σ' => ∃ A n c σ1, Ap 156 s4 σ A n c xs σ1 ∧ Blk b (.cells #[.slice A n c] 158 (0, 0)) σ1 σ'
theorem Ao.stk {b : Nat} {xs : List Stp} : Ao (Stk b xs) := Ao.ex fun _ => Ao.ex fun _ => Ao.ex fun _ => Ao.seq (R := fun σ σ' => Ap 156 s4 σ _ _ _ xs σ') (S := Blk b _) Ao.own Ao.blk
section
variable {σ σ' : Hp} {b : Nat} {xs : List Stp}
def Mth (P : Program) (t : TypeId) (v : Value) (m : String) (f : FuncId) (rv : Value) (σ : Hp) : Prop := ywp P (method (P.types.size + Made.depth) t v m) (fun x => x = (f, rv)) σ
theorem OZ {v : Value} (h : σ.cell? ⟨b, 0, none⟩ = some v) : Mth Try.prog 154 (.pointer (some ⟨b, 0, none⟩)) "Len" Bx v σ := by
  have e : Mth Try.prog 154 (.pointer (some ⟨b, 0, none⟩)) "Len" Bx v σ = (∃ u, σ.cell? ⟨b, 0, none⟩ = some u ∧ (Bx, u) = (Bx, v)) := by kernel_rfl
  rw [e]
  exact ⟨v, h, rfl⟩
theorem Qo {v : Value} (h : σ.cell? ⟨b, 0, none⟩ = some v) : Mth Try.prog 154 (.pointer (some ⟨b, 0, none⟩)) "Less" Bj v σ := by
  have e : Mth Try.prog 154 (.pointer (some ⟨b, 0, none⟩)) "Less" Bj v σ = (∃ u, σ.cell? ⟨b, 0, none⟩ = some u ∧ (Bj, u) = (Bj, v)) := by kernel_rfl
  rw [e]
  exact ⟨v, h, rfl⟩
theorem Ql {v : Value} (h : σ.cell? ⟨b, 0, none⟩ = some v) : Mth Try.prog 154 (.pointer (some ⟨b, 0, none⟩)) "Swap" Bm v σ := by
  have e : Mth Try.prog 154 (.pointer (some ⟨b, 0, none⟩)) "Swap" Bm v σ = (∃ u, σ.cell? ⟨b, 0, none⟩ = some u ∧ (Bm, u) = (Bm, v)) := by kernel_rfl
  rw [e]
  exact ⟨v, h, rfl⟩
theorem Rq : Mth Try.prog 154 (.pointer (some ⟨b, 0, none⟩)) "Push" Bl (.pointer (some ⟨b, 0, none⟩)) σ := by
  have e : Mth Try.prog 154 (.pointer (some ⟨b, 0, none⟩)) "Push" Bl (.pointer (some ⟨b, 0, none⟩)) σ = ((Bl, (.pointer (some ⟨b, 0, none⟩) : Value)) = (Bl, .pointer (some ⟨b, 0, none⟩))) := by kernel_rfl
  rw [e]
theorem Rz : Mth Try.prog 154 (.pointer (some ⟨b, 0, none⟩)) "Pop" Bz (.pointer (some ⟨b, 0, none⟩)) σ := by
  have e : Mth Try.prog 154 (.pointer (some ⟨b, 0, none⟩)) "Pop" Bz (.pointer (some ⟨b, 0, none⟩)) σ = ((Bz, (.pointer (some ⟨b, 0, none⟩) : Value)) = (Bz, .pointer (some ⟨b, 0, none⟩))) := by kernel_rfl
  rw [e]
theorem PE {P : Program} {t : TypeId} {v rv : Value} {m : String} {args : Array Value} {R : Value → Hp → Prop} {f : FuncId} (h1 : Mth P t v m f rv σ) (h2 : AA P f = true) (h3 : Af P f (No #[rv] args) σ R) : ivk P (.iface t v) m args σ R := ⟨f, rv, h1, h2, h3⟩
set_option maxRecDepth 100000 in
theorem OF {K : Value → Hp → Prop} (h : Stk b xs σ σ') (hk : K (.int .i64 xs.length) σ') : ivk Try.prog (hv b) "Len" #[] σ' K := by
  obtain ⟨A, n, c, σ1, ho, hb⟩ := h
  have hn : n = xs.length := ho.len
  refine PE (OZ (AV hb.get rfl)) Cp ?_
  refine Af.mono (Jn (A := A) (n := n) (c := c)) fun v σ2 h => ?_
  obtain ⟨rfl, rfl⟩ := h
  rw [hn]
  exact hk
set_option maxRecDepth 100000 in
theorem Ke {K : Value → Hp → Prop} {i k : Nat} (h : Stk b xs σ σ') (hc : ∀ x ∈ xs, cOK (Stp.c x)) (hi : i < xs.length) (hkl : k < xs.length) (hk : K (.bool (decide (cl1 xs i k))) σ') : ivk Try.prog (hv b) "Less" #[.int .i64 i, .int .i64 k] σ' K := by
  obtain ⟨A, n, c, σ1, ho, hb⟩ := h
  refine PE (Qo (AV hb.get rfl)) Ef ?_
  refine Af.mono (L7 (ho.rd.sub (Ao.blk.sub hb)) hi hkl hc) fun v σ2 h => ?_
  obtain ⟨rfl, rfl⟩ := h
  exact hk
set_option maxRecDepth 100000 in
theorem Kv {K : Value → Hp → Prop} {i k : Nat} (h : Stk b xs σ σ') (hi : i < xs.length) (hkl : k < xs.length) (hk : ∀ σ2, Stk b (Ib xs i k) σ σ2 → K (.tuple #[]) σ2) : ivk Try.prog (hv b) "Swap" #[.int .i64 i, .int .i64 k] σ' K := by
  obtain ⟨A, n, c, σ1, ho, hb⟩ := h
  refine PE (Ql (AV hb.get rfl)) Ek ?_
  refine Af.mono (Af.over (R := Blk b _) Ao.blk (LW ho hi hkl) hb) fun v σ2 h => ?_
  obtain ⟨σ3, ⟨rfl, h1⟩, h2⟩ := h
  exact hk _ ⟨A, n, c, σ3, h1, h2⟩
theorem M4 {v : Value} {K : Value → Prop} (h : K v) : tas Try.prog (.iface 156 v) 20 156 σ K := by
  have e : tas Try.prog (.iface 156 v) 20 156 σ K = K v := by kernel_rfl
  rw [e]; exact h
set_option maxRecDepth 100000 in
theorem LY {x : Stp} (h : Stk b xs σ σ') (hl : xs.length ≤ 4294967295) : Af Try.prog Bl #[.pointer (some ⟨b, 0, none⟩), .iface 156 (stV x)] σ' fun v σ2 => v = .tuple #[] ∧ Stk b (xs ++ [x]) σ σ2 := by
  obtain ⟨A, n, c, σ1, ho, hb⟩ := h
  refine Fr _ _ _ _ ?_
  unfold Cl
  refine AP (DK hb.get rfl (M4 ⟨Hp.Sub.refl _, _, _, _, _, rfl, ?_⟩))
  obtain ⟨σ2, hb2, ho2⟩ := Ao.swap (R := fun σ σ' => Ap 156 s4 σ A n c xs σ') (S := Blk b _) Ao.own Ao.blk ho hb
  refine Sd ho2 (Bh (by show xs.length + 1 ≤ _; omega) (AP ?_))
  intro A3 n3 c3 σ3 ho3
  obtain ⟨w, hb4, _⟩ := hb2.st ho3.sub (k := 0) (show (0 : Nat) < 1 by omega) (.slice A3 n3 c3)
  have ho4 := Ao.put (R := fun σ σ' => Ap 156 s4 σ A3 n3 c3 (xs ++ [x]) σ') Ao.own ho3 hb2.get (k := 0) (.slice A3 n3 c3)
  obtain ⟨σ5, ho5, hb5⟩ := Ao.swap (R := Blk b _) (S := fun σ σ' => Ap 156 s4 σ A3 n3 c3 (xs ++ [x]) σ') Ao.blk Ao.own hb4 ho4
  exact ⟨w, AC ⟨rfl, A3, n3, c3, σ5, ho5, hb5⟩⟩
set_option maxRecDepth 100000 in
theorem MZ (h : Stk b xs σ σ') (h0 : 0 < xs.length) (hl : xs.length ≤ 4294967295) : Af Try.prog Bz #[.pointer (some ⟨b, 0, none⟩)] σ' fun v σ2 => v = .iface 156 (stV (gs xs (xs.length - 1))) ∧ Stk b (xs.take (xs.length - 1)) σ σ2 := by
  obtain ⟨A, n, c, σ1, ho, hb⟩ := h
  have hn : n = xs.length := ho.len
  have hc : n ≤ c := by
    rcases ho with ⟨_, rfl, rfl, _⟩ | ⟨_, _, _, _, _, h, _⟩
    · exact Nat.le_refl _
    · exact h
  refine FS _ _ _ ?_
  unfold Ct
  refine AP (DK hb.get rfl (AP (DK hb.get rfl (AT (by omega) ?_))))
  refine NT (ho.rd.sub (Ao.blk.sub hb)) (by omega) (by omega) ?_
  have e1 : ((n : Int) - 1).toNat = xs.length - 1 := by omega
  refine AP (DK hb.get rfl (AP (DK hb.get rfl (AT (by omega) ⟨by omega, by omega, AP ?_⟩))))
  obtain ⟨w, hb4, _⟩ := hb.st (Hp.Sub.refl _) (k := 0) (show (0 : Nat) < 1 by omega) (.slice A ((n : Int) - 1).toNat c)
  refine ⟨w, AC ⟨?_, A, _, c, σ1, ?_, hb4⟩⟩
  · rw [e1]
  · rw [e1]
    exact ho.take (by omega)
end
end Go.Proofs.Ytkdjkkimngeloaa
