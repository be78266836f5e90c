/- Trimmed by wip/trim.py to what this claim rests on. -/
import Derived.Test.YtkdjkkimngeloaaXVs1
namespace Go.Proofs.Ytkdjkkimngeloaa
open Go.RowKit Go.Shelf Go.Sort Go.Lib
theorem Gw {α : Type} [Inhabited α] {enc : α → List Value} {k : Nat} {w : World} {blk off m b : Nat} {dk : Array α} {os : Array Obj} {o : Obj} (hne : b ≠ blk) (h : w.heap[b]? = some o) : (sortWorldK enc k w blk off m dk os).heap[b]? = some o := by
  show ((mapBlock (Sort.ahead w m) blk (putCells id off (flatK enc k dk))).heap ++ os)[b]? = some o
  have h1 : (mapBlock (Sort.ahead w m) blk (putCells id off (flatK enc k dk))).heap[b]? = some o := by
    unfold mapBlock
    show (w.heap.modify blk _)[b]? = some o
    rw [Array.getElem?_modify, if_neg (Ne.symm hne)]
    exact h
  rw [Array.getElem?_append_left (Array.getElem?_eq_some_iff.1 h1).1]
  exact h1
set_option maxRecDepth 100000 in
theorem KR {σ0 σ : Hp} {A : Option Addr} {n c b15 mb : Nat} {xs : List Plc} {out : List (Plc × Cst)} {rw1 rw2 : Bool} (ho : Ap 132 sJ σ0 A n c xs σ) (hl : xs.length ≤ 4294967296)
    (hb15 : σ0 b15 = some (ovO mb, rw1)) (hmb : σ0 mb = some (mpo AS out, rw2)) (hcb : cB out) :
    Af Try.prog 83 #[.slice A n c, .func (.func AX) #[] #[.pointer (some ⟨b15, 0, none⟩)]] σ fun v σ' => v = .tuple #[] ∧ ∃ ys : List Plc, (ys.Perm xs ∧ ys.Pairwise fun p q => ¬ clt (cAt out p) (cAt out q)) ∧ Ap 132 sJ σ0 A n c ys σ' := by
  have L := Ytkdjkkimngeloaa.sortV
  have none_ : ∀ (A : Option Addr) (c : Nat) (σ : Hp), Af Try.prog 83 #[.slice A 0 c, .func (.func AX) #[] #[.pointer (some ⟨b15, 0, none⟩)]] σ fun v σ' => v = .tuple #[] ∧ σ' = σ := fun A c σ => Jc fun w => AnyF.slices_SortFunc_none L A c _ w
  rcases ho with ⟨rfl, rfl, rfl, rfl, rfl⟩ | ⟨b, off, cells, hA, hnn, hnc, hb, rfl, hsz, hr⟩
  · refine (none_ _ _ _).mono ?_
    rintro v σ' ⟨rfl, rfl⟩
    exact ⟨rfl, [], ⟨List.Perm.refl _, List.Pairwise.nil⟩, Ap.nil ..⟩
  · by_cases hx : xs = []
    · subst hx
      have hn0 : n = 0 := hnn
      subst hn0
      refine (none_ _ _ _).mono ?_
      rintro v σ' ⟨rfl, rfl⟩
      exact ⟨rfl, [], ⟨List.Perm.refl _, List.Pairwise.nil⟩, .inr ⟨b, off, cells, hA, rfl, hnc, hb, rfl, hsz, hr⟩⟩
    · let cf : Plc → Plc → Int := fun x y => LO (cAt out y) (cAt out x)
      let enc : Plc → List Value := fun x => B9 sJ x
      have hlt : ∀ x y, ltOf cf x y = true ↔ clt (cAt out y) (cAt out x) := fun x y => by
        show decide (LO (cAt out y) (cAt out x) < 0) = true ↔ _
        rw [decide_eq_true_iff, Fd]
      have hlf : ∀ x y, ltOf cf x y = false ↔ ¬ clt (cAt out y) (cAt out x) := fun x y => by
        rw [← hlt x y]
        simp
      have hO : SWO (ltOf cf) :=
        ⟨fun x => (hlf x x).2 A0, fun x y z h2 h3 => (hlt x z).2 (BD ((hlt y z).1 h3) ((hlt x y).1 h2)), fun x y z h2 h3 => (hlf x z).2 (Df ((hlf x y).1 h2) ((hlf y z).1 h3))⟩
      subst hA
      have em : ∀ l : List Plc, @List.map Plc (TyR sJ) (fun x => x) l = l := fun l => List.map_id' l
      refine Jd (G := fun ys : List (TyR sJ) => List.Perm (α := Plc) ys xs ∧ List.Pairwise (α := Plc) (fun p q => ¬ clt (cAt out p) (cAt out q)) ys) rfl hnc hb hsz ?_
      intro w hw hold
      have hwl := (Array.getElem?_eq_some_iff.1 hw).1
      have hH : HoldsK enc 2 w b off xs.toArray := N7 (ss := sJ) (tr := fun x : Plc => x) (fun _ => rfl) (d := xs) hw ((congrArg (fun z : List (TyR sJ) => Row cells off sJ z) (em xs)).mpr hr)
      have hcl : CmpLays Try.prog AX #[.pointer (some ⟨b15, 0, none⟩)] enc 2 cf b off xs.toArray.size w := fun m os dk hs x y => by
        refine PM ?_
        have e1 : b15 ≠ b := fun e => by rw [e, hb] at hb15; cases hb15
        have e2 : mb ≠ b := fun e => by rw [e, hb] at hmb; cases hmb
        refine Af.mono (Py (p := x) (q := y) (out := out) (mb := mb) (b15 := b15) (rw1 := false) (rw2 := false) (QH (Gw e1 (hold _ _ _ hb15))) (QH (Gw e2 (hold _ _ _ hmb))) hcb) fun v _ hv => hv.1
      have := AnyQ.slices_SortFunc L 2 Try.isAgg132 Try.sizeOf132 enc (fun x => rfl) (fun x v hv => by
        have hv : v ∈ [Value.int .i64 x.1, .int .i64 x.2] := hv
        simp only [List.mem_cons, List.not_mem_nil, or_false] at hv
        rcases hv with rfl | rfl <;> rfl) cf hO AX #[.pointer (some ⟨b15, 0, none⟩)] b off c xs.toArray w (enters_of Try.func84 (by kernel_rfl) rfl) hcl hH hwl (by simp; omega)
      have e1 : xs.toArray.size = n := hnn.symm
      rw [e1] at this
      refine this.mono ?_
      rintro x w' ⟨rfl, d', q, os, hp, hs, rfl⟩
      obtain ⟨p1, _, p3⟩ := hp
      have hsz' : d'.size = n := by rw [p1, e1]
      have hpm : d'.toList.Perm xs := by
        have a1 : d'.extract 0 n = d' := by rw [← hsz']; simp
        have a2 : xs.toArray.extract 0 n = xs.toArray := by rw [← e1]; simp
        rw [a1, a2] at p3
        simpa using p3
      obtain ⟨q1, q2⟩ := Ri (enc := enc) (ss := sJ) (tr := fun x : Plc => x) (fun _ => rfl) (off := off) (cells := cells) (d := d'.toList) (by
        have : d'.toList.length = n := by simpa using hsz'
        rw [this]
        have : n * sJ.length ≤ c * sJ.length := Nat.mul_le_mul_right _ hnc
        omega)
      refine ⟨rfl, d'.toList, putCells id off (flatK enc 2 d'.toList.toArray), q, os, ⟨hpm, ?_⟩, hsz'.symm.trans Array.length_toList.symm, q1, (congrArg (fun z : List (TyR sJ) => Row (putCells id off (flatK enc 2 d'.toList.toArray) cells) off sJ z) (em d'.toList)).mp q2, rfl⟩
      rw [List.pairwise_iff_getElem]
      intro i j hi hj hij
      have hi' : i < d'.size := by simpa using hi
      have hj' : j < d'.size := by simpa using hj
      have h2 := hs i j (Nat.zero_le _) hij (by omega)
      rw [getElem!_pos d' j hj', getElem!_pos d' i hi'] at h2
      have h3 := (hlf _ _).1 h2
      simpa using h3
end Go.Proofs.Ytkdjkkimngeloaa
