/- Trimmed by wip/trim.py to what this claim rests on. -/
import Derived.Test.YtecodlefcmjihaaGreatWTk6
namespace Go.Proofs.YtecodlefcmjihaaGreat
open Go.RowKit
section
variable {W : NoW} {F : Fai} {σ0 σ : Hp} {S : Fno} {K : Bool → Hp → Prop}
theorem i63 {c : Int} (h : 0 ≤ c ∧ c ≤ 1000000000) (k : Int) (hk : -1000000000 ≤ k ∧ k ≤ 1000000000) : -9223372036854775808 ≤ c + k ∧ c + k ≤ 9223372036854775807 := by omega
theorem VS (h : A0 W F σ0 σ S) (hl : S.stock.length ≤ 1000) {n : Int} (h0 : 0 ≤ n ∧ n < S.stock.length) (hk : K true σ) : cl Tryz.prog (.func (.func Ki) #[] #[]) #[.pointer (some ⟨W.b, 0, none⟩), .int .i64 n] σ fun v σ' => ∃ t : Bool, (v = .bool t ∧ K t σ') := by
  refine clB Gt (b := true) ?_ hk
  refine Ie _ _ _ _ ?_
  unfold Dh
  have hn := h.rd.1.lenI
  refine AD (Bi h.blk rfl (AJ (by omega) (DY (Az ⟨?_, rfl⟩))))
  rw [decide_eq_true (by omega)]
theorem Rt (h : A0 W F σ0 σ S) (hB : S.purses.length = F.purses.toNat) (hl : 0 ≤ F.purses ∧ F.purses ≤ 1000) {n : Int} (h0 : 0 ≤ n ∧ n < S.purses.length) (hk : K true σ) : cl Tryz.prog (.func (.func JH) #[] #[]) #[.pointer (some ⟨W.b, 0, none⟩), .int .i64 n] σ fun v σ' => ∃ t : Bool, (v = .bool t ∧ K t σ') := by
  refine clB FZ (b := true) ?_ hk
  refine Hk _ _ _ _ ?_
  unfold CX
  refine AD (Bl h.blk rfl (AJ (by omega) (DY (Az ⟨?_, rfl⟩))))
  rw [decide_eq_true (by omega)]
theorem W1 (h : A0 W F σ0 σ S) (hB : S.boxes.length = F.boxes.toNat) (hl : 0 ≤ F.boxes ∧ F.boxes ≤ 1000) {n : Int} (h0 : 0 ≤ n ∧ n < S.boxes.length) (hk : K true σ) : cl Tryz.prog (.func (.func Ll) #[] #[]) #[.pointer (some ⟨W.b, 0, none⟩), .int .i64 n] σ fun v σ' => ∃ t : Bool, (v = .bool t ∧ K t σ') := by
  refine clB GV (b := true) ?_ hk
  refine IM _ _ _ _ ?_
  unfold D3
  refine AD (Bl h.blk rfl (AJ (by omega) (DY (Az ⟨?_, rfl⟩))))
  rw [decide_eq_true (by omega)]
theorem S5 (h : A0 W F σ0 σ S) {n t : Int} (h0 : 0 ≤ n) (h1 : n < S.purses.length) (ht : 0 ≤ t) (hk : K false σ) : cl Tryz.prog (.func (.func Kk) #[] #[]) #[.pointer (some ⟨W.b, 0, none⟩), .int .i64 n, .int .i64 t] σ fun v σ' => ∃ t : Bool, (v = .bool t ∧ K t σ') := by
  refine clB GI (b := false) ?_ hk
  refine H8 _ _ _ _ _ ?_
  unfold Dj
  refine AD (Bi h.blk rfl (h.pix h0 h1 fun b o _ c1 => Bs c1 (Az ⟨?_, rfl⟩)))
  rw [decide_eq_false (by omega)]
theorem VG (h : A0 W F σ0 σ S) {n k c : Int} (h0 : 0 ≤ n) (h1 : n < S.cash.length) (hc : 0 ≤ c ∧ c ≤ 1000000000) (hg : -c ≤ gt S.cash n ∧ gt S.cash n ≤ c) (hi : -c ≤ S.inc ∧ S.inc ≤ c) (hk : 0 ≤ k ∧ k ≤ 1000000) : Al Tryz.prog Kl #[.pointer (some ⟨W.b, 0, none⟩), .int .i64 n, .int .i64 k] σ fun _ σ' => A0 W F σ0 σ' { S with cash := S.cash.set n.toNat (gt S.cash n + k), inc := S.inc + k } := by
  refine Ic _ _ _ _ _ ?_
  unfold Dz
  refine AD (Bi h.blk rfl (Gr h.rd.2.1 h0 h1 (AJ (by omega) (h.stC h0 h1 fun τ h2 => ?_))))
  refine AD (Bl h2.blk rfl (AJ (by show _ ≤ S.inc + k ∧ S.inc + k ≤ _; omega) (AD (h2.stB (k := 19) (by omega) (S' := { S with cash := S.cash.set n.toNat (gt S.cash n + k), inc := S.inc + k }) rfl rfl rfl rfl rfl fun τ h3 => Az h3))))
theorem Q9 (h : A0 W F σ0 σ S) {c : Int} (hB : S.B F c) (hF : FOK F) {d : Dl} (hd : Wq F S d) : Al Tryz.prog HE #[.pointer (some ⟨W.b, 0, none⟩), .agg #[.int .i64 d.1, .int .i64 d.2.1, .int .i64 d.2.2.1, .int .i64 d.2.2.2.1, .int .i64 d.2.2.2.2]] σ fun v σ' => v = .bool true ∧ σ' = σ := by
  refine F8 _ _ _ _ _ _ _ _ ?_
  unfold Cg
  have hls := hB.ls
  have hFs := hF.sl
  obtain ⟨⟨l0, l1⟩, hd⟩ := hd
  refine Aj fun J3 h3 => ?_
  have k3 : J3 σ := by
    rw [h3]
    intro _
    rcases hd with ⟨k1, ⟨a0, a1⟩, ⟨b0, b1⟩, ⟨n0, n1⟩, hs⟩ | ⟨k2, ⟨a0, a1⟩, ⟨b0, b1⟩, ⟨n0, n1⟩, hs⟩
    · refine AK (fun _ => ?_) (fun hh => absurd k1 hh)
      have hbn : W.F.b.n = F.bundles.length := h.fai.b.1
      have hbl := hF.bl
      refine VS h (by omega) ⟨a0, a1⟩ ?_
      refine N9 (Rt h hB.lp ⟨hF.p.1, by have := hF.p.2; omega⟩ ⟨b0, b1⟩ ?_)
      refine N9 (AD (Bi h.blk rfl (AJ (by omega) (DY ?_))))
      rw [decide_eq_true (by omega)]
      refine N9 <| AD (Bi h.blk rfl (Gr h.rd.1 a0 a1 (AD (Bi h.blk rfl ?_))))
      obtain ⟨i, hi⟩ := Int.eq_ofNat_of_zero_le n0
      have hil : i < F.bundles.length := by omega
      rw [hi]
      refine Qu h.fai.b hil fun b o c0 _ => Bs c0 (Az ⟨?_, rfl⟩)
      have e : (bu F d.2.2.2.2).1 = F.bundles[i].1 := by rw [hi]; unfold bu; simp [List.getD, hil]
      rw [e] at hs
      rw [decide_eq_true hs]
    · refine AK (fun hh => absurd (k2.symm.trans hh) (by decide)) (fun _ => AK (fun _ => ?_) (fun hh => absurd k2 hh))
      refine Rt h hB.lp ⟨hF.p.1, by have := hF.p.2; omega⟩ ⟨a0, a1⟩ ?_
      refine N9 (W1 h hB.lb ⟨hF.x.1, by have := hF.x.2; omega⟩ ⟨b0, b1⟩ ?_)
      refine N9 (DY ?_)
      rw [decide_eq_true (by omega)]
      refine N9 (S5 h a0 a1 (Int.le_trans hB.l.1 l0) ?_)
      refine M8 (AD (Bi h.blk rfl (h.pix a0 a1 fun b o c0 _ => Bs c0 (Az ⟨?_, rfl⟩))))
      rw [decide_eq_true hs]
  have hn : ¬ 100000 < d.2.2.2.2 := by
    rcases hd with ⟨_, _, _, ⟨n0, n1⟩, _⟩ | ⟨_, _, _, ⟨n0, n1⟩, _⟩
    · have := hF.bl; omega
    · omega
  refine Aj fun J86 h86 => ?_
  have k86 : J86 false σ := by
    rw [h86]
    intro _
    exact k3
  refine AD (Bl h.blk rfl (DY ?_))
  rw [decide_eq_true ⟨l0, l1⟩, decide_eq_false hn]
  exact k86
theorem TY (h : A0 W F σ0 σ S) {c : Int} (hB : S.B F c) (hc : c ≤ 1000000000) (hF : FOK F) {d : Dl} (hd : Wq F S d) : Al Tryz.prog Ji #[.pointer (some ⟨W.b, 0, none⟩), .agg #[.int .i64 d.1, .int .i64 d.2.1, .int .i64 d.2.2.1, .int .i64 d.2.2.2.1, .int .i64 d.2.2.2.2]] σ fun _ σ' => A0 W F σ0 σ' (FL F S d) := by
  refine G9 _ _ _ _ _ _ _ _ ?_
  unfold CG
  obtain ⟨⟨l0, l1⟩, hd⟩ := hd
  have hso := hB.so
  have hta := hB.ta
  have hin := hB.inc
  refine AD (h.stB (k := 13) (by omega) (S' := { S with last := d.1 }) rfl rfl rfl rfl rfl fun σ3 h3 => ?_)
  rcases hd with ⟨k1, ⟨a0, a1⟩, ⟨b0, b1⟩, ⟨n0, n1⟩, hs⟩ | ⟨k2, ⟨a0, a1⟩, ⟨b0, b1⟩, ⟨n0, n1⟩, hs⟩
  · have hst : FL F S d = { S with last := d.1, stock := S.stock.set d.2.2.1.toNat (gt S.stock d.2.2.1 - (bu F d.2.2.2.2).1), purses := S.purses.set d.2.2.2.1.toNat (gt S.purses d.2.2.2.1 + (bu F d.2.2.2.2).1), sold := S.sold + (bu F d.2.2.2.2).1, cash := S.cash.set d.2.2.1.toNat (gt S.cash d.2.2.1 + (bu F d.2.2.2.2).2), inc := S.inc + (bu F d.2.2.2.2).2 } := by unfold FL; rw [if_pos k1]
    rw [hst]
    have hac : d.2.2.1 < (S.cash.length : Int) := by rw [hB.lc, hF.cl, ← hB.ls]; exact a1
    have q1 := hB.s _ a0 a1
    have q2 := hB.p _ b0 b1
    have q3 := hB.ca _ a0 hac
    obtain ⟨t1, t2⟩ := hF.bu n0 n1
    refine AK (fun _ => ?_) (fun hh => absurd k1 hh)
    refine AD (Bi h3.blk rfl ?_)
    obtain ⟨i, hi⟩ := Int.eq_ofNat_of_zero_le n0
    have hil : i < F.bundles.length := by omega
    have e : bu F d.2.2.2.2 = F.bundles[i] := by rw [hi]; unfold bu; simp [List.getD, hil]
    rw [hi, ← hi]
    rw [e] at t1 t2 ⊢
    have hpx := @Qu σ3 W.F.b.A W.F.b.n F.bundles
    have hix : ∀ K : Nat → Nat → Prop, (∀ b o, σ3.cell? ⟨b, o, none⟩ = some (.int .i64 F.bundles[i].1) → σ3.cell? ⟨b, o + 1, none⟩ = some (.int .i64 F.bundles[i].2) → K b o) → ix W.F.b.A W.F.b.n d.2.2.2.2 2 K := fun K hK => by
      rw [hi]
      exact hpx h3.fai.b hil hK
    clear hpx
    refine hix _ fun b o c0 c1 => Bs c0 (Bs c1 ?_)
    generalize F.bundles[i] = u at *
    refine AD (Bi h3.blk rfl (Gr h3.rd.1 a0 a1 (AJ (by show _ ≤ gt S.stock _ - _ ∧ gt S.stock _ - _ ≤ _; omega) (h3.stS a0 a1 fun σ20 h20 => ?_))))
    refine AD (Bi h20.blk rfl (h20.pix b0 b1 fun b o c0 c1 => Bs c0 (AJ (by show _ ≤ gt S.purses _ + _ ∧ gt S.purses _ + _ ≤ _; omega) (h20.stP b0 b1 fun σ30 h30 => ?_))))
    refine AD (Bl h30.blk rfl (AJ (by show _ ≤ S.sold + _ ∧ S.sold + _ ≤ _; omega) (AD (h30.stB (k := 14) (by omega) (S' := { S with last := d.1, stock := S.stock.set d.2.2.1.toNat (gt S.stock d.2.2.1 - u.1), purses := S.purses.set d.2.2.2.1.toNat (gt S.purses d.2.2.2.1 + u.1), sold := S.sold + u.1 }) rfl rfl rfl rfl rfl fun σ37 h37 => ?_))))
    refine AM Gn (VG h37 (c := 1000000000) a0 hac (by omega) (by show _ ≤ gt S.cash _ ∧ gt S.cash _ ≤ _; omega) (by show _ ≤ S.inc ∧ S.inc ≤ _; omega) (by omega)) ?_
    intro v σ' h39
    exact Az h39
  · have hst : FL F S d = { S with last := d.1, purses := S.purses.set d.2.2.1.toNat (gt S.purses d.2.2.1 - d.2.2.2.2), boxes := S.boxes.set d.2.2.2.1.toNat (gt S.boxes d.2.2.2.1 + d.2.2.2.2), taken := S.taken + d.2.2.2.2 } := by unfold FL; rw [if_neg (by omega)]
    rw [hst]
    have q1 := hB.p _ a0 a1
    have q2 := hB.b _ b0 b1
    refine AK (fun hh => absurd (k2.symm.trans hh) (by decide)) (fun _ => AK (fun _ => ?_) (fun hh => absurd k2 hh))
    refine S5 h3 a0 a1 (Int.le_trans hB.l.1 l0) ?_
    refine M8 <| AD (Bi h3.blk rfl (h3.pix a0 a1 fun b o c0 c1 => Bs c0 (AJ (by show _ ≤ gt S.purses _ - _ ∧ gt S.purses _ - _ ≤ _; omega) (h3.stP a0 a1 fun σ52 h52 => ?_))))
    refine AD (Bi h52.blk rfl (Gr h52.rd.2.2.2 b0 b1 (AJ (by show _ ≤ gt S.boxes _ + _ ∧ gt S.boxes _ + _ ≤ _; omega) (h52.stX b0 b1 fun σ62 h62 => ?_))))
    exact AD (Bl h62.blk rfl (AJ (by show _ ≤ S.taken + _ ∧ S.taken + _ ≤ _; omega) (AD (h62.stB (k := 15) (by omega) (S' := { S with last := d.1, purses := S.purses.set d.2.2.1.toNat (gt S.purses d.2.2.1 - d.2.2.2.2), boxes := S.boxes.set d.2.2.2.1.toNat (gt S.boxes d.2.2.2.1 + d.2.2.2.2), taken := S.taken + d.2.2.2.2 }) rfl rfl rfl rfl rfl fun σ69 h69 => Az h69))))
end
end Go.Proofs.YtecodlefcmjihaaGreat
namespace Go.Proofs.YtecodlefcmjihaaGreat
open Go.RowKit
section
variable {W : Oh} {F : Fai} {σ0 σ : Hp} {S : Fno}
theorem Uy {A : Option Addr} {n c : Nat} {xs : List Int} (h : RdS [.int .i64] σ A n xs) (hl : xs.length ≤ 4294967296) : Al Tryz.prog FD #[.slice A n c] σ fun v σ' => ∃ s : SL, v = s.v ∧ An 3 [.int .i64] σ s.A s.n s.c xs σ' := by
  refine Il _ _ _ _ _ ?_
  unfold Dr
  cases A with
  | none =>
    have e : xs = [] := by
      rcases h.2 with h' | ⟨b, off, c', el, f, rw, h', _⟩
      · exact List.length_eq_zero_iff.1 (h.1.symm.trans h')
      · cases h'
    subst e
    exact N9 (Az ⟨⟨none, 0, 0⟩, rfl, An.nil ..⟩)
  | some a =>
    refine M8 ⟨xs, h, BF (by rw [List.length_nil, Nat.zero_add]; exact hl) ?_⟩
    intro A2 l2 c2 σ3 ho
    exact Az ⟨⟨A2, l2, c2⟩, rfl, ho⟩
theorem QZ {A : Option Addr} {n c : Nat} {xs : List Int} {K : Option Addr → Nat → Nat → Hp → Prop} (h : RdS [.int .i64] σ A n xs) (hl : xs.length ≤ 4294967296) (hk : ∀ A n c τ, An 3 [.int .i64] σ A n c xs τ → K A n c τ) :
    cl Tryz.prog (.func (.func FD) #[] #[]) #[.slice A n c] σ fun v σ' => ∃ A : Option Addr, ∃ l : Nat, ∃ c : Nat, (v = .slice A l c ∧ (Hp.Sub σ σ' ∧ K A l c σ')) := by
  refine AM Gl (Uy h hl) ?_
  rintro _ τ ⟨s, rfl, o⟩
  exact ⟨_, _, _, rfl, o.sub, hk _ _ _ _ o⟩
theorem Ut (hF : GW W σ F) (ok : FOK F) : Al Tryz.prog N3 #[.agg (B3 W F)] σ fun v σ' => ∃ V : NoW, v = .pointer (some ⟨V.b, 0, none⟩) ∧ V.F = W ∧ A0 V F σ σ' (PS F) := by
  refine LD _ _ _ _ _ _ _ _ _ _ _ _ _ _ _ _ ?_
  unfold FO
  have h1 := ok.sl
  have h2 := ok.cl
  have h3 := ok.p
  have h4 := ok.x
  refine Aj fun J hJ => ?_
  have k3 : ∀ {A1 l1 c1 τ1 A2 l2 c2 τ2}, An 3 [.int .i64] σ A1 l1 c1 F.stock τ1 → An 3 [.int .i64] τ1 A2 l2 c2 F.cash τ2 →
      exl 63 [.int .i64, .int .i64] (List.replicate F.purses.toNat (0, 0) : List (Int × Int)) τ2 fun A3 l3 c3 τ3 => exl 3 [.int .i64] (List.replicate F.boxes.toNat 0 : List Int) τ3 fun A4 l4 c4 τ4 =>
      bx τ4 (.cells #[.slice A1 l1 c1, .slice A2 l2 c2, .slice A3 l3 c3, .slice A4 l4 c4, .int .i64 0] 52) fun b τ5 => J (some ⟨b, 0, none⟩) τ5 := by
    intro A1 l1 c1 τ1 A2 l2 c2 τ2 o1 o2 A3 l3 c3 τ3 o3 A4 l4 c4 τ4 o4 b nb
    rw [hJ]
    intro _
    have hb : (τ4.ins b (.cells #[.slice A1 l1 c1, .slice A2 l2 c2, .slice A3 l3 c3, .slice A4 l4 c4, .int .i64 0] 52)) b = some (.cells #[.slice A1 l1 c1, .slice A2 l2 c2, .slice A3 l3 c3, .slice A4 l4 c4, .int .i64 0] 52 (0, 0), true) := Hp.ins_same ..
    have hs5 : Hp.Sub τ4 (τ4.ins b (.cells #[.slice A1 l1 c1, .slice A2 l2 c2, .slice A3 l3 c3, .slice A4 l4 c4, .int .i64 0] 52)) := Hp.Sub.ins _ nb
    refine AD (Bi hb rfl (Bi hb rfl (Bi hb rfl (Bi hb rfl (Bl hb rfl ?_)))))
    generalize τ4.ins b (.cells #[.slice A1 l1 c1, .slice A2 l2 c2, .slice A3 l3 c3, .slice A4 l4 c4, .int .i64 0] 52) = τ5 at *
    intro b6 n6
    refine Az ⟨⟨b6, W, ⟨A1, l1, c1⟩, ⟨A2, l2, c2⟩, ⟨A3, l3, c3⟩, ⟨A4, l4, c4⟩⟩, rfl, rfl, ?_, hF⟩
    have e3 : (List.replicate F.purses.toNat (0, 0) : List (Int × Int)) = (PS F).purses.map (fun n : Int => ((n, 0) : Int × Int)) := by
      show _ = (List.replicate F.purses.toNat 0).map _
      rw [List.map_replicate]
    rw [e3] at o3
    obtain ⟨τ6, q1, q2⟩ := Au.less (Au.blk (b := b6) (o := .cells (O1 ⟨b6, W, ⟨A1, l1, c1⟩, ⟨A2, l2, c2⟩, ⟨A3, l3, c3⟩, ⟨A4, l4, c4⟩⟩ F (PS F)) 91 (0, 0))) ⟨n6, rfl⟩ hs5
    exact ⟨τ6, ⟨τ4, ⟨τ3, ⟨τ2, ⟨τ1, ⟨σ, rfl, o1⟩, o2⟩, o3⟩, o4⟩, q1⟩, q2⟩
  repeat' (first
    | exact k3 (by assumption) (by assumption)
    | (refine QZ hF.s (by omega) ?_; intro A l c τ o)
    | (refine QZ (hF.c.sub (An.sub (by assumption))) (by omega) ?_; intro A l c τ o)
    | exact Int.le_refl _
    | omega
    | apply And.intro
    | unfold BO
    | unfold BK
    | unfold B7
    | unfold B5
    | unfold B6
    | unfold D6
    | unfold Bm
    | unfold DN)
end
end Go.Proofs.YtecodlefcmjihaaGreat
namespace Go.Proofs.YtecodlefcmjihaaGreat
open Go.RowKit
section
variable {W : Oh} {F : Fai} {σ0 σ : Hp} {S : Fno}
theorem X4 {σ : Hp} {A : Option Addr} {n : Nat} {xs : List Dl} {K : Nat → Nat → Prop} (h : RdS s5 σ A n xs) {i : Nat} (hi : i < xs.length)
    (hk : ∀ b o, σ.cell? ⟨b, o, none⟩ = some (.int .i64 xs[i].1) → σ.cell? ⟨b, o + 1, none⟩ = some (.int .i64 xs[i].2.1) → σ.cell? ⟨b, o + 2, none⟩ = some (.int .i64 xs[i].2.2.1) → σ.cell? ⟨b, o + 3, none⟩ = some (.int .i64 xs[i].2.2.2.1) → σ.cell? ⟨b, o + 4, none⟩ = some (.int .i64 xs[i].2.2.2.2) → K b o) : ix A n i 5 K := by
  have hk' : ((i : Nat) : Int).toNat < (xs : List (TyR s5)).length := by rw [Int.toNat_natCast]; exact hi
  refine NS (ss := s5) h rfl (by omega) hk' fun b o hc => ?_
  exact hk b o (hc 0 (by show 0 < 5; omega)) (hc 1 (by show 1 < 5; omega)) (hc 2 (by show 2 < 5; omega)) (hc 3 (by show 3 < 5; omega)) (hc 4 (by show 4 < 5; omega))
theorem Ub {p : Option Addr} : Al Tryz.prog IF #[.pointer p] σ fun _ σ' => σ' = σ := by
  refine K8 _ _ _ ?_
  unfold Fj
  exact Az rfl
theorem A0.low {V : NoW} {σ1 : Hp} (h : A0 V F σ1 σ S) (hs : Hp.Sub σ0 σ1) (hF : GW V.F σ0 F) : A0 V F σ0 σ S := ⟨Lse.low Ls h.m hs, hF⟩
set_option maxRecDepth 20000 in
theorem VO (hF : GW W σ F) (ok : FOK F) {l : SL} {D : List Dl} (hD : RdS s5 σ l.A l.n D) (hl : D.length ≤ 200) (hp : N7 F D) : Al Tryz.prog Oz #[.agg (B3 W F), l.v, .func (.func IF) #[] #[]] σ fun v σ' => ∃ V : NoW, v = .tuple #[.pointer (some ⟨V.b, 0, none⟩), .int .i64 0, .int .i64 0] ∧ A0 V F σ σ' (JE F D) := by
  refine LW _ _ _ _ _ _ _ _ _ _ _ _ _ _ _ _ _ _ _ _ ?_
  unfold GF
  have f1 := ok.sl
  have f2 := ok.cl
  have f3 := ok.bl
  have hln : l.n = D.length := hD.1
  have hck : Al Tryz.prog IC #[.agg (B3 W F)] σ fun v σ' => Hp.Sub σ σ' ∧ v = .int .i64 0 := by
    refine (II hF (by omega)).mono ?_
    rintro v σ' ⟨h1, h2⟩
    exact ⟨h1, h2.elim (fun h => h.1) fun h => absurd ok h.2⟩
  refine AM BI hck ?_
  rintro _ σ2 ⟨hs2, rfl⟩
  refine ⟨_, rfl, BA (fun h => absurd rfl h) (fun _ => AK (fun h => absurd h (by omega)) (fun _ => ?_))⟩
  refine AM Jd (Ut (hF.sub hs2) ok) ?_
  rintro _ σ5 ⟨V, rfl, hV, h5⟩
  have h5 := h5.low hs2 (by rw [hV]; exact hF)
  refine ⟨_, rfl, Aj fun J9 h9 => ?_⟩
  refine ⟨fun n p i τ => ∃ k : Nat, n = D.length - k ∧ p = some ⟨V.b, 0, none⟩ ∧ i = k ∧ k ≤ D.length ∧ A0 V F σ τ (JE F (D.take k)), ⟨_, 0, rfl, rfl, rfl, by omega, h5⟩, ?_⟩
  rintro n p i τ ⟨k, rfl, rfl, rfl, hk, h⟩ _
  refine AK (fun hlt => ?_) (fun hlt => ?_)
  · have hkl : k < D.length := by omega
    have hB := Vr ok hp k hk
    have hd := hp k hkl
    have hr := OX (F := F) hkl
    refine X4 (hD.sub h.sub) hkl fun b o c0 c1 c2 c3 c4 => Bs c0 (Bs c1 (Bs c2 (Bs c3 (Bs c4 ?_))))
    refine clB EK (Q9 h hB ok hd) (XR ?_)
    refine AM FB (TY h hB (by omega) ok hd) ?_
    intro _ τ2 h2
    rw [← hr] at h2
    refine AM Je Ub ?_
    rintro _ _ rfl
    exact AJ (by omega) (Bb _ (by omega) ⟨k + 1, rfl, rfl, by omega, by omega, h2⟩)
  · have : k = D.length := by omega
    subst this
    rw [List.take_length] at h
    rw [h9]
    intro _
    exact Az ⟨V, rfl, h⟩
theorem VC (hF : GW W σ F) (ok : FOK F) {l : SL} {D : List Dl} (hD : RdS s5 σ l.A l.n D) (hl : D.length ≤ 200) (hp : N7 F D) : Al Tryz.prog OD #[.agg (B3 W F), l.v] σ fun v σ' => ∃ V : NoW, v = .tuple #[.agg #[V.s.v, V.c.v, V.p.v, V.x.v, .int .i64 0], .int .i64 0] ∧ A0 V F σ σ' (JE F D) := by
  refine Mt _ _ _ _ _ _ _ _ _ _ _ _ _ _ _ _ _ _ _ ?_
  unfold Gp
  refine AM JO (VO hF ok hD hl hp) ?_
  rintro _ σ2 ⟨V, rfl, h⟩
  refine ⟨_, _, _, rfl, BA (fun h => absurd rfl h) (fun _ => AD ?_)⟩
  have hb := h.blk
  exact Bi hb rfl (Bi hb rfl (Bi hb rfl (Bi hb rfl (Bl hb rfl (Az ⟨V, rfl, h⟩)))))
end
end Go.Proofs.YtecodlefcmjihaaGreat
