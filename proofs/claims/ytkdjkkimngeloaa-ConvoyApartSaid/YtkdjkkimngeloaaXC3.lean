/- Trimmed by wip/trim.py to what this claim rests on. -/
import Derived.Test.YtkdjkkimngeloaaXB11
namespace Go.Proofs.Ytkdjkkimngeloaa
open Go.RowKit
theorem CK : Try.prog.follows .mixedOrders = true := by kernel_rfl
abbrev Gt : FuncId := 98
def Cb (σ : Hp) (h_ : Value) (R : Value → Hp → Prop) : Prop :=
  ivk Try.prog h_ "Len" #[] σ (fun v1 σ2 => ∃ n3 : Int, (v1 = (.int .i64 n3) ∧ wk .i64 (n3 - 1) (fun n4 => 
    ivk Try.prog h_ "Swap" #[(.int .i64 0), (.int .i64 n4)] σ2 (fun _ σ6 => cl Try.prog (.func (.func 116) #[] #[]) #[h_, (.int .i64 0), (.int .i64 n4)] σ6 (fun v7 σ8 => 
    ∃ t9 : Bool, (v7 = (.bool t9) ∧ ivk Try.prog h_ "Pop" #[] σ8 (fun v10 σ11 => ∃ v12 : Value, (v10 = v12 ∧ 
    rt σ11 R v12))))))))
def E3 : MAn := (.seq (.txt []) (.seq (.txt []) (.seq (.txt []) (.seq (.txt []) (.seq (.txt []) .leaf)))))
set_option maxRecDepth 100000 in
theorem E4 (σ : Hp) (h_ : Value) (R : Value → Hp → Prop) (h : Cb σ h_ R) : Af Try.prog 98 #[h_] σ R :=
  Am CK E3 Try.func98 rfl (by kernel_rfl) (by kernel_rfl) (M := Cb σ h_ R) (by kernel_rfl) h
theorem D2 : AA Try.prog 98 = true := by kernel_rfl
abbrev FR : FuncId := 99
def B1 (σ : Hp) (h_ : Value) (x : Value) (R : Value → Hp → Prop) : Prop :=
  ivk Try.prog h_ "Push" #[x] σ (fun _ σ2 => ivk Try.prog h_ "Len" #[] σ2 (fun v3 σ4 => ∃ n5 : Int, (v3 = (.int .i64 n5) ∧ 
    wk .i64 (n5 - 1) (fun n6 => cl Try.prog (.func (.func 117) #[] #[]) #[h_, (.int .i64 n6)] σ4 (fun _ σ8 => 
    rt σ8 R (.tuple #[]))))))
def EC : MAn := (.seq (.txt []) (.txt []))
set_option maxRecDepth 100000 in
theorem Eu (σ : Hp) (h_ : Value) (x : Value) (R : Value → Hp → Prop) (h : B1 σ h_ x R) : Af Try.prog 99 #[h_, x] σ R :=
  Am CK EC Try.func99 rfl (by kernel_rfl) (by kernel_rfl) (M := B1 σ h_ x R) (by kernel_rfl) h
theorem DI : AA Try.prog 99 = true := by kernel_rfl
abbrev G8 : FuncId := 117
def Cm (σ : Hp) (h_ : Value) (j : Int) (R : Value → Hp → Prop) : Prop :=
  ∃ I4 : Nat → Int → Hp → Prop, (∃ n50, I4 n50 j σ) ∧ ∀ n5 : Nat, ∀ n6 : Int, ∀ σ3 : Hp, I4 n5 n6 σ3 → ∀ _ : Nat → Value, wk .i64 (n6 - 1) (fun n7 => 
    ((2 : Int) ≠ 0 ∧ wk .i64 (Int.tdiv n7 2) (fun n8 => cut (α := Hp → Prop) (fun  σ10 => ∀ _ : Nat → Value, 
    ivk Try.prog h_ "Swap" #[(.int .i64 n8), (.int .i64 n6)] σ10 (fun _ σ13 => bk σ13 n5 (fun m14 σ15 => 
    I4 m14 n8 σ15))) (fun J11 => cut (α := Bool → Hp → Prop) (fun t19 σ17 => ∀ _ : Nat → Value, bc t19 (rt σ17 R (.tuple #[])) (J11 σ17)) (fun J18 => 
    bc (decide (n8 = n6)) (J18 true σ3) (ivk Try.prog h_ "Less" #[(.int .i64 n6), (.int .i64 n8)] σ3 (fun v20 σ21 => 
    ∃ t22 : Bool, (v20 = (.bool t22) ∧ J18 (!t22) σ21))))))))
def Fh : MAn := (.block (.loop ⟨[], 0, [.slot 1 (.sc (.int .i64))], [(0, false)]⟩ (.block (.seq (.txt []) (.cut ⟨[], 0, [], [(0, false), (1, true), (4, true)]⟩ (.cut ⟨[], 0, [.slot 17 (.sc (.bool))], [(0, false), (1, true), (4, true)]⟩ (.txt [⟨[], false, []⟩, ⟨[], false, []⟩, ⟨[], false, []⟩, ⟨[], true, []⟩]) (.cond .leaf .leaf)) (.seq (.txt []) (.txt [])))))))
set_option maxRecDepth 100000 in
theorem Fz (σ : Hp) (h_ : Value) (j : Int) (R : Value → Hp → Prop) (h : Cm σ h_ j R) : Af Try.prog 117 #[h_, (.int .i64 j)] σ R :=
  Am CK Fh Try.func117 rfl (by kernel_rfl) (by kernel_rfl) (M := Cm σ h_ j R) (by kernel_rfl) h
theorem Ec : AA Try.prog 117 = true := by kernel_rfl
abbrev FQ : FuncId := 116
def B0 (σ : Hp) (h_ : Value) (i0 : Int) (n : Int) (R : Value → Hp → Prop) : Prop :=
  cut (α := Int → Hp → Prop) (fun n4 σ2 => ∀ _ : Nat → Value, rt σ2 R (.bool (decide (i0 < n4)))) (fun J3 => 
    ∃ I7 : Nat → Int → Hp → Prop, (∃ n80, I7 n80 i0 σ) ∧ ∀ n8 : Nat, ∀ n9 : Int, ∀ σ6 : Hp, I7 n8 n9 σ6 → ∀ _ : Nat → Value, wk .i64 (2 * n9) (fun n10 => 
    wk .i64 (n10 + 1) (fun n11 => cut (α := Hp → Prop) (fun  σ13 => ∀ _ : Nat → Value, cut (α := Int → Hp → Prop) (fun n18 σ16 => 
    ∀ _ : Nat → Value, ivk Try.prog h_ "Less" #[(.int .i64 n18), (.int .i64 n9)] σ16 (fun v19 σ20 => ∃ t21 : Bool, (v19 = (.bool t21) ∧ 
    bc (!t21) (J3 n9 σ20) (ivk Try.prog h_ "Swap" #[(.int .i64 n9), (.int .i64 n18)] σ20 (fun _ σ23 => 
    bk σ23 n8 (fun m24 σ25 => I7 m24 n18 σ25)))))) (fun J17 => wk .i64 (n11 + 1) (fun n26 => cut (α := Bool → Hp → Prop) (fun t30 σ28 => 
    ∀ _ : Nat → Value, bc t30 (J17 n26 σ28) (J17 n11 σ28)) (fun J29 => bc (decide (n26 < n)) (ivk Try.prog h_ "Less" #[(.int .i64 n26), (.int .i64 n11)] σ13 (fun v31 σ32 => 
    ∃ t33 : Bool, (v31 = (.bool t33) ∧ J29 t33 σ32))) (J29 false σ13))))) (fun J14 => cut (α := Bool → Hp → Prop) (fun t37 σ35 => 
    ∀ _ : Nat → Value, bc t37 (J3 n9 σ35) (J14 σ35)) (fun J36 => bc (decide (n ≤ n11)) (J36 true σ6) (J36 (decide (n11 < 0)) σ6))))))
def Ez : MAn := (.seq (.txt []) (.seq (.txt []) (.cut ⟨[], 0, [.slot 7 (.sc (.int .i64))], [(1, true)]⟩ (.block (.loop ⟨[], 0, [.slot 7 (.sc (.int .i64))], [(0, false), (1, true), (2, true)]⟩ (.block (.seq (.txt []) (.cut ⟨[], 0, [], [(0, false), (1, true), (2, true), (7, true), (8, true)]⟩ (.cut ⟨[], 0, [.slot 21 (.sc (.bool))], [(0, false), (1, true), (2, true), (7, true), (8, true)]⟩ (.txt [⟨[], false, []⟩, ⟨[], false, []⟩, ⟨[], false, []⟩, ⟨[], true, []⟩]) (.cond .leaf .leaf)) (.seq (.txt []) (.cut ⟨[], 0, [.slot 9 (.sc (.int .i64))], [(0, false), (1, true), (2, true), (7, true)]⟩ (.seq (.txt []) (.cut ⟨[], 0, [.slot 33 (.sc (.bool))], [(0, false), (1, true), (2, true), (7, true), (9, true), (10, true)]⟩ (.txt [⟨[], false, []⟩, ⟨[], false, []⟩, ⟨[], false, []⟩, ⟨[], true, []⟩]) (.cond (.txt []) .leaf))) (.seq (.seq (.txt []) (.cond .leaf .leaf)) (.seq (.txt []) (.txt [])))))))))) (.seq (.txt []) .leaf))))
set_option maxRecDepth 100000 in
theorem EB (σ : Hp) (h_ : Value) (i0 : Int) (n : Int) (R : Value → Hp → Prop) (h : B0 σ h_ i0 n R) : Af Try.prog 116 #[h_, (.int .i64 i0), (.int .i64 n)] σ R :=
  Am CK Ez Try.func116 rfl (by kernel_rfl) (by kernel_rfl) (M := B0 σ h_ i0 n R) (by kernel_rfl) h
theorem DO : AA Try.prog 116 = true := by kernel_rfl
abbrev Bx : FuncId := 153
def DX (σ : Hp) (_ : Option Addr) (s_n : Nat) (_ : Nat) (R : Value → Hp → Prop) : Prop :=
  rt σ R (.int .i64 ((s_n : Nat) : Int))
def FZ : MAn := (.seq (.txt []) (.seq (.txt []) .leaf))
set_option maxRecDepth 100000 in
theorem FY (σ : Hp) (s_A : Option Addr) (s_n : Nat) (s_c : Nat) (R : Value → Hp → Prop) (h : DX σ s_A s_n s_c R) : Af Try.prog 153 #[(.slice s_A s_n s_c)] σ R :=
  Am CK FZ Try.func153 rfl (by kernel_rfl) (by kernel_rfl) (M := DX σ s_A s_n s_c R) (by kernel_rfl) h
theorem Cp : AA Try.prog 153 = true := by kernel_rfl
abbrev Bj : FuncId := 154
def Ch (σ : Hp) (s_A : Option Addr) (s_n : Nat) (_ : Nat) (i : Int) (k : Int) (R : Value → Hp → Prop) : Prop :=
  ix s_A s_n i 4 (fun b1 a2 => ldI σ .i64 b1 (a2 + 2) (fun n3 => ldI σ .i64 b1 ((a2 + 2) + 1) (fun n4 => 
    ix s_A s_n k 4 (fun b5 a6 => ldI σ .i64 b5 (a6 + 2) (fun n7 => ldI σ .i64 b5 ((a6 + 2) + 1) (fun n8 => 
    cl Try.prog (.func (.func 82) #[] #[]) #[(.agg #[(.int .i64 n3), (.int .i64 n4)]), (.agg #[(.int .i64 n7), (.int .i64 n8)])] σ (fun v9 σ10 => 
    ∃ n11 : Int, (v9 = (.int .i64 n11) ∧ rt σ10 R (.bool (decide (n11 < 0)))))))))))
def Aw : OA := ⟨[], false, []⟩
def Fc : MAn := (.seq (.txt []) (.seq (.plan [10] (.take 0 Aw (.take 1 Aw (.take 2 Aw (.take 3 Aw (.take 4 Aw (.take 5 Aw (.take 6 Aw (.take 7 Aw (.take 8 Aw (.take 9 Aw (.alt 10 false Aw (.take 11 Aw (.take 12 Aw .done)) .done)))))))))))) .leaf))
set_option maxRecDepth 100000 in
theorem FI (σ : Hp) (s_A : Option Addr) (s_n : Nat) (s_c : Nat) (i : Int) (k : Int) (R : Value → Hp → Prop) (h : Ch σ s_A s_n s_c i k R) : Af Try.prog 154 #[(.slice s_A s_n s_c), (.int .i64 i), (.int .i64 k)] σ R :=
  Am CK Fc Try.func154 rfl (by kernel_rfl) (by kernel_rfl) (M := Ch σ s_A s_n s_c i k R) (by kernel_rfl) h
theorem Ef : AA Try.prog 154 = true := by kernel_rfl
abbrev Bm : FuncId := 157
def Ci (σ : Hp) (s_A : Option Addr) (s_n : Nat) (_ : Nat) (i : Int) (k : Int) (R : Value → Hp → Prop) : Prop :=
  ix s_A s_n k 4 (fun b1 a2 => ldI σ .i64 b1 a2 (fun n3 => ldI σ .i64 b1 (a2 + 1) (fun n4 => ldI σ .i64 b1 (a2 + 2) (fun n5 => 
    ldI σ .i64 b1 (a2 + 3) (fun n6 => ix s_A s_n i 4 (fun b7 a8 => ldI σ .i64 b7 a8 (fun n9 => ldI σ .i64 b7 (a8 + 1) (fun n10 => 
    ldI σ .i64 b7 (a8 + 2) (fun n11 => ldI σ .i64 b7 (a8 + 3) (fun n12 => ix s_A s_n i 4 (fun b13 a14 => 
    st σ b13 a14 (.int .i64 n3) (fun σ15 => st σ15 b13 (a14 + 1) (.int .i64 n4) (fun σ16 => st σ16 b13 (a14 + 2) (.int .i64 n5) (fun σ17 => 
    st σ17 b13 (a14 + 3) (.int .i64 n6) (fun σ18 => ix s_A s_n k 4 (fun b19 a20 => st σ18 b19 a20 (.int .i64 n9) (fun σ21 => 
    st σ21 b19 (a20 + 1) (.int .i64 n10) (fun σ22 => st σ22 b19 (a20 + 2) (.int .i64 n11) (fun σ23 => st σ23 b19 (a20 + 3) (.int .i64 n12) (fun σ24 => 
    rt σ24 R (.tuple #[])))))))))))))))))))))
def Av : OA := ⟨[], false, []⟩
def Fm : MAn := (.plan [13, 15] (.take 0 Av (.take 1 Av (.take 2 Av (.take 3 Av (.take 4 Av (.take 5 Av (.take 6 Av (.take 7 Av (.take 8 Av (.take 9 Av (.take 10 Av (.take 11 Av (.take 12 Av (.alt 13 false Av (.take 14 Av (.alt 15 false Av .done .done)) .done)))))))))))))))
set_option maxRecDepth 100000 in
theorem Ft (σ : Hp) (s_A : Option Addr) (s_n : Nat) (s_c : Nat) (i : Int) (k : Int) (R : Value → Hp → Prop) (h : Ci σ s_A s_n s_c i k R) : Af Try.prog 157 #[(.slice s_A s_n s_c), (.int .i64 i), (.int .i64 k)] σ R :=
  Am CK Fm Try.func157 rfl (by kernel_rfl) (by kernel_rfl) (M := Ci σ s_A s_n s_c i k R) (by kernel_rfl) h
theorem Ek : AA Try.prog 157 = true := by kernel_rfl
abbrev Bl : FuncId := 156
def Cl (σ : Hp) (s : Option Addr) (x : Value) (R : Value → Hp → Prop) : Prop :=
  dr s (fun b1 o2 => ldS σ b1 o2 (fun A3 l3 c3 => tas Try.prog x 20 156 σ (fun v4 => (Hp.Sub σ σ ∧ ∃ n5 : Int, ∃ n6 : Int, ∃ n7 : Int, ∃ n8 : Int, (v4 = (.agg #[(.int .i64 n5), (.int .i64 n6), (.int .i64 n7), (.int .i64 n8)]) ∧ 
    adp 156 [.int .i64, .int .i64, .int .i64, .int .i64] A3 l3 c3 σ (fun (xs9 : List (Int × Int × Int × Int)) σ10 => 
    BG (List.length xs9 + List.length ([(n5, n6, n7, n8)] : List (Int × Int × Int × Int))) (dr s (fun b11 o12 => 
    exl 156 [.int .i64, .int .i64, .int .i64, .int .i64] (xs9 ++ ([(n5, n6, n7, n8)] : List (Int × Int × Int × Int))) σ10 (fun A13 l13 c13 σ14 => 
    st σ14 b11 o12 (.slice A13 l13 c13) (fun σ15 => rt σ15 R (.tuple #[])))))))))))
def AF : OA := ⟨[], false, []⟩
def Fo : MAn := (.plan [7, 9] (.take 0 AF (.take 1 AF (.take 2 AF (.take 3 AF (.take 4 AF (.alt 5 true ⟨[], false, [.ty 9 true [.int .i64, .int .i64, .int .i64, .int .i64]]⟩ (.alt 6 true AF (.alt 7 false AF (.take 8 AF (.alt 9 false AF .done .done)) .done) .done) .done)))))))
set_option maxRecDepth 100000 in
theorem Fr (σ : Hp) (s : Option Addr) (x : Value) (R : Value → Hp → Prop) (h : Cl σ s x R) : Af Try.prog 156 #[(.pointer s), x] σ R :=
  Am CK Fo Try.func156 rfl (by kernel_rfl) (by kernel_rfl) (M := Cl σ s x R) (by kernel_rfl) h
theorem Ee : AA Try.prog 156 = true := by kernel_rfl
abbrev Bz : FuncId := 155
def Ct (σ : Hp) (s : Option Addr) (R : Value → Hp → Prop) : Prop :=
  dr s (fun b1 o2 => ldS σ b1 o2 (fun A3 l3 _ => dr s (fun b4 o5 => ldS σ b4 o5 (fun _ l6 _ => wk .i64 (((l6 : Nat) : Int) - 1) (fun n7 => 
    ix A3 l3 n7 4 (fun b8 a9 => ldI σ .i64 b8 a9 (fun n10 => ldI σ .i64 b8 (a9 + 1) (fun n11 => ldI σ .i64 b8 (a9 + 2) (fun n12 => 
    ldI σ .i64 b8 (a9 + 3) (fun n13 => dr s (fun b14 o15 => ldS σ b14 o15 (fun A16 _ c16 => dr s (fun b17 o18 => 
    ldS σ b17 o18 (fun _ l19 _ => wk .i64 (((l19 : Nat) : Int) - 1) (fun n20 => (0 ≤ n20 ∧ n20 ≤ ((c16 : Nat) : Int) ∧ 
    dr s (fun b21 o22 => st σ b21 o22 (.slice A16 ((n20 : Int).toNat) c16) (fun σ23 => rt σ23 R (.iface 156 (.agg #[(.int .i64 n10), (.int .i64 n11), (.int .i64 n12), (.int .i64 n13)]))))))))))))))))))))
def Ai : OA := ⟨[], false, []⟩
def F0 : MAn := (.seq (.txt []) (.seq (.plan [11] (.take 0 Ai (.take 1 Ai (.take 2 Ai (.take 3 Ai (.take 4 Ai (.take 5 Ai (.take 6 Ai (.take 7 Ai (.take 8 Ai (.take 9 Ai (.alt 10 true Ai (.alt 11 false Ai .done .done) .done)))))))))))) (.seq (.plan [11] (.take 0 Ai (.take 1 Ai (.take 2 Ai (.take 3 Ai (.take 4 Ai (.take 5 Ai (.take 6 Ai (.take 7 Ai (.take 8 Ai (.take 9 Ai (.take 10 Ai (.alt 11 false Ai .done .done))))))))))))) (.seq (.txt []) .leaf))))
set_option maxRecDepth 100000 in
theorem FS (σ : Hp) (s : Option Addr) (R : Value → Hp → Prop) (h : Ct σ s R) : Af Try.prog 155 #[(.pointer s)] σ R :=
  Am CK F0 Try.func155 rfl (by kernel_rfl) (by kernel_rfl) (M := Ct σ s R) (by kernel_rfl) h
theorem EE : AA Try.prog 155 = true := by kernel_rfl
end Go.Proofs.Ytkdjkkimngeloaa
