/- Texts M3 M4 M5 M6: what the claims of this seat rest on; each text says what it proves. -/
import Derived.Test.YtmpkiaghkhhlhaaB11

/- M-forms, printed by wip/gen/genm.py out of the translation: each function as a proposition over its local objects, with the lemma that it is what the function does. -/
namespace Go.Proofs.Ytmpkiaghkhhlhaa
open Go.RowKit

theorem mixed_M3 : Try.prog.follows .mixedOrders = true := by kernel_rfl

abbrev N_ground_field_free : FuncId := 46
/-- (*waltzer/ground.field).free -/
def M_ground_field_free (σ : Hp) (f : Option Addr) (c : Int) (R : Value → Hp → Prop) : Prop :=
  dr f (fun b1 o2 => ldS σ b1 (o2 + 2) (fun A3 l3 _ => ix A3 l3 c 1 (fun b4 a5 => ldI σ .i64 b4 a5 (fun n6 => 
    bc (!decide (n6 = 1)) (dr f (fun b7 o8 => ldS σ b7 (o8 + 6) (fun A9 l9 _ => ix A9 l9 c 1 (fun b10 a11 => 
    ldI σ .i64 b10 a11 (fun n12 => rt σ R (.bool (decide (n12 < 0)))))))) (rt σ R (.bool false))))))
def M_ground_field_free_an : MAn := (.seq (.txt []) (.seq (.txt [⟨[], false, []⟩, ⟨[], false, []⟩, ⟨[], false, []⟩, ⟨[], false, []⟩, ⟨[], false, []⟩, ⟨[], false, []⟩, ⟨[], false, []⟩, ⟨[], false, []⟩, ⟨[], false, []⟩, ⟨[], true, []⟩]) .leaf))
set_option maxRecDepth 100000 in
theorem M_ground_field_free_ok (σ : Hp) (f : Option Addr) (c : Int) (R : Value → Hp → Prop) (h : M_ground_field_free σ f c R) : FCalls Try.prog 46 #[(.pointer f), (.int .i64 c)] σ R :=
  fcalls_of_M mixed_M3 M_ground_field_free_an Try.func46 rfl (by kernel_rfl) (by kernel_rfl) (M := M_ground_field_free σ f c R) (by kernel_rfl) h
theorem M_ground_field_free_enter : enterB Try.prog 46 = true := by kernel_rfl

abbrev N_ground_field_drain : FuncId := 48
/-- (*waltzer/ground.field).drain -/
def M_ground_field_drain (σ : Hp) (f : Option Addr) (c : Int) (R : Value → Hp → Prop) : Prop :=
  dr f (fun b1 o2 => ldS σ b1 (o2 + 2) (fun A3 l3 _ => ix A3 l3 c 1 (fun b4 a5 => ldI σ .i64 b4 a5 (fun n6 => 
    bc (decide (n6 = 2)) (rt σ R (.int .i64 3)) (rt σ R (.int .i64 0))))))
def M_ground_field_drain_an : MAn := (.seq (.txt []) (.seq (.seq (.txt []) (.cond (.seq (.txt []) .leaf) .leaf)) (.seq (.txt []) .leaf)))
set_option maxRecDepth 100000 in
theorem M_ground_field_drain_ok (σ : Hp) (f : Option Addr) (c : Int) (R : Value → Hp → Prop) (h : M_ground_field_drain σ f c R) : FCalls Try.prog 48 #[(.pointer f), (.int .i64 c)] σ R :=
  fcalls_of_M mixed_M3 M_ground_field_drain_an Try.func48 rfl (by kernel_rfl) (by kernel_rfl) (M := M_ground_field_drain σ f c R) (by kernel_rfl) h
theorem M_ground_field_drain_enter : enterB Try.prog 48 = true := by kernel_rfl

abbrev N_ground_field_beside : FuncId := 49
/-- (*waltzer/ground.field).beside -/
def M_ground_field_beside (σ : Hp) (a0 : Option Addr) (a1 : Int) (R : Value → Hp → Prop) : Prop :=
  dr a0 (fun b1 o2 => ldI σ .i64 b1 o2 (fun n3 => (n3 ≠ 0 ∧ dr a0 (fun b4 o5 => ldI σ .i64 b4 o5 (fun n6 => 
    (n6 ≠ 0 ∧ wk .i64 (Int.tdiv a1 n6) (fun n7 => cut (α := List Int → Hp → Prop) (fun xs11 σ9 => ∀ _ : Nat → Value, 
    cut (α := List Int → Hp → Prop) (fun xs15 σ13 => ∀ _ : Nat → Value, cut (α := List Int → Hp → Prop) (fun xs19 σ17 => 
    ∀ _ : Nat → Value, cut (α := List Int → Hp → Prop) (fun xs23 σ21 => ∀ _ : Nat → Value, exl 3 [.int .i64] xs23 σ21 (fun A24 l24 c24 σ25 => 
    rt σ25 R (.slice A24 l24 c24))) (fun J22 => dr a0 (fun b26 o27 => ldI σ17 .i64 b26 (o27 + 1) (fun n28 => 
    wk .i64 (n28 - 1) (fun n29 => bc (decide (n7 < n29)) (dr a0 (fun b30 o31 => ldI σ17 .i64 b30 o31 (fun n32 => 
    wk .i64 (a1 + n32) (fun n33 => roomy (List.length xs19 + List.length ([n33] : List Int)) (J22 (xs19 ++ ([n33] : List Int)) σ17))))) (J22 xs19 σ17)))))) (fun J18 => 
    dr a0 (fun b34 o35 => ldI σ13 .i64 b34 o35 (fun n36 => wk .i64 (n36 - 1) (fun n37 => bc (decide ((Int.tmod a1 n3) < n37)) (wk .i64 (a1 + 1) (fun n38 => 
    roomy (List.length xs15 + List.length ([n38] : List Int)) (J18 (xs15 ++ ([n38] : List Int)) σ13))) (J18 xs15 σ13)))))) (fun J14 => 
    bc (decide ((0 : Int) < (Int.tmod a1 n3))) (wk .i64 (a1 - 1) (fun n39 => roomy (List.length xs11 + List.length ([n39] : List Int)) (J14 (xs11 ++ ([n39] : List Int)) σ9))) (J14 xs11 σ9))) (fun J10 => 
    bc (decide ((0 : Int) < n7)) (dr a0 (fun b40 o41 => ldI σ .i64 b40 o41 (fun n42 => wk .i64 (a1 - n42) (fun n43 => 
    adp 3 [.int .i64] none 0 0 σ (fun (xs44 : List Int) σ45 => roomy (List.length xs44 + List.length ([n43] : List Int)) (J10 (xs44 ++ ([n43] : List Int)) σ45)))))) (adp 3 [.int .i64] none 0 0 σ (fun (xs46 : List Int) σ47 => 
    J10 xs46 σ47))))))))))
def M_ground_field_beside_an : MAn := (.seq (.txt []) (.seq (.plan [] (.take 0 ⟨[], false, []⟩ (.take 1 ⟨[], false, []⟩ (.take 2 ⟨[], false, []⟩ (.take 3 ⟨[], false, []⟩ (.take 4 ⟨[], false, []⟩ (.take 5 ⟨[], false, []⟩ (.take 6 ⟨[], false, []⟩ (.take 7 ⟨[], false, []⟩ (.take 8 ⟨[], false, []⟩ (.take 9 ⟨[], false, []⟩ (.take 10 ⟨[], false, []⟩ (.take 11 ⟨[], false, []⟩ (.take 12 ⟨[], false, []⟩ (.take 13 ⟨[], false, []⟩ (.take 14 ⟨[], false, []⟩ (.take 15 ⟨[], false, []⟩ .done))))))))))))))))) (.cut ⟨[], 1, [.slot 4 (.lst 0 3 [.int .i64])], [(0, true), (1, true), (5, true), (6, true)]⟩ (.seq (.txt []) (.cond (.txt []) .leaf)) (.cut ⟨[false], 1, [.slot 4 (.lst 0 3 [.int .i64])], [(0, true), (1, true), (5, true), (6, true)]⟩ (.seq (.txt []) (.cond (.txt []) .leaf)) (.cut ⟨[false], 1, [.slot 4 (.lst 0 3 [.int .i64])], [(0, true), (1, true), (6, true)]⟩ (.seq (.txt []) (.cond (.txt []) .leaf)) (.cut ⟨[false], 1, [.slot 4 (.lst 0 3 [.int .i64])], []⟩ (.seq (.txt []) (.cond (.txt []) .leaf)) (.seq (.txt []) .leaf)))))))
set_option maxRecDepth 100000 in
theorem M_ground_field_beside_ok (σ : Hp) (a0 : Option Addr) (a1 : Int) (R : Value → Hp → Prop) (h : M_ground_field_beside σ a0 a1 R) : FCalls Try.prog 49 #[(.pointer a0), (.int .i64 a1)] σ R :=
  fcalls_of_M mixed_M3 M_ground_field_beside_an Try.func49 rfl (by kernel_rfl) (by kernel_rfl) (M := M_ground_field_beside σ a0 a1 R) (by kernel_rfl) h
theorem M_ground_field_beside_enter : enterB Try.prog 49 = true := by kernel_rfl

abbrev N_ground_field_step : FuncId := 50
/-- (*waltzer/ground.field).step -/
def M_ground_field_step (σ : Hp) (f : Option Addr) (a : Int) (b : Int) (R : Value → Hp → Prop) : Prop :=
  dr f (fun b1 o2 => ldS σ b1 (o2 + 3) (fun A3 l3 _ => ix A3 l3 a 1 (fun b4 a5 => ldI σ .i64 b4 a5 (fun n6 => 
    dr f (fun b7 o8 => ldS σ b7 (o8 + 3) (fun A9 l9 _ => ix A9 l9 b 1 (fun b10 a11 => ldI σ .i64 b10 a11 (fun n12 => 
    wk .i64 (n6 - n12) (fun n13 => dr f (fun b14 o15 => ldS σ b14 (o15 + 3) (fun A16 l16 _ => ix A16 l16 b 1 (fun b17 a18 => 
    ldI σ .i64 b17 a18 (fun n19 => dr f (fun b20 o21 => ldS σ b20 (o21 + 3) (fun A22 l22 _ => ix A22 l22 a 1 (fun b23 a24 => 
    ldI σ .i64 b23 a24 (fun n25 => wk .i64 (n19 - n25) (fun n26 => wk .i64 (1 + (if n26 > n13 then n26 else n13)) (fun n27 => 
    rt σ R (.int .i64 n27))))))))))))))))))))
def M_ground_field_step_an : MAn := (.seq (.txt []) (.seq (.plan [] (.take 0 ⟨[], false, []⟩ (.take 1 ⟨[], false, []⟩ (.take 2 ⟨[], false, []⟩ (.take 3 ⟨[], false, []⟩ (.take 4 ⟨[], false, []⟩ (.take 5 ⟨[], false, []⟩ (.take 6 ⟨[], false, []⟩ (.take 7 ⟨[], false, []⟩ (.take 8 ⟨[], false, []⟩ (.take 9 ⟨[], false, []⟩ (.take 10 ⟨[], false, []⟩ (.take 11 ⟨[], false, []⟩ (.take 12 ⟨[], false, []⟩ (.take 13 ⟨[], false, []⟩ (.take 14 ⟨[], false, []⟩ (.take 15 ⟨[], false, []⟩ (.take 16 ⟨[], false, []⟩ (.take 17 ⟨[], false, []⟩ (.take 18 ⟨[], false, []⟩ (.take 19 ⟨[], false, []⟩ (.take 20 ⟨[], false, []⟩ (.take 21 ⟨[], false, []⟩ (.take 22 ⟨[], false, []⟩ (.take 23 ⟨[], false, []⟩ (.take 24 ⟨[], false, []⟩ (.take 25 ⟨[], false, []⟩ (.take 26 ⟨[], false, []⟩ (.take 27 ⟨[], false, []⟩ (.take 28 ⟨[], false, []⟩ (.take 29 ⟨[], false, []⟩ (.take 30 ⟨[], false, []⟩ (.take 31 ⟨[], false, []⟩ (.take 32 ⟨[], false, []⟩ (.take 33 ⟨[], false, []⟩ (.take 34 ⟨[], false, []⟩ (.take 35 ⟨[], false, []⟩ (.take 36 ⟨[], false, []⟩ .done)))))))))))))))))))))))))))))))))))))) .leaf))
set_option maxRecDepth 100000 in
theorem M_ground_field_step_ok (σ : Hp) (f : Option Addr) (a : Int) (b : Int) (R : Value → Hp → Prop) (h : M_ground_field_step σ f a b R) : FCalls Try.prog 50 #[(.pointer f), (.int .i64 a), (.int .i64 b)] σ R :=
  fcalls_of_M mixed_M3 M_ground_field_step_an Try.func50 rfl (by kernel_rfl) (by kernel_rfl) (M := M_ground_field_step σ f a b R) (by kernel_rfl) h
theorem M_ground_field_step_enter : enterB Try.prog 50 = true := by kernel_rfl

abbrev N_slices_IndexFunc_int : FuncId := 51
/-- slices.IndexFunc[[]int,int] -/
def M_slices_IndexFunc_int (σ : Hp) (s_A : Option Addr) (s_n : Nat) (_ : Nat) (f : Value) (R : Value → Hp → Prop) : Prop :=
  cut (α := Hp → Prop) (fun  σ2 => ∀ _ : Nat → Value, rt σ2 R (.int .i64 (-1))) (fun J3 => ∃ I6 : Nat → Int → Hp → Prop, (∃ n70, I6 n70 0 σ) ∧ 
    ∀ n7 : Nat, ∀ n8 : Int, ∀ σ5 : Hp, I6 n7 n8 σ5 → ∀ _ : Nat → Value, bc (decide (n8 < ((s_n : Nat) : Int))) (ix s_A s_n n8 1 (fun b9 a10 => 
    ldI σ5 .i64 b9 a10 (fun n11 => cl Try.prog f #[(.int .i64 n11)] σ5 (fun v12 σ13 => ∃ t14 : Bool, (v12 = (.bool t14) ∧ 
    bc t14 (rt σ13 R (.int .i64 n8)) (wk .i64 (n8 + 1) (fun n15 => bk σ13 n7 (fun m16 σ17 => I6 m16 n15 σ17)))))))) (J3 σ5))
def M_slices_IndexFunc_int_an : MAn := (.seq (.txt []) (.cut ⟨[], 0, [], []⟩ (.seq (.txt []) (.block (.loop ⟨[], 0, [.slot 8 (.sc (.int .i64))], [(0, true), (1, false), (7, true)]⟩ (.seq (.txt []) (.seq (.cond .leaf .leaf) (.seq (.block (.seq (.txt []) (.seq (.txt []) (.cond (.seq (.txt []) .leaf) .leaf)))) (.txt []))))))) (.seq (.txt []) .leaf)))
set_option maxRecDepth 100000 in
theorem M_slices_IndexFunc_int_ok (σ : Hp) (s_A : Option Addr) (s_n : Nat) (s_c : Nat) (f : Value) (R : Value → Hp → Prop) (h : M_slices_IndexFunc_int σ s_A s_n s_c f R) : FCalls Try.prog 51 #[(.slice s_A s_n s_c), f] σ R :=
  fcalls_of_M mixed_M3 M_slices_IndexFunc_int_an Try.func51 rfl (by kernel_rfl) (by kernel_rfl) (M := M_slices_IndexFunc_int σ s_A s_n s_c f R) (by kernel_rfl) h
theorem M_slices_IndexFunc_int_enter : enterB Try.prog 51 = true := by kernel_rfl

abbrev N_ground_Cable_1 : FuncId := 52
/-- waltzer/ground.Cable$1 -/
def M_ground_Cable_1 (σ : Hp) (c : Int) (cap0 : Option Addr) (cap1 : Option Addr) (cap2 : Option Addr) (R : Value → Hp → Prop) : Prop :=
  dr cap0 (fun b1 o2 => ldP σ b1 o2 (fun p3 => cl Try.prog (.func (.func 46) #[] #[]) #[(.pointer p3), (.int .i64 c)] σ (fun v4 σ5 => 
    ∃ t6 : Bool, (v4 = (.bool t6) ∧ bc t6 (dr cap1 (fun b7 o8 => ldS σ5 b7 o8 (fun A9 l9 _ => ix A9 l9 c 1 (fun b10 a11 => 
    ldI σ5 .i64 b10 a11 (fun n12 => bc (decide ((0 : Int) ≤ n12)) (dr cap1 (fun b13 o14 => ldS σ5 b13 o14 (fun A15 l15 _ => 
    ix A15 l15 c 1 (fun b16 a17 => ldI σ5 .i64 b16 a17 (fun n18 => dr cap0 (fun b19 o20 => ldP σ5 b19 o20 (fun p21 => 
    dr cap2 (fun b22 o23 => ldI σ5 .i64 b22 o23 (fun n24 => dr cap0 (fun b25 o26 => ldP σ5 b25 o26 (fun p27 => 
    dr cap2 (fun b28 o29 => ldI σ5 .i64 b28 o29 (fun n30 => dr cap1 (fun b31 o32 => ldS σ5 b31 o32 (fun A33 l33 _ => 
    dr cap2 (fun b34 o35 => ldI σ5 .i64 b34 o35 (fun n36 => ix A33 l33 n36 1 (fun b37 a38 => ldI σ5 .i64 b37 a38 (fun n39 => 
    cl Try.prog (.func (.func 50) #[] #[]) #[(.pointer p21), (.int .i64 n24), (.int .i64 c)] σ5 (fun v40 σ41 => 
    ∃ n42 : Int, (v40 = (.int .i64 n42) ∧ (Hp.Sub σ5 σ41 ∧ wk .i64 (n18 + n42) (fun n43 => cl Try.prog (.func (.func 48) #[] #[]) #[(.pointer p27), (.int .i64 n30)] σ41 (fun v44 σ45 => 
    ∃ n46 : Int, (v44 = (.int .i64 n46) ∧ (Hp.Sub σ41 σ45 ∧ wk .i64 (n43 + n46) (fun n47 => rt σ45 R (.bool (decide (n47 = n39)))))))))))))))))))))))))))))) (rt σ5 R (.bool false))))))) (bc false (dr cap1 (fun b48 o49 => 
    ldS σ5 b48 o49 (fun A50 l50 _ => ix A50 l50 c 1 (fun b51 a52 => ldI σ5 .i64 b51 a52 (fun n53 => dr cap0 (fun b54 o55 => 
    ldP σ5 b54 o55 (fun p56 => dr cap2 (fun b57 o58 => ldI σ5 .i64 b57 o58 (fun n59 => dr cap0 (fun b60 o61 => 
    ldP σ5 b60 o61 (fun p62 => dr cap2 (fun b63 o64 => ldI σ5 .i64 b63 o64 (fun n65 => dr cap1 (fun b66 o67 => 
    ldS σ5 b66 o67 (fun A68 l68 _ => dr cap2 (fun b69 o70 => ldI σ5 .i64 b69 o70 (fun n71 => ix A68 l68 n71 1 (fun b72 a73 => 
    ldI σ5 .i64 b72 a73 (fun n74 => cl Try.prog (.func (.func 50) #[] #[]) #[(.pointer p56), (.int .i64 n59), (.int .i64 c)] σ5 (fun v75 σ76 => 
    ∃ n77 : Int, (v75 = (.int .i64 n77) ∧ (Hp.Sub σ5 σ76 ∧ wk .i64 (n53 + n77) (fun n78 => cl Try.prog (.func (.func 48) #[] #[]) #[(.pointer p62), (.int .i64 n65)] σ76 (fun v79 σ80 => 
    ∃ n81 : Int, (v79 = (.int .i64 n81) ∧ (Hp.Sub σ76 σ80 ∧ wk .i64 (n78 + n81) (fun n82 => rt σ80 R (.bool (decide (n82 = n74)))))))))))))))))))))))))))))) (rt σ5 R (.bool false)))))))
def M_ground_Cable_1_an : MAn := (.seq (.txt []) (.seq (.plan [2] (.take 0 ⟨[], false, []⟩ (.take 1 ⟨[], false, []⟩ (.alt 2 false ⟨[], false, []⟩ (.take 3 ⟨[], true, []⟩ (.take 4 ⟨[], false, []⟩ (.take 5 ⟨[], false, []⟩ (.take 6 ⟨[], false, []⟩ (.take 7 ⟨[], false, []⟩ (.take 8 ⟨[], false, []⟩ (.take 9 ⟨[], false, []⟩ (.take 10 ⟨[], true, []⟩ (.take 11 ⟨[], false, []⟩ (.take 12 ⟨[], false, []⟩ (.take 13 ⟨[], false, []⟩ (.take 14 ⟨[], false, []⟩ (.take 15 ⟨[], false, []⟩ (.take 16 ⟨[], false, []⟩ (.take 17 ⟨[], false, []⟩ (.take 20 ⟨[], false, []⟩ (.take 21 ⟨[], false, []⟩ (.take 24 ⟨[], false, []⟩ (.take 25 ⟨[], false, []⟩ (.take 26 ⟨[], false, []⟩ (.take 27 ⟨[], false, []⟩ (.alt 18 true ⟨[], false, []⟩ (.take 19 ⟨[], false, []⟩ (.alt 22 true ⟨[], false, []⟩ (.take 23 ⟨[], false, []⟩ (.take 28 ⟨[], false, []⟩ (.take 29 ⟨[], false, []⟩ (.take 30 ⟨[], false, []⟩ .done)))) .done)) .done)))))))))))))))))))))) .done)))) .leaf))
set_option maxRecDepth 100000 in
theorem M_ground_Cable_1_ok (σ : Hp) (c : Int) (cap0 : Option Addr) (cap1 : Option Addr) (cap2 : Option Addr) (R : Value → Hp → Prop) (h : M_ground_Cable_1 σ c cap0 cap1 cap2 R) : FCalls Try.prog 52 #[(.int .i64 c), (.pointer cap0), (.pointer cap1), (.pointer cap2)] σ R :=
  fcalls_of_M mixed_M3 M_ground_Cable_1_an Try.func52 rfl (by kernel_rfl) (by kernel_rfl) (M := M_ground_Cable_1 σ c cap0 cap1 cap2 R) (by kernel_rfl) h
theorem M_ground_Cable_1_enter : enterB Try.prog 52 = true := by kernel_rfl

abbrev N_ref04_within : FuncId := 53
/-- waltzer/waltzerref04.within -/
def M_ref04_within (σ : Hp) (n : Int) (low : Int) (high : Int) (R : Value → Hp → Prop) : Prop :=
  bc (decide (low ≤ n)) (rt σ R (.bool (decide (n ≤ high)))) (rt σ R (.bool false))
def M_ref04_within_an : MAn := (.seq (.txt []) (.seq (.txt [⟨[], false, []⟩, ⟨[], false, []⟩, ⟨[], false, []⟩, ⟨[], true, []⟩]) .leaf))
set_option maxRecDepth 100000 in
theorem M_ref04_within_ok (σ : Hp) (n : Int) (low : Int) (high : Int) (R : Value → Hp → Prop) (h : M_ref04_within σ n low high R) : FCalls Try.prog 53 #[(.int .i64 n), (.int .i64 low), (.int .i64 high)] σ R :=
  fcalls_of_M mixed_M3 M_ref04_within_an Try.func53 rfl (by kernel_rfl) (by kernel_rfl) (M := M_ref04_within σ n low high R) (by kernel_rfl) h
theorem M_ref04_within_enter : enterB Try.prog 53 = true := by kernel_rfl

abbrev N_ref04_checkPitches : FuncId := 54
/-- waltzer/waltzerref04.checkPitches -/
def M_ref04_checkPitches (σ : Hp) (g_Wide : Int) (g_High : Int) (g_Cells_A : Option Addr) (g_Cells_n : Nat) (g_Cells_c : Nat) (g_Heights_A : Option Addr) (g_Heights_n : Nat) (g_Heights_c : Nat) (l_A : Option Addr) (l_n : Nat) (_ : Nat) (R : Value → Hp → Prop) : Prop :=
  cl Try.prog (.func (.func 87) #[] #[]) #[(.agg #[(.int .i64 g_Wide), (.int .i64 g_High), (.slice g_Cells_A g_Cells_n g_Cells_c), (.slice g_Heights_A g_Heights_n g_Heights_c)])] σ (fun v1 σ2 => 
    ∃ n3 : Int, (v1 = (.int .i64 n3) ∧ bc (!decide (n3 = 0)) (rt σ2 R (.tuple #[(.int .i64 0), (.int .i64 n3)])) (bc (decide ((8 : Int) < ((l_n : Nat) : Int))) (rt σ2 R (.tuple #[(.int .i64 0), (.int .i64 2)])) (cut (α := Hp → Prop) (fun  σ5 => 
    ∀ _ : Nat → Value, rt σ5 R (.tuple #[(.int .i64 0), (.int .i64 0)])) (fun J6 => ∃ I9 : Nat → Int → Hp → Prop, (∃ n100, I9 n100 0 σ2) ∧ 
    ∀ n10 : Nat, ∀ n11 : Int, ∀ σ8 : Hp, I9 n10 n11 σ8 → ∀ _ : Nat → Value, bc (decide (n11 < ((l_n : Nat) : Int))) (cut (α := Hp → Prop) (fun  σ13 => 
    ∀ _ : Nat → Value, wk .i64 (n11 + 1) (fun n15 => bk σ13 n10 (fun m16 σ17 => I9 m16 n15 σ17))) (fun J14 => 
    ix l_A l_n n11 5 (fun b18 a19 => ldI σ8 .i64 b18 a19 (fun n20 => ldI σ8 .i64 b18 (a19 + 1) (fun n21 => 
    ldI σ8 .i64 b18 (a19 + 2) (fun n22 => ldI σ8 .i64 b18 (a19 + 3) (fun n23 => ldI σ8 .i64 b18 (a19 + 4) (fun n24 => 
    cut (α := Bool → Hp → Prop) (fun t28 σ26 => ∀ _ : Nat → Value, bc t28 (rt σ26 R (.tuple #[(.int .i64 n11), (.int .i64 41)])) (J14 σ26)) (fun J27 => 
    cl Try.prog (.func (.func 53) #[] #[]) #[(.int .i64 n20), (.int .i64 1), (.int .i64 8)] σ8 (fun v29 σ30 => 
    ∃ t31 : Bool, (v29 = (.bool t31) ∧ bc (!t31) (bc true (bc true (bc true (J27 true σ30) (wk .i64 (((g_Cells_n : Nat) : Int) - 1) (fun n32 => 
    cl Try.prog (.func (.func 53) #[] #[]) #[(.int .i64 n24), (.int .i64 (-1)), (.int .i64 n32)] σ30 (fun v33 σ34 => 
    ∃ t35 : Bool, (v33 = (.bool t35) ∧ J27 (!t35) σ34))))) (cl Try.prog (.func (.func 53) #[] #[]) #[(.int .i64 n23), (.int .i64 0), (.int .i64 1000)] σ30 (fun v36 σ37 => 
    ∃ t38 : Bool, (v36 = (.bool t38) ∧ bc (!t38) (J27 true σ37) (wk .i64 (((g_Cells_n : Nat) : Int) - 1) (fun n39 => 
    cl Try.prog (.func (.func 53) #[] #[]) #[(.int .i64 n24), (.int .i64 (-1)), (.int .i64 n39)] σ37 (fun v40 σ41 => 
    ∃ t42 : Bool, (v40 = (.bool t42) ∧ J27 (!t42) σ41)))))))) (cl Try.prog (.func (.func 53) #[] #[]) #[(.int .i64 n22), (.int .i64 0), (.int .i64 100)] σ30 (fun v43 σ44 => 
    ∃ t45 : Bool, (v43 = (.bool t45) ∧ bc (!t45) (bc true (J27 true σ44) (wk .i64 (((g_Cells_n : Nat) : Int) - 1) (fun n46 => 
    cl Try.prog (.func (.func 53) #[] #[]) #[(.int .i64 n24), (.int .i64 (-1)), (.int .i64 n46)] σ44 (fun v47 σ48 => 
    ∃ t49 : Bool, (v47 = (.bool t49) ∧ J27 (!t49) σ48))))) (cl Try.prog (.func (.func 53) #[] #[]) #[(.int .i64 n23), (.int .i64 0), (.int .i64 1000)] σ44 (fun v50 σ51 => 
    ∃ t52 : Bool, (v50 = (.bool t52) ∧ bc (!t52) (J27 true σ51) (wk .i64 (((g_Cells_n : Nat) : Int) - 1) (fun n53 => 
    cl Try.prog (.func (.func 53) #[] #[]) #[(.int .i64 n24), (.int .i64 (-1)), (.int .i64 n53)] σ51 (fun v54 σ55 => 
    ∃ t56 : Bool, (v54 = (.bool t56) ∧ J27 (!t56) σ55))))))))))) (cl Try.prog (.func (.func 53) #[] #[]) #[(.int .i64 n21), (.int .i64 1), (.int .i64 8)] σ30 (fun v57 σ58 => 
    ∃ t59 : Bool, (v57 = (.bool t59) ∧ bc (!t59) (bc true (bc true (J27 true σ58) (wk .i64 (((g_Cells_n : Nat) : Int) - 1) (fun n60 => 
    cl Try.prog (.func (.func 53) #[] #[]) #[(.int .i64 n24), (.int .i64 (-1)), (.int .i64 n60)] σ58 (fun v61 σ62 => 
    ∃ t63 : Bool, (v61 = (.bool t63) ∧ J27 (!t63) σ62))))) (cl Try.prog (.func (.func 53) #[] #[]) #[(.int .i64 n23), (.int .i64 0), (.int .i64 1000)] σ58 (fun v64 σ65 => 
    ∃ t66 : Bool, (v64 = (.bool t66) ∧ bc (!t66) (J27 true σ65) (wk .i64 (((g_Cells_n : Nat) : Int) - 1) (fun n67 => 
    cl Try.prog (.func (.func 53) #[] #[]) #[(.int .i64 n24), (.int .i64 (-1)), (.int .i64 n67)] σ65 (fun v68 σ69 => 
    ∃ t70 : Bool, (v68 = (.bool t70) ∧ J27 (!t70) σ69)))))))) (cl Try.prog (.func (.func 53) #[] #[]) #[(.int .i64 n22), (.int .i64 0), (.int .i64 100)] σ58 (fun v71 σ72 => 
    ∃ t73 : Bool, (v71 = (.bool t73) ∧ bc (!t73) (bc true (J27 true σ72) (wk .i64 (((g_Cells_n : Nat) : Int) - 1) (fun n74 => 
    cl Try.prog (.func (.func 53) #[] #[]) #[(.int .i64 n24), (.int .i64 (-1)), (.int .i64 n74)] σ72 (fun v75 σ76 => 
    ∃ t77 : Bool, (v75 = (.bool t77) ∧ J27 (!t77) σ76))))) (cl Try.prog (.func (.func 53) #[] #[]) #[(.int .i64 n23), (.int .i64 0), (.int .i64 1000)] σ72 (fun v78 σ79 => 
    ∃ t80 : Bool, (v78 = (.bool t80) ∧ bc (!t80) (J27 true σ79) (wk .i64 (((g_Cells_n : Nat) : Int) - 1) (fun n81 => 
    cl Try.prog (.func (.func 53) #[] #[]) #[(.int .i64 n24), (.int .i64 (-1)), (.int .i64 n81)] σ79 (fun v82 σ83 => 
    ∃ t84 : Bool, (v82 = (.bool t84) ∧ J27 (!t84) σ83)))))))))))))))))))))))) (J6 σ8))))))
def M_ref04_checkPitches_an : MAn := (.seq (.txt []) (.seq (.seq (.txt []) (.seq (.txt []) (.cond (.seq (.txt []) .leaf) .leaf))) (.seq (.seq (.txt []) (.cond (.seq (.txt []) .leaf) .leaf)) (.cut ⟨[true], 1, [], []⟩ (.seq (.txt []) (.block (.loop ⟨[true], 1, [.slot 2 (.hb 0 0), .slot 7 (.sc (.int .i64))], [(1, true)]⟩ (.seq (.seq (.txt []) (.cond .leaf .leaf)) (.cut ⟨[true], 1, [.slot 2 (.hb 0 0)], [(1, true), (7, true)]⟩ (.block (.seq (.txt []) (.cut ⟨[true, true], 2, [.slot 2 (.hb 0 0), .slot 58 (.sc (.bool))], [(1, true), (7, true)]⟩ (.txt [⟨[], false, []⟩, ⟨[], false, []⟩, ⟨[], false, []⟩, ⟨[], false, []⟩, ⟨[], true, []⟩, ⟨[], false, []⟩, ⟨[], false, []⟩, ⟨[], false, []⟩, ⟨[], false, []⟩, ⟨[], false, []⟩, ⟨[], true, []⟩, ⟨[], false, []⟩, ⟨[], false, []⟩, ⟨[], false, []⟩, ⟨[], false, []⟩, ⟨[], false, []⟩, ⟨[], true, []⟩, ⟨[], false, []⟩, ⟨[], false, []⟩, ⟨[], false, []⟩, ⟨[], false, []⟩, ⟨[], false, []⟩, ⟨[], true, []⟩]) (.cond (.seq (.txt []) .leaf) .leaf)))) (.txt [])))))) (.seq (.txt []) .leaf)))))
set_option maxRecDepth 100000 in
theorem M_ref04_checkPitches_ok (σ : Hp) (g_Wide : Int) (g_High : Int) (g_Cells_A : Option Addr) (g_Cells_n : Nat) (g_Cells_c : Nat) (g_Heights_A : Option Addr) (g_Heights_n : Nat) (g_Heights_c : Nat) (l_A : Option Addr) (l_n : Nat) (l_c : Nat) (R : Value → Hp → Prop) (h : M_ref04_checkPitches σ g_Wide g_High g_Cells_A g_Cells_n g_Cells_c g_Heights_A g_Heights_n g_Heights_c l_A l_n l_c R) : FCalls Try.prog 54 #[(.agg #[(.int .i64 g_Wide), (.int .i64 g_High), (.slice g_Cells_A g_Cells_n g_Cells_c), (.slice g_Heights_A g_Heights_n g_Heights_c)]), (.slice l_A l_n l_c)] σ R :=
  fcalls_of_M mixed_M3 M_ref04_checkPitches_an Try.func54 rfl (by kernel_rfl) (by kernel_rfl) (M := M_ref04_checkPitches σ g_Wide g_High g_Cells_A g_Cells_n g_Cells_c g_Heights_A g_Heights_n g_Heights_c l_A l_n l_c R) (by kernel_rfl) h
theorem M_ref04_checkPitches_enter : enterB Try.prog 54 = true := by kernel_rfl

abbrev N_ref04_beside : FuncId := 55
/-- waltzer/waltzerref04.beside -/
def M_ref04_beside (σ : Hp) (g_Wide : Int) (g_High : Int) (g_Cells_A : Option Addr) (g_Cells_n : Nat) (g_Cells_c : Nat) (g_Heights_A : Option Addr) (g_Heights_n : Nat) (g_Heights_c : Nat) (p_Wide : Int) (p_High : Int) (p_Slope : Int) (p_Years : Int) (p_Wish : Int) (s_Cell : Int) (s_Turned : Bool) (full_A : Option Addr) (full_n : Nat) (_ : Nat) (R : Value → Hp → Prop) : Prop :=
  cl Try.prog (.func (.func 88) #[] #[]) #[(.agg #[(.int .i64 g_Wide), (.int .i64 g_High), (.slice g_Cells_A g_Cells_n g_Cells_c), (.slice g_Heights_A g_Heights_n g_Heights_c)]), (.agg #[(.int .i64 p_Wide), (.int .i64 p_High), (.int .i64 p_Slope), (.int .i64 p_Years), (.int .i64 p_Wish)]), (.agg #[(.int .i64 s_Cell), (.bool s_Turned)])] σ (fun v1 σ2 => 
    ∃ t3 : Bool, (v1 = (.bool t3) ∧ bc (!t3) (rt σ2 R (.bool false)) (cl Try.prog (.func (.func 78) #[] #[]) #[(.agg #[(.int .i64 g_Wide), (.int .i64 g_High), (.slice g_Cells_A g_Cells_n g_Cells_c), (.slice g_Heights_A g_Heights_n g_Heights_c)]), (.agg #[(.int .i64 p_Wide), (.int .i64 p_High), (.int .i64 p_Slope), (.int .i64 p_Years), (.int .i64 p_Wish)]), (.agg #[(.int .i64 s_Cell), (.bool s_Turned)])] σ2 (fun v4 σ5 => 
    ∃ A6 : Option Addr, ∃ l6 : Nat, ∃ c6 : Nat, ∃ t7 : Bool, (v4 = (.tuple #[(.slice A6 l6 c6), (.bool t7)]) ∧ 
    cut (α := Hp → Prop) (fun  σ9 => ∀ _ : Nat → Value, rt σ9 R (.bool true)) (fun J10 => ∃ I13 : Nat → Int → Hp → Prop, (∃ n140, I13 n140 0 σ5) ∧ 
    ∀ n14 : Nat, ∀ n15 : Int, ∀ σ12 : Hp, I13 n14 n15 σ12 → ∀ _ : Nat → Value, bc (decide (n15 < ((l6 : Nat) : Int))) (ix A6 l6 n15 1 (fun b16 a17 => 
    ldI σ12 .i64 b16 a17 (fun n18 => ix full_A full_n n18 1 (fun b19 a20 => ldB σ12 b19 a20 (fun t21 => bc t21 (rt σ12 R (.bool false)) (wk .i64 (n15 + 1) (fun n22 => 
    bk σ12 n14 (fun m23 σ24 => I13 m23 n22 σ24)))))))) (J10 σ12)))))))
def M_ref04_beside_an : MAn := (.seq (.txt []) (.seq (.seq (.txt []) (.cond (.seq (.txt []) .leaf) .leaf)) (.seq (.txt []) (.cut ⟨[true, true, true], 3, [], []⟩ (.seq (.txt []) (.block (.loop ⟨[true, true, true], 3, [.slot 11 (.sc (.int .i64))], [(3, true), (9, true)]⟩ (.seq (.seq (.txt []) (.cond .leaf .leaf)) (.seq (.block (.seq (.txt []) (.cond (.seq (.txt []) .leaf) .leaf))) (.txt [])))))) (.seq (.txt []) .leaf)))))
set_option maxRecDepth 100000 in
theorem M_ref04_beside_ok (σ : Hp) (g_Wide : Int) (g_High : Int) (g_Cells_A : Option Addr) (g_Cells_n : Nat) (g_Cells_c : Nat) (g_Heights_A : Option Addr) (g_Heights_n : Nat) (g_Heights_c : Nat) (p_Wide : Int) (p_High : Int) (p_Slope : Int) (p_Years : Int) (p_Wish : Int) (s_Cell : Int) (s_Turned : Bool) (full_A : Option Addr) (full_n : Nat) (full_c : Nat) (R : Value → Hp → Prop) (h : M_ref04_beside σ g_Wide g_High g_Cells_A g_Cells_n g_Cells_c g_Heights_A g_Heights_n g_Heights_c p_Wide p_High p_Slope p_Years p_Wish s_Cell s_Turned full_A full_n full_c R) : FCalls Try.prog 55 #[(.agg #[(.int .i64 g_Wide), (.int .i64 g_High), (.slice g_Cells_A g_Cells_n g_Cells_c), (.slice g_Heights_A g_Heights_n g_Heights_c)]), (.agg #[(.int .i64 p_Wide), (.int .i64 p_High), (.int .i64 p_Slope), (.int .i64 p_Years), (.int .i64 p_Wish)]), (.agg #[(.int .i64 s_Cell), (.bool s_Turned)]), (.slice full_A full_n full_c)] σ R :=
  fcalls_of_M mixed_M3 M_ref04_beside_an Try.func55 rfl (by kernel_rfl) (by kernel_rfl) (M := M_ref04_beside σ g_Wide g_High g_Cells_A g_Cells_n g_Cells_c g_Heights_A g_Heights_n g_Heights_c p_Wide p_High p_Slope p_Years p_Wish s_Cell s_Turned full_A full_n full_c R) (by kernel_rfl) h
theorem M_ref04_beside_enter : enterB Try.prog 55 = true := by kernel_rfl

abbrev N_ref04_taken : FuncId := 56
/-- waltzer/waltzerref04.taken -/
def M_ref04_taken (σ : Hp) (g_Wide : Int) (g_High : Int) (g_Cells_A : Option Addr) (g_Cells_n : Nat) (g_Cells_c : Nat) (g_Heights_A : Option Addr) (g_Heights_n : Nat) (g_Heights_c : Nat) (l_A : Option Addr) (l_n : Nat) (_ : Nat) (sites_A : Option Addr) (sites_n : Nat) (_ : Nat) (but : Int) (R : Value → Hp → Prop) : Prop :=
  (0 ≤ ((g_Cells_n : Nat) : Int) ∧ ((g_Cells_n : Nat) : Int) ≤ ((g_Cells_n : Nat) : Int) ∧ ((g_Cells_n : Nat) : Int) ≤ (1000000000 : Int) ∧ 
    cut (α := List Bool → Hp → Prop) (fun xs4 σ2 => ∀ _ : Nat → Value, exl 4 [.bool] xs4 σ2 (fun A5 l5 c5 σ6 => 
    rt σ6 R (.slice A5 l5 c5))) (fun J3 => ∃ I9 : Nat → Int → List Bool → Hp → Prop, (∃ n100, I9 n100 0 (List.replicate (((g_Cells_n : Nat) : Int) : Int).toNat false : List Bool) σ) ∧ 
    ∀ n10 : Nat, ∀ n11 : Int, ∀ xs12 : List Bool, ∀ σ8 : Hp, I9 n10 n11 xs12 σ8 → ∀ _ : Nat → Value, bc (decide (n11 < ((sites_n : Nat) : Int))) (cut (α := List Bool → Hp → Prop) (fun xs16 σ14 => 
    ∀ _ : Nat → Value, wk .i64 (n11 + 1) (fun n17 => bk σ14 n10 (fun m18 σ19 => I9 m18 n17 xs16 σ19))) (fun J15 => 
    cut (α := Hp → Prop) (fun  σ21 => ∀ _ : Nat → Value, ix l_A l_n n11 5 (fun b23 a24 => ldI σ21 .i64 b23 a24 (fun n25 => 
    ldI σ21 .i64 b23 (a24 + 1) (fun n26 => ldI σ21 .i64 b23 (a24 + 2) (fun n27 => ldI σ21 .i64 b23 (a24 + 3) (fun n28 => 
    ldI σ21 .i64 b23 (a24 + 4) (fun n29 => ix sites_A sites_n n11 2 (fun b30 a31 => ldI σ21 .i64 b30 a31 (fun n32 => 
    ldB σ21 b30 (a31 + 1) (fun t33 => cl Try.prog (.func (.func 78) #[] #[]) #[(.agg #[(.int .i64 g_Wide), (.int .i64 g_High), (.slice g_Cells_A g_Cells_n g_Cells_c), (.slice g_Heights_A g_Heights_n g_Heights_c)]), (.agg #[(.int .i64 n25), (.int .i64 n26), (.int .i64 n27), (.int .i64 n28), (.int .i64 n29)]), (.agg #[(.int .i64 n32), (.bool t33)])] σ21 (fun v34 σ35 => 
    ∃ A36 : Option Addr, ∃ l36 : Nat, ∃ c36 : Nat, ∃ t37 : Bool, (v34 = (.tuple #[(.slice A36 l36 c36), (.bool t37)]) ∧ 
    ∃ I40 : Nat → Int → List Bool → Hp → Prop, (∃ n410, I40 n410 0 xs12 σ35) ∧ ∀ n41 : Nat, ∀ n42 : Int, ∀ xs43 : List Bool, ∀ σ39 : Hp, I40 n41 n42 xs43 σ39 → ∀ _ : Nat → Value, bc (decide (n42 < ((l36 : Nat) : Int))) (ix A36 l36 n42 1 (fun b44 a45 => 
    ldI σ39 .i64 b44 a45 (fun n46 => (0 ≤ n46 ∧ n46 < ((List.length xs43 : Nat) : Int) ∧ lat xs43 ((n46 : Int).toNat) (fun _ => 
    wk .i64 (n42 + 1) (fun n48 => bk σ39 n41 (fun m49 σ50 => I40 m49 n48 (List.set xs43 ((n46 : Int).toNat) true) σ50))))))) (J15 xs43 σ39))))))))))))) (fun J22 => 
    cut (α := Bool → Hp → Prop) (fun t54 σ52 => ∀ _ : Nat → Value, bc t54 (J15 xs12 σ52) (J22 σ52)) (fun J53 => 
    bc (decide (n11 = but)) (J53 true σ8) (ix sites_A sites_n n11 2 (fun b55 a56 => ldI σ8 .i64 b55 a56 (fun n57 => 
    J53 (decide (n57 < 0)) σ8))))))) (J3 xs12 σ8)))
def M_ref04_taken_an : MAn := (.seq (.txt []) (.seq (.txt []) (.cut ⟨[true, false], 2, [.slot 9 (.hl 1 0), .modl 1 0 4 [.bool]], []⟩ (.seq (.txt []) (.block (.loop ⟨[true, false], 2, [.slot 4 (.hb 0 0), .slot 9 (.hl 1 0), .slot 10 (.sc (.int .i64)), .modl 1 0 4 [.bool]], [(1, true), (2, true), (3, true)]⟩ (.seq (.seq (.txt []) (.cond .leaf .leaf)) (.cut ⟨[true, false], 2, [.slot 4 (.hb 0 0), .slot 9 (.hl 1 0), .modl 1 0 4 [.bool]], [(1, true), (2, true), (3, true), (10, true)]⟩ (.block (.cut ⟨[true, true], 2, [.slot 4 (.hb 0 0), .slot 9 (.hl 1 0)], [(1, true), (2, true), (3, true), (10, true)]⟩ (.cut ⟨[true, true], 2, [.slot 4 (.hb 0 0), .slot 9 (.hl 1 0), .slot 34 (.sc (.bool))], [(1, true), (2, true), (3, true), (10, true)]⟩ (.txt [⟨[], false, []⟩, ⟨[], false, []⟩, ⟨[], false, []⟩, ⟨[], true, []⟩]) (.cond .leaf .leaf)) (.seq (.plan [9] (.take 0 ⟨[], false, []⟩ (.take 1 ⟨[], false, []⟩ (.take 2 ⟨[], false, []⟩ (.take 3 ⟨[], false, []⟩ (.take 4 ⟨[], false, []⟩ (.take 5 ⟨[], false, []⟩ (.take 6 ⟨[], false, []⟩ (.take 7 ⟨[], false, []⟩ (.take 8 ⟨[], false, []⟩ (.alt 9 false ⟨[], false, []⟩ (.take 10 ⟨[], false, []⟩ (.take 11 ⟨[], false, []⟩ (.take 12 ⟨[], false, []⟩ (.take 13 ⟨[], false, []⟩ (.take 14 ⟨[], false, []⟩ .done))))) .done))))))))))) (.seq (.txt []) (.block (.loop ⟨[true, false], 2, [.slot 4 (.hb 0 0), .slot 9 (.hl 1 0), .slot 13 (.sc (.int .i64)), .modl 1 0 4 [.bool]], [(1, true), (2, true), (3, true), (10, true), (11, true)]⟩ (.seq (.seq (.txt []) (.cond .leaf .leaf)) (.seq (.block (.txt [])) (.txt []))))))))) (.txt [])))))) (.seq (.txt []) .leaf))))
set_option maxRecDepth 100000 in
theorem M_ref04_taken_ok (σ : Hp) (g_Wide : Int) (g_High : Int) (g_Cells_A : Option Addr) (g_Cells_n : Nat) (g_Cells_c : Nat) (g_Heights_A : Option Addr) (g_Heights_n : Nat) (g_Heights_c : Nat) (l_A : Option Addr) (l_n : Nat) (l_c : Nat) (sites_A : Option Addr) (sites_n : Nat) (sites_c : Nat) (but : Int) (R : Value → Hp → Prop) (h : M_ref04_taken σ g_Wide g_High g_Cells_A g_Cells_n g_Cells_c g_Heights_A g_Heights_n g_Heights_c l_A l_n l_c sites_A sites_n sites_c but R) : FCalls Try.prog 56 #[(.agg #[(.int .i64 g_Wide), (.int .i64 g_High), (.slice g_Cells_A g_Cells_n g_Cells_c), (.slice g_Heights_A g_Heights_n g_Heights_c)]), (.slice l_A l_n l_c), (.slice sites_A sites_n sites_c), (.int .i64 but)] σ R :=
  fcalls_of_M mixed_M3 M_ref04_taken_an Try.func56 rfl (by kernel_rfl) (by kernel_rfl) (M := M_ref04_taken σ g_Wide g_High g_Cells_A g_Cells_n g_Cells_c g_Heights_A g_Heights_n g_Heights_c l_A l_n l_c sites_A sites_n sites_c but R) (by kernel_rfl) h
theorem M_ref04_taken_enter : enterB Try.prog 56 = true := by kernel_rfl

abbrev N_ground_newField : FuncId := 57
/-- waltzer/ground.newField -/
def M_ground_newField (σ : Hp) (g_Wide : Int) (g_High : Int) (g_Cells_A : Option Addr) (g_Cells_n : Nat) (g_Cells_c : Nat) (g_Heights_A : Option Addr) (g_Heights_n : Nat) (g_Heights_c : Nat) (l_A : Option Addr) (l_n : Nat) (l_c : Nat) (sites_A : Option Addr) (sites_n : Nat) (_ : Nat) (R : Value → Hp → Prop) : Prop :=
  cl Try.prog (.func (.func 62) #[] #[]) #[(.agg #[(.int .i64 g_Wide), (.int .i64 g_High), (.slice g_Cells_A g_Cells_n g_Cells_c), (.slice g_Heights_A g_Heights_n g_Heights_c)]), (.slice l_A l_n l_c)] σ (fun v1 σ2 => 
    ∃ p3 : Option Addr, ∃ n4 : Int, ∃ n5 : Int, (v1 = (.tuple #[(.pointer p3), (.int .i64 n4), (.int .i64 n5)]) ∧ 
    bc (!decide (n5 = 0)) (rt σ2 R (.tuple #[(.pointer none), (.int .i64 n4), (.int .i64 n5)])) (bc (!decide (((sites_n : Nat) : Int) = ((l_n : Nat) : Int))) (rt σ2 R (.tuple #[(.pointer none), (.int .i64 ((sites_n : Nat) : Int)), (.int .i64 41)])) (cut (α := Option Addr → Hp → Prop) (fun p9 σ7 => 
    ∀ _ : Nat → Value, rt σ7 R (.tuple #[(.pointer p9), (.int .i64 0), (.int .i64 0)])) (fun J8 => ∃ I12 : Nat → Option Addr → Int → Hp → Prop, (∃ n130, I12 n130 p3 0 σ2) ∧ 
    ∀ n13 : Nat, ∀ p14 : Option Addr, ∀ n15 : Int, ∀ σ11 : Hp, I12 n13 p14 n15 σ11 → ∀ _ : Nat → Value, bc (decide (n15 < ((sites_n : Nat) : Int))) (cut (α := Option Addr → Hp → Prop) (fun p19 σ17 => 
    ∀ _ : Nat → Value, wk .i64 (n15 + 1) (fun n20 => bk σ17 n13 (fun m21 σ22 => I12 m21 p19 n20 σ22))) (fun J18 => 
    ix sites_A sites_n n15 2 (fun b23 a24 => ldI σ11 .i64 b23 a24 (fun n25 => ldB σ11 b23 (a24 + 1) (fun t26 => 
    bc (decide (n25 = (-1)) && (t26 == false)) (J18 p14 σ11) (cl Try.prog (.func (.func 89) #[] #[]) #[(.pointer p14), (.int .i64 n15), (.agg #[(.int .i64 n25), (.bool t26)])] σ11 (fun v27 σ28 => 
    ∃ t29 : Bool, (v27 = (.bool t29) ∧ bc (!t29) (rt σ28 R (.tuple #[(.pointer none), (.int .i64 n15), (.int .i64 41)])) (cl Try.prog (.func (.func 65) #[] #[]) #[(.pointer p14), (.int .i64 n15), (.agg #[(.int .i64 n25), (.bool t26)])] σ28 (fun _ σ31 => 
    J18 p14 σ31)))))))))) (J8 p14 σ11))))))
def M_ground_newField_an : MAn := (.seq (.txt []) (.seq (.txt []) (.seq (.seq (.txt []) (.cond (.seq (.txt []) .leaf) .leaf)) (.seq (.seq (.txt []) (.cond (.seq (.txt []) .leaf) .leaf)) (.cut ⟨[true], 1, [.slot 6 (.sc (.ptr))], []⟩ (.seq (.txt []) (.block (.loop ⟨[true], 1, [.slot 6 (.sc (.ptr)), .slot 31 (.sc (.int .i64))], [(29, true), (30, true)]⟩ (.seq (.txt []) (.seq (.cond .leaf .leaf) (.cut ⟨[true], 1, [.slot 6 (.sc (.ptr))], [(29, true), (30, true), (31, true)]⟩ (.block (.seq (.txt []) (.seq (.seq (.txt []) (.cond .leaf .leaf)) (.seq (.seq (.txt []) (.cond (.seq (.txt []) .leaf) .leaf)) (.txt []))))) (.txt []))))))) (.seq (.txt []) .leaf))))))
set_option maxRecDepth 100000 in
theorem M_ground_newField_ok (σ : Hp) (g_Wide : Int) (g_High : Int) (g_Cells_A : Option Addr) (g_Cells_n : Nat) (g_Cells_c : Nat) (g_Heights_A : Option Addr) (g_Heights_n : Nat) (g_Heights_c : Nat) (l_A : Option Addr) (l_n : Nat) (l_c : Nat) (sites_A : Option Addr) (sites_n : Nat) (sites_c : Nat) (R : Value → Hp → Prop) (h : M_ground_newField σ g_Wide g_High g_Cells_A g_Cells_n g_Cells_c g_Heights_A g_Heights_n g_Heights_c l_A l_n l_c sites_A sites_n sites_c R) : FCalls Try.prog 57 #[(.agg #[(.int .i64 g_Wide), (.int .i64 g_High), (.slice g_Cells_A g_Cells_n g_Cells_c), (.slice g_Heights_A g_Heights_n g_Heights_c)]), (.slice l_A l_n l_c), (.slice sites_A sites_n sites_c)] σ R :=
  fcalls_of_M mixed_M3 M_ground_newField_an Try.func57 rfl (by kernel_rfl) (by kernel_rfl) (M := M_ground_newField σ g_Wide g_High g_Cells_A g_Cells_n g_Cells_c g_Heights_A g_Heights_n g_Heights_c l_A l_n l_c sites_A sites_n sites_c R) (by kernel_rfl) h
theorem M_ground_newField_enter : enterB Try.prog 57 = true := by kernel_rfl

abbrev N_ground_within : FuncId := 58
/-- waltzer/ground.within -/
def M_ground_within (σ : Hp) (n : Int) (low : Int) (high : Int) (R : Value → Hp → Prop) : Prop :=
  bc (decide (low ≤ n)) (rt σ R (.bool (decide (n ≤ high)))) (rt σ R (.bool false))
def M_ground_within_an : MAn := (.seq (.txt []) (.seq (.txt [⟨[], false, []⟩, ⟨[], false, []⟩, ⟨[], false, []⟩, ⟨[], true, []⟩]) .leaf))
set_option maxRecDepth 100000 in
theorem M_ground_within_ok (σ : Hp) (n : Int) (low : Int) (high : Int) (R : Value → Hp → Prop) (h : M_ground_within σ n low high R) : FCalls Try.prog 58 #[(.int .i64 n), (.int .i64 low), (.int .i64 high)] σ R :=
  fcalls_of_M mixed_M3 M_ground_within_an Try.func58 rfl (by kernel_rfl) (by kernel_rfl) (M := M_ground_within σ n low high R) (by kernel_rfl) h
theorem M_ground_within_enter : enterB Try.prog 58 = true := by kernel_rfl

abbrev N_ground_field_take : FuncId := 59
/-- (*waltzer/ground.field).take -/
def M_ground_field_take (σ : Hp) (f : Option Addr) (pitch : Int) (R : Value → Hp → Prop) : Prop :=
  dr f (fun b1 o2 => ldS σ b1 (o2 + 5) (fun A3 l3 _ => ix A3 l3 pitch 2 (fun b4 a5 => st σ b4 a5 (.int .i64 (-1)) (fun σ6 => 
    st σ6 b4 (a5 + 1) (.bool false) (fun σ7 => dr f (fun b8 o9 => ldS σ7 b8 (o9 + 6) (fun A10 l10 _ => 
    ∃ I14 : Nat → Int → Hp → Prop, (∃ n150, I14 n150 0 σ7) ∧ ∀ n15 : Nat, ∀ n16 : Int, ∀ σ13 : Hp, I14 n15 n16 σ13 → ∀ _ : Nat → Value, bc (decide (n16 < ((l10 : Nat) : Int))) (cut (α := Hp → Prop) (fun  σ18 => 
    ∀ _ : Nat → Value, wk .i64 (n16 + 1) (fun n20 => bk σ18 n15 (fun m21 σ22 => I14 m21 n20 σ22))) (fun J19 => 
    ix A10 l10 n16 1 (fun b23 a24 => ldI σ13 .i64 b23 a24 (fun n25 => bc (decide (n25 = pitch)) (dr f (fun b26 o27 => 
    ldS σ13 b26 (o27 + 6) (fun A28 l28 _ => ix A28 l28 n16 1 (fun b29 a30 => st σ13 b29 a30 (.int .i64 (-1)) (fun σ31 => 
    J19 σ31))))) (J19 σ13))))) (rt σ13 R (.tuple #[])))))))))
def M_ground_field_take_an : MAn := (.seq (.txt []) (.seq (.txt []) (.block (.loop ⟨[], 0, [.slot 18 (.sc (.int .i64))], [(0, true), (1, true), (16, true), (17, true)]⟩ (.seq (.txt []) (.seq (.cond .leaf .leaf) (.cut ⟨[], 0, [], [(0, true), (1, true), (16, true), (17, true), (18, true)]⟩ (.block (.seq (.txt []) (.seq (.txt []) (.cond (.txt []) .leaf)))) (.txt []))))))))
set_option maxRecDepth 100000 in
theorem M_ground_field_take_ok (σ : Hp) (f : Option Addr) (pitch : Int) (R : Value → Hp → Prop) (h : M_ground_field_take σ f pitch R) : FCalls Try.prog 59 #[(.pointer f), (.int .i64 pitch)] σ R :=
  fcalls_of_M mixed_M3 M_ground_field_take_an Try.func59 rfl (by kernel_rfl) (by kernel_rfl) (M := M_ground_field_take σ f pitch R) (by kernel_rfl) h
theorem M_ground_field_take_enter : enterB Try.prog 59 = true := by kernel_rfl

abbrev N_ground_field_where : FuncId := 60
/-- (*waltzer/ground.field).where -/
def M_ground_field_where (σ : Hp) (f : Option Addr) (pitch : Int) (R : Value → Hp → Prop) : Prop :=
  bx σ (.cells #[(.pointer f)] 67) (fun b1 σ2 => bx σ2 (.cells #[(.int .i64 pitch)] 3) (fun b3 σ4 => rt σ4 R (.func (.func 90) #[] #[(.pointer (some ⟨b1, 0, none⟩)), (.pointer (some ⟨b3, 0, none⟩))])))
def M_ground_field_where_an : MAn := (.seq (.txt []) (.seq (.txt []) .leaf))
set_option maxRecDepth 100000 in
theorem M_ground_field_where_ok (σ : Hp) (f : Option Addr) (pitch : Int) (R : Value → Hp → Prop) (h : M_ground_field_where σ f pitch R) : FCalls Try.prog 60 #[(.pointer f), (.int .i64 pitch)] σ R :=
  fcalls_of_M mixed_M3 M_ground_field_where_an Try.func60 rfl (by kernel_rfl) (by kernel_rfl) (M := M_ground_field_where σ f pitch R) (by kernel_rfl) h
theorem M_ground_field_where_enter : enterB Try.prog 60 = true := by kernel_rfl

abbrev N_ref04_places : FuncId := 61
/-- waltzer/waltzerref04.places -/
def M_ref04_places (σ : Hp) (g_Wide : Int) (g_High : Int) (g_Cells_A : Option Addr) (g_Cells_n : Nat) (g_Cells_c : Nat) (g_Heights_A : Option Addr) (g_Heights_n : Nat) (g_Heights_c : Nat) (p_Wide : Int) (p_High : Int) (p_Slope : Int) (p_Years : Int) (p_Wish : Int) (full_A : Option Addr) (full_n : Nat) (full_c : Nat) (R : Value → Hp → Prop) : Prop :=
  cut (α := Option Addr → Nat → Nat → Hp → Prop) (fun A4 l4 c4 σ2 => ∀ _ : Nat → Value, rt σ2 R (.slice A4 l4 c4)) (fun J3 => 
    ∃ I7 : Nat → Option Addr → Nat → Nat → Int → Hp → Prop, (∃ n80, I7 n80 none 0 0 0 σ) ∧ ∀ n8 : Nat, ∀ A9 : Option Addr, ∀ l9 : Nat, ∀ c9 : Nat, ∀ n10 : Int, ∀ σ6 : Hp, I7 n8 A9 l9 c9 n10 σ6 → ∀ _ : Nat → Value, bc (decide (n10 < ((g_Cells_n : Nat) : Int))) (cut (α := Option Addr → Nat → Nat → Hp → Prop) (fun A14 l14 c14 σ12 => 
    ∀ _ : Nat → Value, wk .i64 (n10 + 1) (fun n15 => bk σ12 n8 (fun m16 σ17 => I7 m16 A14 l14 c14 n15 σ17))) (fun J13 => 
    cut (α := Option Addr → Nat → Nat → Hp → Prop) (fun A21 l21 c21 σ19 => ∀ _ : Nat → Value, cl Try.prog (.func (.func 55) #[] #[]) #[(.agg #[(.int .i64 g_Wide), (.int .i64 g_High), (.slice g_Cells_A g_Cells_n g_Cells_c), (.slice g_Heights_A g_Heights_n g_Heights_c)]), (.agg #[(.int .i64 p_Wide), (.int .i64 p_High), (.int .i64 p_Slope), (.int .i64 p_Years), (.int .i64 p_Wish)]), (.agg #[(.int .i64 n10), (.bool true)]), (.slice full_A full_n full_c)] σ19 (fun v22 σ23 => 
    ∃ t24 : Bool, (v22 = (.bool t24) ∧ bc t24 (adp 50 [.int .i64, .bool] A21 l21 c21 σ23 (fun (xs25 : List (Int × Bool)) σ26 => 
    roomy (List.length xs25 + List.length ([(n10, true)] : List (Int × Bool))) (exl 50 [.int .i64, .bool] (xs25 ++ ([(n10, true)] : List (Int × Bool))) σ26 (fun A27 l27 c27 σ28 => 
    J13 A27 l27 c27 σ28)))) (J13 A21 l21 c21 σ23)))) (fun J20 => cl Try.prog (.func (.func 55) #[] #[]) #[(.agg #[(.int .i64 g_Wide), (.int .i64 g_High), (.slice g_Cells_A g_Cells_n g_Cells_c), (.slice g_Heights_A g_Heights_n g_Heights_c)]), (.agg #[(.int .i64 p_Wide), (.int .i64 p_High), (.int .i64 p_Slope), (.int .i64 p_Years), (.int .i64 p_Wish)]), (.agg #[(.int .i64 n10), (.bool false)]), (.slice full_A full_n full_c)] σ6 (fun v29 σ30 => 
    ∃ t31 : Bool, (v29 = (.bool t31) ∧ bc t31 (adp 50 [.int .i64, .bool] A9 l9 c9 σ30 (fun (xs32 : List (Int × Bool)) σ33 => 
    roomy (List.length xs32 + List.length ([(n10, false)] : List (Int × Bool))) (exl 50 [.int .i64, .bool] (xs32 ++ ([(n10, false)] : List (Int × Bool))) σ33 (fun A34 l34 c34 σ35 => 
    J20 A34 l34 c34 σ35)))) (J20 A9 l9 c9 σ30)))))) (J3 A9 l9 c9 σ6))
def M_ref04_places_an : MAn := (.seq (.txt []) (.seq (.txt []) (.cut ⟨[true, true], 2, [.slot 7 (.sc (.slc))], []⟩ (.seq (.txt []) (.block (.loop ⟨[true, true], 2, [.slot 3 (.hb 0 0), .slot 4 (.hb 1 0), .slot 7 (.sc (.slc)), .slot 8 (.sc (.int .i64))], [(2, true)]⟩ (.seq (.seq (.txt []) (.cond .leaf .leaf)) (.cut ⟨[true, true], 2, [.slot 3 (.hb 0 0), .slot 4 (.hb 1 0), .slot 7 (.sc (.slc))], [(2, true), (8, true)]⟩ (.block (.cut ⟨[true, true], 2, [.slot 3 (.hb 0 0), .slot 4 (.hb 1 0), .slot 7 (.sc (.slc))], [(2, true), (8, true)]⟩ (.seq (.txt []) (.seq (.txt []) (.cond (.txt []) .leaf))) (.seq (.txt []) (.seq (.txt []) (.cond (.txt []) .leaf))))) (.txt [])))))) (.seq (.txt []) .leaf))))
set_option maxRecDepth 100000 in
theorem M_ref04_places_ok (σ : Hp) (g_Wide : Int) (g_High : Int) (g_Cells_A : Option Addr) (g_Cells_n : Nat) (g_Cells_c : Nat) (g_Heights_A : Option Addr) (g_Heights_n : Nat) (g_Heights_c : Nat) (p_Wide : Int) (p_High : Int) (p_Slope : Int) (p_Years : Int) (p_Wish : Int) (full_A : Option Addr) (full_n : Nat) (full_c : Nat) (R : Value → Hp → Prop) (h : M_ref04_places σ g_Wide g_High g_Cells_A g_Cells_n g_Cells_c g_Heights_A g_Heights_n g_Heights_c p_Wide p_High p_Slope p_Years p_Wish full_A full_n full_c R) : FCalls Try.prog 61 #[(.agg #[(.int .i64 g_Wide), (.int .i64 g_High), (.slice g_Cells_A g_Cells_n g_Cells_c), (.slice g_Heights_A g_Heights_n g_Heights_c)]), (.agg #[(.int .i64 p_Wide), (.int .i64 p_High), (.int .i64 p_Slope), (.int .i64 p_Years), (.int .i64 p_Wish)]), (.slice full_A full_n full_c)] σ R :=
  fcalls_of_M mixed_M3 M_ref04_places_an Try.func61 rfl (by kernel_rfl) (by kernel_rfl) (M := M_ref04_places σ g_Wide g_High g_Cells_A g_Cells_n g_Cells_c g_Heights_A g_Heights_n g_Heights_c p_Wide p_High p_Slope p_Years p_Wish full_A full_n full_c R) (by kernel_rfl) h
theorem M_ref04_places_enter : enterB Try.prog 61 = true := by kernel_rfl

abbrev N_ground_empty : FuncId := 62
/-- waltzer/ground.empty -/
def M_ground_empty (σ : Hp) (g_Wide : Int) (g_High : Int) (g_Cells_A : Option Addr) (g_Cells_n : Nat) (g_Cells_c : Nat) (g_Heights_A : Option Addr) (g_Heights_n : Nat) (g_Heights_c : Nat) (l_A : Option Addr) (l_n : Nat) (l_c : Nat) (R : Value → Hp → Prop) : Prop :=
  cl Try.prog (.func (.func 91) #[] #[]) #[(.agg #[(.int .i64 g_Wide), (.int .i64 g_High), (.slice g_Cells_A g_Cells_n g_Cells_c), (.slice g_Heights_A g_Heights_n g_Heights_c)])] σ (fun v1 σ2 => 
    ∃ t3 : Bool, (v1 = (.bool t3) ∧ bc (!t3) (rt σ2 R (.tuple #[(.pointer none), (.int .i64 0), (.int .i64 40)])) (bc (decide ((8 : Int) < ((l_n : Nat) : Int))) (rt σ2 R (.tuple #[(.pointer none), (.int .i64 0), (.int .i64 2)])) (bx σ2 (.cells #[(.int .i64 g_Wide), (.int .i64 g_High), (.slice g_Cells_A g_Cells_n g_Cells_c), (.slice g_Heights_A g_Heights_n g_Heights_c)] 24) (fun b4 σ5 => 
    cl Try.prog (.func (.func 92) #[] #[]) #[(.slice l_A l_n l_c), (.func (.func 93) #[] #[(.pointer (some ⟨b4, 0, none⟩))])] σ5 (fun v6 σ7 => 
    ∃ n8 : Int, (v6 = (.int .i64 n8) ∧ bc (decide ((0 : Int) ≤ n8)) (rt σ7 R (.tuple #[(.pointer none), (.int .i64 n8), (.int .i64 41)])) (ldI σ7 .i64 b4 0 (fun n9 => 
    ldI σ7 .i64 b4 1 (fun n10 => ldS σ7 b4 2 (fun A11 l11 c11 => ldS σ7 b4 3 (fun A12 l12 c12 => ldS σ7 b4 2 (fun _ l13 _ => 
    (((exl 50 [.int .i64, .bool] ([((-1), false)] : List (Int × Bool)) σ7 (fun A14 l14 c14 σ15 => cl Try.prog (.func (.func 95) #[] #[]) #[(.slice A14 l14 c14), (.int .i64 ((l_n : Nat) : Int))] σ15 (fun v16 σ17 => 
    ∃ A18 : Option Addr, ∃ l18 : Nat, ∃ c18 : Nat, (v16 = (.slice A18 l18 c18) ∧ (Hp.Sub σ15 σ17 ∧ exl 3 [.int .i64] ([(-1)] : List Int) σ17 (fun A19 l19 c19 σ20 => 
    cl Try.prog (.func (.func 47) #[] #[]) #[(.slice A19 l19 c19), (.int .i64 ((l13 : Nat) : Int))] σ20 (fun v21 σ22 => 
    ∃ A23 : Option Addr, ∃ l23 : Nat, ∃ c23 : Nat, (v21 = (.slice A23 l23 c23) ∧ (Hp.Sub σ20 σ22 ∧ adp 3 [.int .i64] A23 l23 c23 σ22 (fun (xs24 : List Int) σ25 => 
    exl 3 [.int .i64] xs24 σ25 (fun A26 l26 c26 σ27 => bx σ27 (.cells #[(.int .i64 n9), (.int .i64 n10), (.slice A11 l11 c11), (.slice A12 l12 c12), (.slice l_A l_n l_c), (.slice A18 l18 c18), (.slice A26 l26 c26)] 73) (fun b28 σ29 => 
    rt σ29 R (.tuple #[(.pointer (some ⟨b28, 0, none⟩)), (.int .i64 0), (.int .i64 0)]))))))))))))) ∧ (exl 50 [.int .i64, .bool] ([((-1), false)] : List (Int × Bool)) σ7 (fun A30 l30 c30 σ31 => 
    cl Try.prog (.func (.func 95) #[] #[]) #[(.slice A30 l30 c30), (.int .i64 ((l_n : Nat) : Int))] σ31 (fun v32 σ33 => 
    ∃ A34 : Option Addr, ∃ l34 : Nat, ∃ c34 : Nat, (v32 = (.slice A34 l34 c34) ∧ (Hp.Sub σ31 σ33 ∧ exl 3 [.int .i64] ([(-1)] : List Int) σ33 (fun A35 l35 c35 σ36 => 
    cl Try.prog (.func (.func 47) #[] #[]) #[(.slice A35 l35 c35), (.int .i64 ((l13 : Nat) : Int))] σ36 (fun v37 σ38 => 
    ∃ A39 : Option Addr, ∃ l39 : Nat, ∃ c39 : Nat, (v37 = (.slice A39 l39 c39) ∧ (Hp.Sub σ36 σ38 ∧ adp 3 [.int .i64] A39 l39 c39 σ38 (fun (xs40 : List Int) σ41 => 
    exl 3 [.int .i64] xs40 σ41 (fun A42 l42 c42 σ43 => bx σ43 (.cells #[(.int .i64 n9), (.int .i64 n10), (.slice A11 l11 c11), (.slice A12 l12 c12), (.slice l_A l_n l_c), (.slice A34 l34 c34), (.slice A42 l42 c42)] 73) (fun b44 σ45 => 
    rt σ45 R (.tuple #[(.pointer (some ⟨b44, 0, none⟩)), (.int .i64 0), (.int .i64 0)])))))))))))))) ∧ (exl 50 [.int .i64, .bool] ([((-1), false)] : List (Int × Bool)) σ7 (fun A46 l46 c46 σ47 => 
    cl Try.prog (.func (.func 95) #[] #[]) #[(.slice A46 l46 c46), (.int .i64 ((l_n : Nat) : Int))] σ47 (fun v48 σ49 => 
    ∃ A50 : Option Addr, ∃ l50 : Nat, ∃ c50 : Nat, (v48 = (.slice A50 l50 c50) ∧ (Hp.Sub σ47 σ49 ∧ exl 3 [.int .i64] ([(-1)] : List Int) σ49 (fun A51 l51 c51 σ52 => 
    cl Try.prog (.func (.func 47) #[] #[]) #[(.slice A51 l51 c51), (.int .i64 ((l13 : Nat) : Int))] σ52 (fun v53 σ54 => 
    ∃ A55 : Option Addr, ∃ l55 : Nat, ∃ c55 : Nat, (v53 = (.slice A55 l55 c55) ∧ (Hp.Sub σ52 σ54 ∧ adp 3 [.int .i64] A55 l55 c55 σ54 (fun (xs56 : List Int) σ57 => 
    exl 3 [.int .i64] xs56 σ57 (fun A58 l58 c58 σ59 => bx σ59 (.cells #[(.int .i64 n9), (.int .i64 n10), (.slice A11 l11 c11), (.slice A12 l12 c12), (.slice l_A l_n l_c), (.slice A50 l50 c50), (.slice A58 l58 c58)] 73) (fun b60 σ61 => 
    rt σ61 R (.tuple #[(.pointer (some ⟨b60, 0, none⟩)), (.int .i64 0), (.int .i64 0)])))))))))))))))))))))))))))
def M_ground_empty_an : MAn := (.seq (.txt []) (.seq (.seq (.txt []) (.cond (.seq (.txt []) .leaf) .leaf)) (.seq (.seq (.txt []) (.cond (.seq (.txt []) .leaf) .leaf)) (.seq (.seq (.txt []) (.seq (.txt []) (.cond (.seq (.txt []) .leaf) .leaf))) (.seq (.plan [] (.take 0 ⟨[], false, []⟩ (.take 1 ⟨[], false, []⟩ (.take 2 ⟨[], false, []⟩ (.take 4 ⟨[], false, []⟩ (.take 5 ⟨[], false, []⟩ (.take 8 ⟨[], false, []⟩ (.take 9 ⟨[], false, []⟩ (.take 10 ⟨[], false, []⟩ (.alt 3 true ⟨[], false, []⟩ (.alt 6 true ⟨[], false, []⟩ (.alt 7 true ⟨[], false, []⟩ (.alt 11 true ⟨[], false, [.adl 31 3 [.int .i64]]⟩ (.take 12 ⟨[], false, []⟩ (.alt 13 true ⟨[], false, []⟩ (.take 14 ⟨[], false, []⟩ (.take 15 ⟨[], false, []⟩ (.take 16 ⟨[], false, []⟩ .done))) .done)) .done) .done) (.alt 7 true ⟨[], false, []⟩ (.alt 6 true ⟨[], false, []⟩ (.alt 11 true ⟨[], false, [.adl 31 3 [.int .i64]]⟩ (.take 12 ⟨[], false, []⟩ (.alt 13 true ⟨[], false, []⟩ (.take 14 ⟨[], false, []⟩ (.take 15 ⟨[], false, []⟩ (.take 16 ⟨[], false, []⟩ .done))) .done)) .done) .done) .done)) (.alt 7 true ⟨[], false, []⟩ (.alt 3 true ⟨[], false, []⟩ (.alt 6 true ⟨[], false, []⟩ (.alt 11 true ⟨[], false, [.adl 31 3 [.int .i64]]⟩ (.take 12 ⟨[], false, []⟩ (.alt 13 true ⟨[], false, []⟩ (.take 14 ⟨[], false, []⟩ (.take 15 ⟨[], false, []⟩ (.take 16 ⟨[], false, []⟩ .done))) .done)) .done) .done) .done) .done))))))))))) .leaf)))))
set_option maxRecDepth 100000 in
theorem M_ground_empty_ok (σ : Hp) (g_Wide : Int) (g_High : Int) (g_Cells_A : Option Addr) (g_Cells_n : Nat) (g_Cells_c : Nat) (g_Heights_A : Option Addr) (g_Heights_n : Nat) (g_Heights_c : Nat) (l_A : Option Addr) (l_n : Nat) (l_c : Nat) (R : Value → Hp → Prop) (h : M_ground_empty σ g_Wide g_High g_Cells_A g_Cells_n g_Cells_c g_Heights_A g_Heights_n g_Heights_c l_A l_n l_c R) : FCalls Try.prog 62 #[(.agg #[(.int .i64 g_Wide), (.int .i64 g_High), (.slice g_Cells_A g_Cells_n g_Cells_c), (.slice g_Heights_A g_Heights_n g_Heights_c)]), (.slice l_A l_n l_c)] σ R :=
  fcalls_of_M mixed_M3 M_ground_empty_an Try.func62 rfl (by kernel_rfl) (by kernel_rfl) (M := M_ground_empty σ g_Wide g_High g_Cells_A g_Cells_n g_Cells_c g_Heights_A g_Heights_n g_Heights_c l_A l_n l_c R) (by kernel_rfl) h
theorem M_ground_empty_enter : enterB Try.prog 62 = true := by kernel_rfl

abbrev N_slices_SortStableFunc_int : FuncId := 63
/-- slices.SortStableFunc[[]int,int] -/
def M_slices_SortStableFunc_int (σ : Hp) (x_A : Option Addr) (x_n : Nat) (x_c : Nat) (cmp : Value) (R : Value → Hp → Prop) : Prop :=
  cl Try.prog (.func (.func 96) #[] #[]) #[(.slice x_A x_n x_c), (.int .i64 ((x_n : Nat) : Int)), cmp] σ (fun _ σ2 => 
    rt σ2 R (.tuple #[]))
def M_slices_SortStableFunc_int_an : MAn := (.txt [])
set_option maxRecDepth 100000 in
theorem M_slices_SortStableFunc_int_ok (σ : Hp) (x_A : Option Addr) (x_n : Nat) (x_c : Nat) (cmp : Value) (R : Value → Hp → Prop) (h : M_slices_SortStableFunc_int σ x_A x_n x_c cmp R) : FCalls Try.prog 63 #[(.slice x_A x_n x_c), cmp] σ R :=
  fcalls_of_M mixed_M3 M_slices_SortStableFunc_int_an Try.func63 rfl (by kernel_rfl) (by kernel_rfl) (M := M_slices_SortStableFunc_int σ x_A x_n x_c cmp R) (by kernel_rfl) h
theorem M_slices_SortStableFunc_int_enter : enterB Try.prog 63 = true := by kernel_rfl

abbrev N_ground_Award_1 : FuncId := 64
/-- waltzer/ground.Award$1 -/
def M_ground_Award_1 (σ : Hp) (a : Int) (b : Int) (cap0 : Option Addr) (R : Value → Hp → Prop) : Prop :=
  dr cap0 (fun b1 o2 => ldS σ b1 o2 (fun A3 l3 _ => ix A3 l3 b 5 (fun b4 a5 => ldI σ .i64 b4 (a5 + 3) (fun n6 => 
    dr cap0 (fun b7 o8 => ldS σ b7 o8 (fun A9 l9 _ => ix A9 l9 a 5 (fun b10 a11 => ldI σ .i64 b10 (a11 + 3) (fun n12 => 
    wk .i64 (n6 - n12) (fun n13 => rt σ R (.int .i64 n13))))))))))
def M_ground_Award_1_an : MAn := (.seq (.txt []) (.seq (.plan [] (.take 0 ⟨[], false, []⟩ (.take 1 ⟨[], false, []⟩ (.take 2 ⟨[], false, []⟩ (.take 3 ⟨[], false, []⟩ (.take 4 ⟨[], false, []⟩ (.take 5 ⟨[], false, []⟩ (.take 6 ⟨[], false, []⟩ (.take 7 ⟨[], false, []⟩ (.take 8 ⟨[], false, []⟩ (.take 9 ⟨[], false, []⟩ (.take 10 ⟨[], false, []⟩ (.take 11 ⟨[], false, []⟩ .done))))))))))))) .leaf))
set_option maxRecDepth 100000 in
theorem M_ground_Award_1_ok (σ : Hp) (a : Int) (b : Int) (cap0 : Option Addr) (R : Value → Hp → Prop) (h : M_ground_Award_1 σ a b cap0 R) : FCalls Try.prog 64 #[(.int .i64 a), (.int .i64 b), (.pointer cap0)] σ R :=
  fcalls_of_M mixed_M3 M_ground_Award_1_an Try.func64 rfl (by kernel_rfl) (by kernel_rfl) (M := M_ground_Award_1 σ a b cap0 R) (by kernel_rfl) h
theorem M_ground_Award_1_enter : enterB Try.prog 64 = true := by kernel_rfl

abbrev N_ground_field_put : FuncId := 65
/-- (*waltzer/ground.field).put -/
def M_ground_field_put (σ : Hp) (f : Option Addr) (pitch : Int) (s_Cell : Int) (s_Turned : Bool) (R : Value → Hp → Prop) : Prop :=
  dr f (fun b1 o2 => ldS σ b1 (o2 + 5) (fun A3 l3 _ => ix A3 l3 pitch 2 (fun b4 a5 => st σ b4 a5 (.int .i64 s_Cell) (fun σ6 => 
    st σ6 b4 (a5 + 1) (.bool s_Turned) (fun σ7 => cl Try.prog (.func (.func 74) #[] #[]) #[(.pointer f), (.int .i64 pitch), (.agg #[(.int .i64 s_Cell), (.bool s_Turned)])] σ7 (fun v8 σ9 => 
    ∃ A10 : Option Addr, ∃ l10 : Nat, ∃ c10 : Nat, ∃ t11 : Bool, (v8 = (.tuple #[(.slice A10 l10 c10), (.bool t11)]) ∧ 
    ∃ I15 : Nat → Int → Hp → Prop, (∃ n160, I15 n160 0 σ9) ∧ ∀ n16 : Nat, ∀ n17 : Int, ∀ σ14 : Hp, I15 n16 n17 σ14 → ∀ _ : Nat → Value, bc (decide (n17 < ((l10 : Nat) : Int))) (ix A10 l10 n17 1 (fun b18 a19 => 
    ldI σ14 .i64 b18 a19 (fun n20 => dr f (fun b21 o22 => ldS σ14 b21 (o22 + 6) (fun A23 l23 _ => ix A23 l23 n20 1 (fun b24 a25 => 
    st σ14 b24 a25 (.int .i64 pitch) (fun σ26 => wk .i64 (n17 + 1) (fun n27 => bk σ26 n16 (fun m28 σ29 => 
    I15 m28 n27 σ29))))))))) (rt σ14 R (.tuple #[])))))))))
def M_ground_field_put_an : MAn := (.seq (.txt []) (.seq (.plan [7] (.take 0 ⟨[], false, []⟩ (.take 1 ⟨[], false, []⟩ (.take 2 ⟨[], false, []⟩ (.take 3 ⟨[], false, []⟩ (.take 4 ⟨[], false, []⟩ (.take 5 ⟨[], false, []⟩ (.take 6 ⟨[], false, []⟩ (.alt 7 false ⟨[], false, []⟩ .done .done))))))))) (.seq (.txt []) (.seq (.txt []) (.block (.loop ⟨[true], 1, [.slot 26 (.sc (.int .i64))], [(0, true), (1, true), (24, true), (25, true)]⟩ (.seq (.txt []) (.seq (.cond .leaf .leaf) (.seq (.block (.seq (.txt []) (.txt []))) (.txt []))))))))))
set_option maxRecDepth 100000 in
theorem M_ground_field_put_ok (σ : Hp) (f : Option Addr) (pitch : Int) (s_Cell : Int) (s_Turned : Bool) (R : Value → Hp → Prop) (h : M_ground_field_put σ f pitch s_Cell s_Turned R) : FCalls Try.prog 65 #[(.pointer f), (.int .i64 pitch), (.agg #[(.int .i64 s_Cell), (.bool s_Turned)])] σ R :=
  fcalls_of_M mixed_M3 M_ground_field_put_an Try.func65 rfl (by kernel_rfl) (by kernel_rfl) (M := M_ground_field_put σ f pitch s_Cell s_Turned R) (by kernel_rfl) h
theorem M_ground_field_put_enter : enterB Try.prog 65 = true := by kernel_rfl

abbrev N_ground_field_lay : FuncId := 66
/-- (*waltzer/ground.field).lay -/
def M_ground_field_lay (σ : Hp) (f : Option Addr) (pitch : Int) (R : Value → Hp → Prop) : Prop :=
  dr f (fun b1 o2 => ldS σ b1 (o2 + 4) (fun _ l3 _ => bc (decide (pitch = ((l3 : Nat) : Int))) (rt σ R (.bool true)) (cut (α := Option Addr → Hp → Prop) (fun p7 σ5 => 
    ∀ _ : Nat → Value, dr p7 (fun b8 o9 => st σ5 b8 o9 (.bool false) (fun σ10 => dr p7 (fun b11 o12 => ldB σ10 b11 o12 (fun t13 => 
    rt σ10 R (.bool t13)))))) (fun J6 => cl Try.prog (.func (.func 60) #[] #[]) #[(.pointer f), (.int .i64 pitch)] σ (fun v14 σ15 => 
    ∃ v16 : Value, (v14 = v16 ∧ bx σ15 (.cells #[(.pointer f)] 67) (fun b17 σ18 => bx σ18 (.cells #[(.int .i64 pitch)] 3) (fun b19 σ20 => 
    bx σ20 (.cells #[(.bool false)] 4) (fun b21 σ22 => rngM Try.prog v16 σ22 (fun l23 Rec24 ag25 σ26 R27 => 
    ∃ n31 : Int, ∃ t32 : Bool, (ag25 = #[(.agg #[(.int .i64 n31), (.bool t32)])] ∧ ∀ _ : Nat → Value, rgb l23 Rec24 σ26 (fun σ33 => 
    ldP σ33 b17 0 (fun p34 => ldI σ33 .i64 b19 0 (fun n35 => cl Try.prog (.func (.func 65) #[] #[]) #[(.pointer p34), (.int .i64 n35), (.agg #[(.int .i64 n31), (.bool t32)])] σ33 (fun _ σ37 => 
    ldP σ37 b17 0 (fun p38 => ldI σ37 .i64 b19 0 (fun n39 => wk .i64 (n39 + 1) (fun n40 => cl Try.prog (.func (.func 66) #[] #[]) #[(.pointer p38), (.int .i64 n40)] σ37 (fun v41 σ42 => 
    ∃ t43 : Bool, (v41 = (.bool t43) ∧ bc t43 (st σ42 b21 0 (.bool true) (fun σ44 => rgx l23 Rec24 R27 σ44 .ret)) (ldP σ42 b17 0 (fun p45 => 
    ldI σ42 .i64 b19 0 (fun n46 => cl Try.prog (.func (.func 59) #[] #[]) #[(.pointer p45), (.int .i64 n46)] σ42 (fun _ σ48 => 
    rgo l23 Rec24 R27 σ48))))))))))))))) (fun p28 σ29 => aft p28 (J6 (some ⟨b21, 0, none⟩) σ29) (ldB σ29 b21 0 (fun t49 => 
    rt σ29 R (.bool t49))) (fun i => exb i 0 (J6 (some ⟨b21, 0, none⟩) σ29) (False))))))))))))
def M_ground_field_lay_an : MAn := (.seq (.txt []) (.seq (.seq (.plan [] (.take 0 ⟨[], false, []⟩ (.take 1 ⟨[], false, []⟩ (.take 2 ⟨[], false, []⟩ (.take 3 ⟨[], false, []⟩ (.take 4 ⟨[], false, []⟩ (.take 5 ⟨[], false, []⟩ (.take 6 ⟨[], false, []⟩ .done)))))))) (.cond (.seq (.txt []) .leaf) .leaf)) (.cut ⟨[false, false, false], 3, [.slot 4 (.sc (.ptr))], []⟩ (.seq (.txt []) (.block (.rng [.exp 2, .exp 3, .exp 4] [(2, true), (3, true), (4, true)] [50] (.txt []) (.block (.seq (.txt []) (.seq (.seq (.txt []) (.cond (.seq (.txt []) .leaf) .leaf)) (.txt []))))))) (.seq (.txt []) .leaf))))
set_option maxRecDepth 100000 in
theorem M_ground_field_lay_ok (σ : Hp) (f : Option Addr) (pitch : Int) (R : Value → Hp → Prop) (h : M_ground_field_lay σ f pitch R) : FCalls Try.prog 66 #[(.pointer f), (.int .i64 pitch)] σ R :=
  fcalls_of_M mixed_M3 M_ground_field_lay_an Try.func66 rfl (by kernel_rfl) (by kernel_rfl) (M := M_ground_field_lay σ f pitch R) (by kernel_rfl) h
theorem M_ground_field_lay_enter : enterB Try.prog 66 = true := by kernel_rfl

abbrev N_ref04_lay : FuncId := 67
/-- waltzer/waltzerref04.lay -/
def M_ref04_lay (σ : Hp) (g_Wide : Int) (g_High : Int) (g_Cells_A : Option Addr) (g_Cells_n : Nat) (g_Cells_c : Nat) (g_Heights_A : Option Addr) (g_Heights_n : Nat) (g_Heights_c : Nat) (l_A : Option Addr) (l_n : Nat) (l_c : Nat) (begun_A : Option Addr) (begun_n : Nat) (begun_c : Nat) (R : Value → Hp → Prop) : Prop :=
  bc (decide (((begun_n : Nat) : Int) = ((l_n : Nat) : Int))) (rt σ R (.tuple #[(.slice begun_A begun_n begun_c), (.bool true)])) (ix l_A l_n ((begun_n : Nat) : Int) 5 (fun b1 a2 => 
    ldI σ .i64 b1 a2 (fun n3 => ldI σ .i64 b1 (a2 + 1) (fun n4 => ldI σ .i64 b1 (a2 + 2) (fun n5 => ldI σ .i64 b1 (a2 + 3) (fun n6 => 
    ldI σ .i64 b1 (a2 + 4) (fun n7 => cl Try.prog (.func (.func 56) #[] #[]) #[(.agg #[(.int .i64 g_Wide), (.int .i64 g_High), (.slice g_Cells_A g_Cells_n g_Cells_c), (.slice g_Heights_A g_Heights_n g_Heights_c)]), (.slice l_A l_n l_c), (.slice begun_A begun_n begun_c), (.int .i64 (-1))] σ (fun v8 σ9 => 
    ∃ A10 : Option Addr, ∃ l10 : Nat, ∃ c10 : Nat, (v8 = (.slice A10 l10 c10) ∧ (Hp.Sub σ σ9 ∧ adp 4 [.bool] A10 l10 c10 σ9 (fun (xs11 : List Bool) σ12 => 
    exl 4 [.bool] xs11 σ12 (fun A13 l13 c13 σ14 => cl Try.prog (.func (.func 61) #[] #[]) #[(.agg #[(.int .i64 g_Wide), (.int .i64 g_High), (.slice g_Cells_A g_Cells_n g_Cells_c), (.slice g_Heights_A g_Heights_n g_Heights_c)]), (.agg #[(.int .i64 n3), (.int .i64 n4), (.int .i64 n5), (.int .i64 n6), (.int .i64 n7)]), (.slice A13 l13 c13)] σ14 (fun v15 σ16 => 
    ∃ A17 : Option Addr, ∃ l17 : Nat, ∃ c17 : Nat, (v15 = (.slice A17 l17 c17) ∧ cut (α := Hp → Prop) (fun  σ19 => 
    ∀ _ : Nat → Value, rt σ19 R (.tuple #[(.slice none 0 0), (.bool false)])) (fun J20 => ∃ I23 : Nat → Int → Hp → Prop, (∃ n240, I23 n240 0 σ16) ∧ 
    ∀ n24 : Nat, ∀ n25 : Int, ∀ σ22 : Hp, I23 n24 n25 σ22 → ∀ _ : Nat → Value, bc (decide (n25 < ((l17 : Nat) : Int))) (cut (α := Option Addr → Nat → Nat → Bool → Hp → Prop) (fun A29 l29 c29 t30 σ27 => 
    ∀ _ : Nat → Value, bc t30 (rt σ27 R (.tuple #[(.slice A29 l29 c29), (.bool true)])) (wk .i64 (n25 + 1) (fun n31 => 
    bk σ27 n24 (fun m32 σ33 => I23 m32 n31 σ33)))) (fun J28 => ix A17 l17 n25 2 (fun b34 a35 => (((adp 50 [.int .i64, .bool] none 0 0 σ22 (fun (xs36 : List (Int × Bool)) σ37 => 
    ∃ ys38 : List (Int × Bool), RdS [.int .i64, .bool] σ37 begun_A begun_n ys38 ∧ roomy (List.length xs36 + List.length ys38) (ldI σ37 .i64 b34 a35 (fun n39 => 
    ldB σ37 b34 (a35 + 1) (fun t40 => roomy (List.length (xs36 ++ ys38) + List.length ([(n39, t40)] : List (Int × Bool))) (exl 50 [.int .i64, .bool] ((xs36 ++ ys38) ++ ([(n39, t40)] : List (Int × Bool))) σ37 (fun A41 l41 c41 σ42 => 
    cl Try.prog (.func (.func 67) #[] #[]) #[(.agg #[(.int .i64 g_Wide), (.int .i64 g_High), (.slice g_Cells_A g_Cells_n g_Cells_c), (.slice g_Heights_A g_Heights_n g_Heights_c)]), (.slice l_A l_n l_c), (.slice A41 l41 c41)] σ42 (fun v43 σ44 => 
    ∃ A45 : Option Addr, ∃ l45 : Nat, ∃ c45 : Nat, ∃ t46 : Bool, (v43 = (.tuple #[(.slice A45 l45 c45), (.bool t46)]) ∧ 
    J28 A45 l45 c45 t46 σ44))))))))) ∧ (ldI σ22 .i64 b34 a35 (fun n47 => ldB σ22 b34 (a35 + 1) (fun t48 => 
    ((adp 50 [.int .i64, .bool] none 0 0 σ22 (fun (xs49 : List (Int × Bool)) σ50 => ∃ ys51 : List (Int × Bool), RdS [.int .i64, .bool] σ50 begun_A begun_n ys51 ∧ 
    roomy (List.length xs49 + List.length ys51) (roomy (List.length (xs49 ++ ys51) + List.length ([(n47, t48)] : List (Int × Bool))) (exl 50 [.int .i64, .bool] ((xs49 ++ ys51) ++ ([(n47, t48)] : List (Int × Bool))) σ50 (fun A52 l52 c52 σ53 => 
    cl Try.prog (.func (.func 67) #[] #[]) #[(.agg #[(.int .i64 g_Wide), (.int .i64 g_High), (.slice g_Cells_A g_Cells_n g_Cells_c), (.slice g_Heights_A g_Heights_n g_Heights_c)]), (.slice l_A l_n l_c), (.slice A52 l52 c52)] σ53 (fun v54 σ55 => 
    ∃ A56 : Option Addr, ∃ l56 : Nat, ∃ c56 : Nat, ∃ t57 : Bool, (v54 = (.tuple #[(.slice A56 l56 c56), (.bool t57)]) ∧ 
    J28 A56 l56 c56 t57 σ55))))))) ∧ (adp 50 [.int .i64, .bool] none 0 0 σ22 (fun (xs58 : List (Int × Bool)) σ59 => 
    ∃ ys60 : List (Int × Bool), RdS [.int .i64, .bool] σ59 begun_A begun_n ys60 ∧ roomy (List.length xs58 + List.length ys60) (roomy (List.length (xs58 ++ ys60) + List.length ([(n47, t48)] : List (Int × Bool))) (exl 50 [.int .i64, .bool] ((xs58 ++ ys60) ++ ([(n47, t48)] : List (Int × Bool))) σ59 (fun A61 l61 c61 σ62 => 
    cl Try.prog (.func (.func 67) #[] #[]) #[(.agg #[(.int .i64 g_Wide), (.int .i64 g_High), (.slice g_Cells_A g_Cells_n g_Cells_c), (.slice g_Heights_A g_Heights_n g_Heights_c)]), (.slice l_A l_n l_c), (.slice A61 l61 c61)] σ62 (fun v63 σ64 => 
    ∃ A65 : Option Addr, ∃ l65 : Nat, ∃ c65 : Nat, ∃ t66 : Bool, (v63 = (.tuple #[(.slice A65 l65 c65), (.bool t66)]) ∧ 
    J28 A65 l65 c65 t66 σ64)))))))))))) ∧ (adp 50 [.int .i64, .bool] none 0 0 σ22 (fun (xs67 : List (Int × Bool)) σ68 => 
    ∃ ys69 : List (Int × Bool), RdS [.int .i64, .bool] σ68 begun_A begun_n ys69 ∧ roomy (List.length xs67 + List.length ys69) (ldI σ68 .i64 b34 a35 (fun n70 => 
    ldB σ68 b34 (a35 + 1) (fun t71 => ((roomy (List.length (xs67 ++ ys69) + List.length ([(n70, t71)] : List (Int × Bool))) (exl 50 [.int .i64, .bool] ((xs67 ++ ys69) ++ ([(n70, t71)] : List (Int × Bool))) σ68 (fun A72 l72 c72 σ73 => 
    cl Try.prog (.func (.func 67) #[] #[]) #[(.agg #[(.int .i64 g_Wide), (.int .i64 g_High), (.slice g_Cells_A g_Cells_n g_Cells_c), (.slice g_Heights_A g_Heights_n g_Heights_c)]), (.slice l_A l_n l_c), (.slice A72 l72 c72)] σ73 (fun v74 σ75 => 
    ∃ A76 : Option Addr, ∃ l76 : Nat, ∃ c76 : Nat, ∃ t77 : Bool, (v74 = (.tuple #[(.slice A76 l76 c76), (.bool t77)]) ∧ 
    J28 A76 l76 c76 t77 σ75))))) ∧ ((roomy (List.length (xs67 ++ ys69) + List.length ([(n70, t71)] : List (Int × Bool))) (exl 50 [.int .i64, .bool] ((xs67 ++ ys69) ++ ([(n70, t71)] : List (Int × Bool))) σ68 (fun A78 l78 c78 σ79 => 
    cl Try.prog (.func (.func 67) #[] #[]) #[(.agg #[(.int .i64 g_Wide), (.int .i64 g_High), (.slice g_Cells_A g_Cells_n g_Cells_c), (.slice g_Heights_A g_Heights_n g_Heights_c)]), (.slice l_A l_n l_c), (.slice A78 l78 c78)] σ79 (fun v80 σ81 => 
    ∃ A82 : Option Addr, ∃ l82 : Nat, ∃ c82 : Nat, ∃ t83 : Bool, (v80 = (.tuple #[(.slice A82 l82 c82), (.bool t83)]) ∧ 
    J28 A82 l82 c82 t83 σ81))))) ∧ (roomy (List.length (xs67 ++ ys69) + List.length ([(n70, t71)] : List (Int × Bool))) (exl 50 [.int .i64, .bool] ((xs67 ++ ys69) ++ ([(n70, t71)] : List (Int × Bool))) σ68 (fun A84 l84 c84 σ85 => 
    cl Try.prog (.func (.func 67) #[] #[]) #[(.agg #[(.int .i64 g_Wide), (.int .i64 g_High), (.slice g_Cells_A g_Cells_n g_Cells_c), (.slice g_Heights_A g_Heights_n g_Heights_c)]), (.slice l_A l_n l_c), (.slice A84 l84 c84)] σ85 (fun v86 σ87 => 
    ∃ A88 : Option Addr, ∃ l88 : Nat, ∃ c88 : Nat, ∃ t89 : Bool, (v86 = (.tuple #[(.slice A88 l88 c88), (.bool t89)]) ∧ 
    J28 A88 l88 c88 t89 σ87)))))))))))) ∧ (ldI σ22 .i64 b34 a35 (fun n90 => ldB σ22 b34 (a35 + 1) (fun t91 => 
    (((adp 50 [.int .i64, .bool] none 0 0 σ22 (fun (xs92 : List (Int × Bool)) σ93 => ∃ ys94 : List (Int × Bool), RdS [.int .i64, .bool] σ93 begun_A begun_n ys94 ∧ 
    roomy (List.length xs92 + List.length ys94) (roomy (List.length (xs92 ++ ys94) + List.length ([(n90, t91)] : List (Int × Bool))) (exl 50 [.int .i64, .bool] ((xs92 ++ ys94) ++ ([(n90, t91)] : List (Int × Bool))) σ93 (fun A95 l95 c95 σ96 => 
    cl Try.prog (.func (.func 67) #[] #[]) #[(.agg #[(.int .i64 g_Wide), (.int .i64 g_High), (.slice g_Cells_A g_Cells_n g_Cells_c), (.slice g_Heights_A g_Heights_n g_Heights_c)]), (.slice l_A l_n l_c), (.slice A95 l95 c95)] σ96 (fun v97 σ98 => 
    ∃ A99 : Option Addr, ∃ l99 : Nat, ∃ c99 : Nat, ∃ t100 : Bool, (v97 = (.tuple #[(.slice A99 l99 c99), (.bool t100)]) ∧ 
    J28 A99 l99 c99 t100 σ98))))))) ∧ (adp 50 [.int .i64, .bool] none 0 0 σ22 (fun (xs101 : List (Int × Bool)) σ102 => 
    ∃ ys103 : List (Int × Bool), RdS [.int .i64, .bool] σ102 begun_A begun_n ys103 ∧ roomy (List.length xs101 + List.length ys103) (roomy (List.length (xs101 ++ ys103) + List.length ([(n90, t91)] : List (Int × Bool))) (exl 50 [.int .i64, .bool] ((xs101 ++ ys103) ++ ([(n90, t91)] : List (Int × Bool))) σ102 (fun A104 l104 c104 σ105 => 
    cl Try.prog (.func (.func 67) #[] #[]) #[(.agg #[(.int .i64 g_Wide), (.int .i64 g_High), (.slice g_Cells_A g_Cells_n g_Cells_c), (.slice g_Heights_A g_Heights_n g_Heights_c)]), (.slice l_A l_n l_c), (.slice A104 l104 c104)] σ105 (fun v106 σ107 => 
    ∃ A108 : Option Addr, ∃ l108 : Nat, ∃ c108 : Nat, ∃ t109 : Bool, (v106 = (.tuple #[(.slice A108 l108 c108), (.bool t109)]) ∧ 
    J28 A108 l108 c108 t109 σ107)))))))) ∧ (adp 50 [.int .i64, .bool] none 0 0 σ22 (fun (xs110 : List (Int × Bool)) σ111 => 
    ∃ ys112 : List (Int × Bool), RdS [.int .i64, .bool] σ111 begun_A begun_n ys112 ∧ roomy (List.length xs110 + List.length ys112) (((roomy (List.length (xs110 ++ ys112) + List.length ([(n90, t91)] : List (Int × Bool))) (exl 50 [.int .i64, .bool] ((xs110 ++ ys112) ++ ([(n90, t91)] : List (Int × Bool))) σ111 (fun A113 l113 c113 σ114 => 
    cl Try.prog (.func (.func 67) #[] #[]) #[(.agg #[(.int .i64 g_Wide), (.int .i64 g_High), (.slice g_Cells_A g_Cells_n g_Cells_c), (.slice g_Heights_A g_Heights_n g_Heights_c)]), (.slice l_A l_n l_c), (.slice A113 l113 c113)] σ114 (fun v115 σ116 => 
    ∃ A117 : Option Addr, ∃ l117 : Nat, ∃ c117 : Nat, ∃ t118 : Bool, (v115 = (.tuple #[(.slice A117 l117 c117), (.bool t118)]) ∧ 
    J28 A117 l117 c117 t118 σ116))))) ∧ ((roomy (List.length (xs110 ++ ys112) + List.length ([(n90, t91)] : List (Int × Bool))) (exl 50 [.int .i64, .bool] ((xs110 ++ ys112) ++ ([(n90, t91)] : List (Int × Bool))) σ111 (fun A119 l119 c119 σ120 => 
    cl Try.prog (.func (.func 67) #[] #[]) #[(.agg #[(.int .i64 g_Wide), (.int .i64 g_High), (.slice g_Cells_A g_Cells_n g_Cells_c), (.slice g_Heights_A g_Heights_n g_Heights_c)]), (.slice l_A l_n l_c), (.slice A119 l119 c119)] σ120 (fun v121 σ122 => 
    ∃ A123 : Option Addr, ∃ l123 : Nat, ∃ c123 : Nat, ∃ t124 : Bool, (v121 = (.tuple #[(.slice A123 l123 c123), (.bool t124)]) ∧ 
    J28 A123 l123 c123 t124 σ122))))) ∧ (roomy (List.length (xs110 ++ ys112) + List.length ([(n90, t91)] : List (Int × Bool))) (exl 50 [.int .i64, .bool] ((xs110 ++ ys112) ++ ([(n90, t91)] : List (Int × Bool))) σ111 (fun A125 l125 c125 σ126 => 
    cl Try.prog (.func (.func 67) #[] #[]) #[(.agg #[(.int .i64 g_Wide), (.int .i64 g_High), (.slice g_Cells_A g_Cells_n g_Cells_c), (.slice g_Heights_A g_Heights_n g_Heights_c)]), (.slice l_A l_n l_c), (.slice A125 l125 c125)] σ126 (fun v127 σ128 => 
    ∃ A129 : Option Addr, ∃ l129 : Nat, ∃ c129 : Nat, ∃ t130 : Bool, (v127 = (.tuple #[(.slice A129 l129 c129), (.bool t130)]) ∧ 
    J28 A129 l129 c129 t130 σ128)))))))))) ∧ ((adp 50 [.int .i64, .bool] none 0 0 σ22 (fun (xs131 : List (Int × Bool)) σ132 => 
    ∃ ys133 : List (Int × Bool), RdS [.int .i64, .bool] σ132 begun_A begun_n ys133 ∧ roomy (List.length xs131 + List.length ys133) (roomy (List.length (xs131 ++ ys133) + List.length ([(n90, t91)] : List (Int × Bool))) (exl 50 [.int .i64, .bool] ((xs131 ++ ys133) ++ ([(n90, t91)] : List (Int × Bool))) σ132 (fun A134 l134 c134 σ135 => 
    cl Try.prog (.func (.func 67) #[] #[]) #[(.agg #[(.int .i64 g_Wide), (.int .i64 g_High), (.slice g_Cells_A g_Cells_n g_Cells_c), (.slice g_Heights_A g_Heights_n g_Heights_c)]), (.slice l_A l_n l_c), (.slice A134 l134 c134)] σ135 (fun v136 σ137 => 
    ∃ A138 : Option Addr, ∃ l138 : Nat, ∃ c138 : Nat, ∃ t139 : Bool, (v136 = (.tuple #[(.slice A138 l138 c138), (.bool t139)]) ∧ 
    J28 A138 l138 c138 t139 σ137))))))) ∧ (adp 50 [.int .i64, .bool] none 0 0 σ22 (fun (xs140 : List (Int × Bool)) σ141 => 
    ∃ ys142 : List (Int × Bool), RdS [.int .i64, .bool] σ141 begun_A begun_n ys142 ∧ roomy (List.length xs140 + List.length ys142) (((roomy (List.length (xs140 ++ ys142) + List.length ([(n90, t91)] : List (Int × Bool))) (exl 50 [.int .i64, .bool] ((xs140 ++ ys142) ++ ([(n90, t91)] : List (Int × Bool))) σ141 (fun A143 l143 c143 σ144 => 
    cl Try.prog (.func (.func 67) #[] #[]) #[(.agg #[(.int .i64 g_Wide), (.int .i64 g_High), (.slice g_Cells_A g_Cells_n g_Cells_c), (.slice g_Heights_A g_Heights_n g_Heights_c)]), (.slice l_A l_n l_c), (.slice A143 l143 c143)] σ144 (fun v145 σ146 => 
    ∃ A147 : Option Addr, ∃ l147 : Nat, ∃ c147 : Nat, ∃ t148 : Bool, (v145 = (.tuple #[(.slice A147 l147 c147), (.bool t148)]) ∧ 
    J28 A147 l147 c147 t148 σ146))))) ∧ (roomy (List.length (xs140 ++ ys142) + List.length ([(n90, t91)] : List (Int × Bool))) (exl 50 [.int .i64, .bool] ((xs140 ++ ys142) ++ ([(n90, t91)] : List (Int × Bool))) σ141 (fun A149 l149 c149 σ150 => 
    cl Try.prog (.func (.func 67) #[] #[]) #[(.agg #[(.int .i64 g_Wide), (.int .i64 g_High), (.slice g_Cells_A g_Cells_n g_Cells_c), (.slice g_Heights_A g_Heights_n g_Heights_c)]), (.slice l_A l_n l_c), (.slice A149 l149 c149)] σ150 (fun v151 σ152 => 
    ∃ A153 : Option Addr, ∃ l153 : Nat, ∃ c153 : Nat, ∃ t154 : Bool, (v151 = (.tuple #[(.slice A153 l153 c153), (.bool t154)]) ∧ 
    J28 A153 l153 c153 t154 σ152)))))))))))))))))) (J20 σ22))))))))))))))))
def M_ref04_lay_an : MAn := (.seq (.txt []) (.seq (.seq (.txt []) (.cond (.seq (.txt []) .leaf) .leaf)) (.seq (.plan [10] (.take 0 ⟨[], false, []⟩ (.take 1 ⟨[], false, []⟩ (.take 2 ⟨[], false, []⟩ (.take 3 ⟨[], false, []⟩ (.take 4 ⟨[], false, []⟩ (.take 5 ⟨[], false, []⟩ (.take 6 ⟨[], false, []⟩ (.take 7 ⟨[], false, []⟩ (.take 8 ⟨[], false, []⟩ (.alt 9 true ⟨[], false, [.adl 27 4 [.bool]]⟩ (.alt 10 false ⟨[], false, []⟩ (.take 11 ⟨[], false, []⟩ .done) .done) .done))))))))))) (.cut ⟨[true, false], 2, [], []⟩ (.seq (.txt []) (.block (.loop ⟨[true, false], 2, [.slot 3 (.hb 0 0), .slot 9 (.sc (.int .i64))], [(1, true), (2, true), (8, true)]⟩ (.seq (.seq (.txt []) (.cond .leaf .leaf)) (.seq (.block (.cut ⟨[true, false], 2, [.slot 3 (.hb 0 0), .slot 10 (.sc (.slc)), .slot 11 (.sc (.bool))], [(1, true), (2, true), (8, true), (9, true)]⟩ (.plan [3, 9, 10] (.take 1 ⟨[], false, []⟩ (.take 2 ⟨[], false, []⟩ (.take 4 ⟨[], false, []⟩ (.take 5 ⟨[], false, []⟩ (.take 6 ⟨[], false, []⟩ (.alt 0 true ⟨[], false, []⟩ (.alt 3 false ⟨[], false, []⟩ (.take 7 ⟨[], false, []⟩ (.alt 8 true ⟨[], false, []⟩ (.alt 9 false ⟨[], false, []⟩ (.alt 10 false ⟨[], false, []⟩ (.take 11 ⟨[], false, []⟩ (.take 12 ⟨[], false, []⟩ (.take 13 ⟨[], false, []⟩ (.take 14 ⟨[], false, []⟩ (.take 15 ⟨[], false, []⟩ .done))))) .done) .done) .done)) (.alt 7 true ⟨[], false, []⟩ (.alt 3 false ⟨[], false, []⟩ (.alt 8 true ⟨[], false, []⟩ (.alt 9 false ⟨[], false, []⟩ (.alt 10 false ⟨[], false, []⟩ (.take 11 ⟨[], false, []⟩ (.take 12 ⟨[], false, []⟩ (.take 13 ⟨[], false, []⟩ (.take 14 ⟨[], false, []⟩ (.take 15 ⟨[], false, []⟩ .done))))) .done) .done) .done) (.alt 8 true ⟨[], false, []⟩ (.alt 3 false ⟨[], false, []⟩ (.alt 9 false ⟨[], false, []⟩ (.alt 10 false ⟨[], false, []⟩ (.take 11 ⟨[], false, []⟩ (.take 12 ⟨[], false, []⟩ (.take 13 ⟨[], false, []⟩ (.take 14 ⟨[], false, []⟩ (.take 15 ⟨[], false, []⟩ .done))))) .done) .done) .done) .done)) .done)) (.alt 3 false ⟨[], false, []⟩ (.take 7 ⟨[], false, []⟩ (.alt 0 true ⟨[], false, []⟩ (.alt 8 true ⟨[], false, []⟩ (.alt 9 false ⟨[], false, []⟩ (.alt 10 false ⟨[], false, []⟩ (.take 11 ⟨[], false, []⟩ (.take 12 ⟨[], false, []⟩ (.take 13 ⟨[], false, []⟩ (.take 14 ⟨[], false, []⟩ (.take 15 ⟨[], false, []⟩ .done))))) .done) .done) .done) (.alt 8 true ⟨[], false, []⟩ (.alt 0 true ⟨[], false, []⟩ (.alt 9 false ⟨[], false, []⟩ (.alt 10 false ⟨[], false, []⟩ (.take 11 ⟨[], false, []⟩ (.take 12 ⟨[], false, []⟩ (.take 13 ⟨[], false, []⟩ (.take 14 ⟨[], false, []⟩ (.take 15 ⟨[], false, []⟩ .done))))) .done) .done) (.alt 9 false ⟨[], false, []⟩ (.take 0 ⟨[], false, []⟩ (.alt 10 false ⟨[], false, []⟩ (.take 11 ⟨[], false, []⟩ (.take 12 ⟨[], false, []⟩ (.take 13 ⟨[], false, []⟩ (.take 14 ⟨[], false, []⟩ (.take 15 ⟨[], false, []⟩ .done))))) .done)) .done)) .done))) (.alt 7 true ⟨[], false, []⟩ (.alt 0 true ⟨[], false, []⟩ (.alt 3 false ⟨[], false, []⟩ (.alt 8 true ⟨[], false, []⟩ (.alt 9 false ⟨[], false, []⟩ (.alt 10 false ⟨[], false, []⟩ (.take 11 ⟨[], false, []⟩ (.take 12 ⟨[], false, []⟩ (.take 13 ⟨[], false, []⟩ (.take 14 ⟨[], false, []⟩ (.take 15 ⟨[], false, []⟩ .done))))) .done) .done) .done) (.alt 8 true ⟨[], false, []⟩ (.alt 3 false ⟨[], false, []⟩ (.alt 9 false ⟨[], false, []⟩ (.alt 10 false ⟨[], false, []⟩ (.take 11 ⟨[], false, []⟩ (.take 12 ⟨[], false, []⟩ (.take 13 ⟨[], false, []⟩ (.take 14 ⟨[], false, []⟩ (.take 15 ⟨[], false, []⟩ .done))))) .done) .done) .done) .done)) (.alt 3 false ⟨[], false, []⟩ (.alt 0 true ⟨[], false, []⟩ (.alt 8 true ⟨[], false, []⟩ (.alt 9 false ⟨[], false, []⟩ (.alt 10 false ⟨[], false, []⟩ (.take 11 ⟨[], false, []⟩ (.take 12 ⟨[], false, []⟩ (.take 13 ⟨[], false, []⟩ (.take 14 ⟨[], false, []⟩ (.take 15 ⟨[], false, []⟩ .done))))) .done) .done) .done) (.alt 8 true ⟨[], false, []⟩ (.alt 0 true ⟨[], false, []⟩ (.alt 9 false ⟨[], false, []⟩ (.alt 10 false ⟨[], false, []⟩ (.take 11 ⟨[], false, []⟩ (.take 12 ⟨[], false, []⟩ (.take 13 ⟨[], false, []⟩ (.take 14 ⟨[], false, []⟩ (.take 15 ⟨[], false, []⟩ .done))))) .done) .done) (.alt 9 false ⟨[], false, []⟩ (.take 0 ⟨[], false, []⟩ (.alt 10 false ⟨[], false, []⟩ (.take 11 ⟨[], false, []⟩ (.take 12 ⟨[], false, []⟩ (.take 13 ⟨[], false, []⟩ (.take 14 ⟨[], false, []⟩ (.take 15 ⟨[], false, []⟩ .done))))) .done)) .done)) .done)) (.alt 8 true ⟨[], false, []⟩ (.alt 0 true ⟨[], false, []⟩ (.alt 3 false ⟨[], false, []⟩ (.alt 9 false ⟨[], false, []⟩ (.alt 10 false ⟨[], false, []⟩ (.take 11 ⟨[], false, []⟩ (.take 12 ⟨[], false, []⟩ (.take 13 ⟨[], false, []⟩ (.take 14 ⟨[], false, []⟩ (.take 15 ⟨[], false, []⟩ .done))))) .done) .done) .done) (.alt 3 false ⟨[], false, []⟩ (.alt 0 true ⟨[], false, []⟩ (.alt 9 false ⟨[], false, []⟩ (.alt 10 false ⟨[], false, []⟩ (.take 11 ⟨[], false, []⟩ (.take 12 ⟨[], false, []⟩ (.take 13 ⟨[], false, []⟩ (.take 14 ⟨[], false, []⟩ (.take 15 ⟨[], false, []⟩ .done))))) .done) .done) (.alt 9 false ⟨[], false, []⟩ (.take 0 ⟨[], false, []⟩ (.alt 10 false ⟨[], false, []⟩ (.take 11 ⟨[], false, []⟩ (.take 12 ⟨[], false, []⟩ (.take 13 ⟨[], false, []⟩ (.take 14 ⟨[], false, []⟩ (.take 15 ⟨[], false, []⟩ .done))))) .done)) .done)) .done)) .done))) .done))))))))) (.seq (.txt []) (.cond (.seq (.txt []) .leaf) .leaf)))) (.txt [])))))) (.seq (.txt []) .leaf)))))
set_option maxRecDepth 100000 in
theorem M_ref04_lay_ok (σ : Hp) (g_Wide : Int) (g_High : Int) (g_Cells_A : Option Addr) (g_Cells_n : Nat) (g_Cells_c : Nat) (g_Heights_A : Option Addr) (g_Heights_n : Nat) (g_Heights_c : Nat) (l_A : Option Addr) (l_n : Nat) (l_c : Nat) (begun_A : Option Addr) (begun_n : Nat) (begun_c : Nat) (R : Value → Hp → Prop) (h : M_ref04_lay σ g_Wide g_High g_Cells_A g_Cells_n g_Cells_c g_Heights_A g_Heights_n g_Heights_c l_A l_n l_c begun_A begun_n begun_c R) : FCalls Try.prog 67 #[(.agg #[(.int .i64 g_Wide), (.int .i64 g_High), (.slice g_Cells_A g_Cells_n g_Cells_c), (.slice g_Heights_A g_Heights_n g_Heights_c)]), (.slice l_A l_n l_c), (.slice begun_A begun_n begun_c)] σ R :=
  fcalls_of_M mixed_M3 M_ref04_lay_an Try.func67 rfl (by kernel_rfl) (by kernel_rfl) (M := M_ref04_lay σ g_Wide g_High g_Cells_A g_Cells_n g_Cells_c g_Heights_A g_Heights_n g_Heights_c l_A l_n l_c begun_A begun_n begun_c R) (by kernel_rfl) h
theorem M_ref04_lay_enter : enterB Try.prog 67 = true := by kernel_rfl

abbrev N_ground_field_some : FuncId := 68
/-- (*waltzer/ground.field).some -/
def M_ground_field_some (σ : Hp) (f : Option Addr) (is : Value) (R : Value → Hp → Prop) : Prop :=
  cut (α := Option Addr → Nat → Nat → Hp → Prop) (fun A4 l4 c4 σ2 => ∀ _ : Nat → Value, rt σ2 R (.slice A4 l4 c4)) (fun J3 => 
    dr f (fun b5 o6 => ldS σ b5 (o6 + 2) (fun _ l7 _ => ∃ I10 : Nat → Option Addr → Nat → Nat → Int → Hp → Prop, (∃ n110, I10 n110 none 0 0 0 σ) ∧ 
    ∀ n11 : Nat, ∀ A12 : Option Addr, ∀ l12 : Nat, ∀ c12 : Nat, ∀ n13 : Int, ∀ σ9 : Hp, I10 n11 A12 l12 c12 n13 σ9 → ∀ _ : Nat → Value, bc (decide (n13 < ((l7 : Nat) : Int))) (cut (α := Option Addr → Nat → Nat → Hp → Prop) (fun A17 l17 c17 σ15 => 
    ∀ _ : Nat → Value, wk .i64 (n13 + 1) (fun n18 => bk σ15 n11 (fun m19 σ20 => I10 m19 A17 l17 c17 n18 σ20))) (fun J16 => 
    cl Try.prog is #[(.int .i64 n13)] σ9 (fun v21 σ22 => ∃ t23 : Bool, (v21 = (.bool t23) ∧ bc t23 (adp 3 [.int .i64] A12 l12 c12 σ22 (fun (xs24 : List Int) σ25 => 
    roomy (List.length xs24 + List.length ([n13] : List Int)) (exl 3 [.int .i64] (xs24 ++ ([n13] : List Int)) σ25 (fun A26 l26 c26 σ27 => 
    J16 A26 l26 c26 σ27)))) (J16 A12 l12 c12 σ22))))) (J3 A12 l12 c12 σ9))))
def M_ground_field_some_an : MAn := (.seq (.txt []) (.cut ⟨[], 0, [.slot 4 (.sc (.slc))], []⟩ (.seq (.txt []) (.block (.loop ⟨[], 0, [.slot 4 (.sc (.slc)), .slot 12 (.sc (.int .i64))], [(1, false), (11, true)]⟩ (.seq (.txt []) (.seq (.cond .leaf .leaf) (.cut ⟨[], 0, [.slot 4 (.sc (.slc))], [(1, false), (11, true), (12, true)]⟩ (.block (.seq (.txt []) (.seq (.txt []) (.cond (.txt []) .leaf)))) (.txt []))))))) (.seq (.txt []) .leaf)))
set_option maxRecDepth 100000 in
theorem M_ground_field_some_ok (σ : Hp) (f : Option Addr) (is : Value) (R : Value → Hp → Prop) (h : M_ground_field_some σ f is R) : FCalls Try.prog 68 #[(.pointer f), is] σ R :=
  fcalls_of_M mixed_M3 M_ground_field_some_an Try.func68 rfl (by kernel_rfl) (by kernel_rfl) (M := M_ground_field_some σ f is R) (by kernel_rfl) h
theorem M_ground_field_some_enter : enterB Try.prog 68 = true := by kernel_rfl

abbrev N_ref04_numbers : FuncId := 69
/-- waltzer/waltzerref04.numbers -/
def M_ref04_numbers (σ : Hp) (l_A : Option Addr) (l_n : Nat) (_ : Nat) (R : Value → Hp → Prop) : Prop :=
  cut (α := Option Addr → Nat → Nat → Hp → Prop) (fun A4 l4 c4 σ2 => ∀ _ : Nat → Value, rt σ2 R (.slice A4 l4 c4)) (fun J3 => 
    ∃ I7 : Nat → Option Addr → Nat → Nat → Int → Hp → Prop, (∃ n80, I7 n80 none 0 0 0 σ) ∧ ∀ n8 : Nat, ∀ A9 : Option Addr, ∀ l9 : Nat, ∀ c9 : Nat, ∀ n10 : Int, ∀ σ6 : Hp, I7 n8 A9 l9 c9 n10 σ6 → ∀ _ : Nat → Value, bc (decide (n10 < ((l_n : Nat) : Int))) (cut (α := Option Addr → Nat → Nat → Hp → Prop) (fun A14 l14 c14 σ12 => 
    ∀ _ : Nat → Value, wk .i64 (n10 + 1) (fun n15 => bk σ12 n8 (fun m16 σ17 => I7 m16 A14 l14 c14 n15 σ17))) (fun J13 => 
    ix l_A l_n n10 1 (fun b18 a19 => ldB σ6 b18 a19 (fun t20 => bc t20 (adp 3 [.int .i64] A9 l9 c9 σ6 (fun (xs21 : List Int) σ22 => 
    roomy (List.length xs21 + List.length ([n10] : List Int)) (exl 3 [.int .i64] (xs21 ++ ([n10] : List Int)) σ22 (fun A23 l23 c23 σ24 => 
    J13 A23 l23 c23 σ24)))) (J13 A9 l9 c9 σ6))))) (J3 A9 l9 c9 σ6))
def M_ref04_numbers_an : MAn := (.seq (.txt []) (.seq (.txt []) (.cut ⟨[], 0, [.slot 3 (.sc (.slc))], []⟩ (.seq (.txt []) (.block (.loop ⟨[], 0, [.slot 3 (.sc (.slc)), .slot 4 (.sc (.int .i64))], [(0, true)]⟩ (.seq (.seq (.txt []) (.cond .leaf .leaf)) (.cut ⟨[], 0, [.slot 3 (.sc (.slc))], [(0, true), (4, true)]⟩ (.block (.seq (.txt []) (.cond (.txt []) .leaf))) (.txt [])))))) (.seq (.txt []) .leaf))))
set_option maxRecDepth 100000 in
theorem M_ref04_numbers_ok (σ : Hp) (l_A : Option Addr) (l_n : Nat) (l_c : Nat) (R : Value → Hp → Prop) (h : M_ref04_numbers σ l_A l_n l_c R) : FCalls Try.prog 69 #[(.slice l_A l_n l_c)] σ R :=
  fcalls_of_M mixed_M3 M_ref04_numbers_an Try.func69 rfl (by kernel_rfl) (by kernel_rfl) (M := M_ref04_numbers σ l_A l_n l_c R) (by kernel_rfl) h
theorem M_ref04_numbers_enter : enterB Try.prog 69 = true := by kernel_rfl

abbrev N_ground_field_far : FuncId := 70
/-- (*waltzer/ground.field).far -/
def M_ground_field_far (σ : Hp) (a0 : Option Addr) (a1 : Int) (R : Value → Hp → Prop) : Prop :=
  dr a0 (fun b1 o2 => ldS σ b1 (o2 + 2) (fun _ l3 _ => exl 3 [.int .i64] ([(-1)] : List Int) σ (fun A4 l4 c4 σ5 => 
    cl Try.prog (.func (.func 47) #[] #[]) #[(.slice A4 l4 c4), (.int .i64 ((l3 : Nat) : Int))] σ5 (fun v6 σ7 => 
    ∃ A8 : Option Addr, ∃ l8 : Nat, ∃ c8 : Nat, (v6 = (.slice A8 l8 c8) ∧ adp 3 [.int .i64] A8 l8 c8 σ7 (fun (xs9 : List Int) σ10 => 
    cut (α := Option Addr → Nat → Nat → List Int → Hp → Prop) (fun A14 l14 c14 xs15 σ12 => ∀ _ : Nat → Value, 
    cut (α := List Int → Hp → Prop) (fun xs19 σ17 => ∀ _ : Nat → Value, exl 3 [.int .i64] xs19 σ17 (fun A20 l20 c20 σ21 => 
    rt σ21 R (.slice A20 l20 c20))) (fun J18 => ∃ I24 : Nat → Option Addr → Nat → Nat → List Int → Hp → Prop, (∃ n250, I24 n250 A14 l14 c14 xs15 σ12) ∧ 
    ∀ n25 : Nat, ∀ A26 : Option Addr, ∀ l26 : Nat, ∀ c26 : Nat, ∀ xs27 : List Int, ∀ σ23 : Hp, I24 n25 A26 l26 c26 xs27 σ23 → ∀ _ : Nat → Value, bc (decide ((0 : Int) < ((l26 : Nat) : Int))) (cut (α := Option Addr → Nat → Nat → List Int → Hp → Prop) (fun A31 l31 c31 xs32 σ29 => 
    ∀ _ : Nat → Value, (0 ≤ (1 : Int) ∧ 1 ≤ ((l31 : Nat) : Int) ∧ bk σ29 n25 (fun m33 σ34 => I24 m33 (if c31 = (1 : Int).toNat then (A31 : Option Addr) else (A31 : Option Addr).map (fun x => 
    x.add ((1 : Int).toNat * 1))) (l31 - (1 : Int).toNat) (c31 - (1 : Int).toNat) xs32 σ34))) (fun J30 => 
    ix A26 l26 0 1 (fun b35 a36 => ldI σ23 .i64 b35 a36 (fun n37 => cl Try.prog (.func (.func 49) #[] #[]) #[(.pointer a0), (.int .i64 n37)] σ23 (fun v38 σ39 => 
    ∃ A40 : Option Addr, ∃ l40 : Nat, ∃ c40 : Nat, (v38 = (.slice A40 l40 c40) ∧ adp 3 [.int .i64] A40 l40 c40 σ39 (fun (xs41 : List Int) σ42 => 
    ∃ I45 : Nat → Option Addr → Nat → Nat → Int → List Int → Hp → Prop, (∃ n460, I45 n460 A26 l26 c26 0 xs27 σ42) ∧ 
    ∀ n46 : Nat, ∀ A47 : Option Addr, ∀ l47 : Nat, ∀ c47 : Nat, ∀ n48 : Int, ∀ xs49 : List Int, ∀ σ44 : Hp, I45 n46 A47 l47 c47 n48 xs49 σ44 → ∀ _ : Nat → Value, bc (decide (n48 < ((List.length xs41 : Nat) : Int))) (cut (α := Option Addr → Nat → Nat → List Int → Hp → Prop) (fun A53 l53 c53 xs54 σ51 => 
    ∀ _ : Nat → Value, wk .i64 (n48 + 1) (fun n55 => bk σ51 n46 (fun m56 σ57 => I45 m56 A53 l53 c53 n55 xs54 σ57))) (fun J52 => 
    (0 ≤ n48 ∧ n48 < ((List.length xs41 : Nat) : Int) ∧ lat xs41 ((n48 : Int).toNat) (fun r58 => cut (α := Bool → Hp → Prop) (fun t62 σ60 => 
    ∀ _ : Nat → Value, bc t62 (ix A47 l47 0 1 (fun b63 a64 => ldI σ60 .i64 b63 a64 (fun n65 => (0 ≤ n65 ∧ 
    n65 < ((List.length xs49 : Nat) : Int) ∧ lat xs49 ((n65 : Int).toNat) (fun r66 => wk .i64 (r66 + 1) (fun n67 => 
    (0 ≤ r58 ∧ r58 < ((List.length xs49 : Nat) : Int) ∧ lat xs49 ((r58 : Int).toNat) (fun _ => adp 3 [.int .i64] A47 l47 c47 σ60 (fun (xs69 : List Int) σ70 => 
    roomy (List.length xs69 + List.length ([r58] : List Int)) (exl 3 [.int .i64] (xs69 ++ ([r58] : List Int)) σ70 (fun A71 l71 c71 σ72 => 
    J52 A71 l71 c71 (List.set xs49 ((r58 : Int).toNat) n67) σ72))))))))))) (J52 A47 l47 c47 xs49 σ60)) (fun J61 => 
    cl Try.prog (.func (.func 46) #[] #[]) #[(.pointer a0), (.int .i64 r58)] σ44 (fun v73 σ74 => ∃ t75 : Bool, (v73 = (.bool t75) ∧ 
    bc t75 (bc (!decide (r58 = a1)) ((0 ≤ r58 ∧ r58 < ((List.length xs49 : Nat) : Int) ∧ lat xs49 ((r58 : Int).toNat) (fun r76 => 
    J61 (decide (r76 < 0)) σ74))) (J61 false σ74)) (bc false ((0 ≤ r58 ∧ r58 < ((List.length xs49 : Nat) : Int) ∧ 
    lat xs49 ((r58 : Int).toNat) (fun r77 => J61 (decide (r77 < 0)) σ74))) (J61 false σ74))))))))) (J30 A47 l47 c47 xs49 σ44)))))))) (J18 xs27 σ23))) (fun J13 => 
    dr a0 (fun b78 o79 => ldS σ10 b78 (o79 + 2) (fun A80 l80 _ => ∃ I83 : Nat → Option Addr → Nat → Nat → Int → List Int → Hp → Prop, (∃ n840, I83 n840 none 0 0 0 xs9 σ10) ∧ 
    ∀ n84 : Nat, ∀ A85 : Option Addr, ∀ l85 : Nat, ∀ c85 : Nat, ∀ n86 : Int, ∀ xs87 : List Int, ∀ σ82 : Hp, I83 n84 A85 l85 c85 n86 xs87 σ82 → ∀ _ : Nat → Value, bc (decide (n86 < ((l80 : Nat) : Int))) (cut (α := Option Addr → Nat → Nat → List Int → Hp → Prop) (fun A91 l91 c91 xs92 σ89 => 
    ∀ _ : Nat → Value, wk .i64 (n86 + 1) (fun n93 => bk σ89 n84 (fun m94 σ95 => I83 m94 A91 l91 c91 n93 xs92 σ95))) (fun J90 => 
    ix A80 l80 n86 1 (fun b96 a97 => ldI σ82 .i64 b96 a97 (fun n98 => cut (α := Bool → Hp → Prop) (fun t102 σ100 => 
    ∀ _ : Nat → Value, bc t102 ((0 ≤ n86 ∧ n86 < ((List.length xs87 : Nat) : Int) ∧ lat xs87 ((n86 : Int).toNat) (fun _ => 
    adp 3 [.int .i64] A85 l85 c85 σ100 (fun (xs104 : List Int) σ105 => roomy (List.length xs104 + List.length ([n86] : List Int)) (exl 3 [.int .i64] (xs104 ++ ([n86] : List Int)) σ105 (fun A106 l106 c106 σ107 => 
    J90 A106 l106 c106 (List.set xs87 ((n86 : Int).toNat) 0) σ107)))))) (J90 A85 l85 c85 xs87 σ100)) (fun J101 => 
    bc (decide (n98 = 3)) (J101 (!decide (n86 = a1)) σ82) (J101 false σ82)))))) (J13 A85 l85 c85 xs87 σ82))))))))))
def M_ground_field_far_an : MAn := (.seq (.txt []) (.seq (.txt [⟨[], false, []⟩, ⟨[], false, []⟩, ⟨[], false, []⟩, ⟨[], false, []⟩, ⟨[], false, []⟩, ⟨[], false, []⟩, ⟨[], false, []⟩, ⟨[], false, [.adl 18 3 [.int .i64]]⟩]) (.seq (.txt []) (.cut ⟨[false, false], 2, [.slot 5 (.hl 1 0), .slot 6 (.sc (.slc)), .modl 1 0 3 [.int .i64]], [(0, true), (1, true)]⟩ (.seq (.txt []) (.block (.loop ⟨[false, false], 2, [.slot 5 (.hl 1 0), .slot 6 (.sc (.slc)), .slot 25 (.sc (.int .i64)), .modl 1 0 3 [.int .i64]], [(0, true), (1, true), (23, true), (24, true)]⟩ (.seq (.txt []) (.seq (.cond .leaf .leaf) (.cut ⟨[false, false], 2, [.slot 5 (.hl 1 0), .slot 6 (.sc (.slc)), .modl 1 0 3 [.int .i64]], [(0, true), (1, true), (23, true), (24, true), (25, true)]⟩ (.block (.seq (.txt []) (.cut ⟨[false, true], 2, [.slot 5 (.hl 1 0), .slot 36 (.sc (.bool))], [(0, true), (1, true), (6, true), (7, true), (23, true), (24, true), (25, true)]⟩ (.txt [⟨[], false, []⟩, ⟨[], false, []⟩, ⟨[], true, []⟩]) (.cond (.seq (.txt []) (.txt [])) .leaf)))) (.txt []))))))) (.cut ⟨[false, false], 2, [.slot 5 (.hl 1 0), .modl 1 0 3 [.int .i64]], []⟩ (.block (.loop ⟨[false, false], 2, [.slot 5 (.hl 1 0), .slot 6 (.sc (.slc)), .modl 1 0 3 [.int .i64]], [(0, true), (1, true)]⟩ (.seq (.seq (.txt []) (.cond .leaf .leaf)) (.cut ⟨[false, false], 2, [.slot 5 (.hl 1 0), .slot 6 (.sc (.slc)), .modl 1 0 3 [.int .i64]], [(0, true), (1, true)]⟩ (.block (.seq (.txt [⟨[], false, []⟩, ⟨[], false, []⟩, ⟨[], false, []⟩, ⟨[], false, []⟩, ⟨[], false, [.adl 54 3 [.int .i64]]⟩]) (.block (.loop ⟨[false, false, true], 3, [.slot 5 (.hl 1 0), .slot 6 (.sc (.slc)), .slot 54 (.hl 2 0), .slot 56 (.sc (.int .i64)), .modl 1 0 3 [.int .i64]], [(0, true), (1, true), (55, true)]⟩ (.seq (.txt []) (.seq (.cond .leaf .leaf) (.cut ⟨[false, false, true], 3, [.slot 5 (.hl 1 0), .slot 6 (.sc (.slc)), .slot 54 (.hl 2 0), .modl 1 0 3 [.int .i64]], [(0, true), (1, true), (55, true), (56, true)]⟩ (.block (.seq (.txt []) (.cut ⟨[false, true, true], 3, [.slot 5 (.hl 1 0), .slot 54 (.hl 2 0), .slot 74 (.sc (.bool))], [(0, true), (1, true), (6, true), (10, true), (55, true), (56, true)]⟩ (.txt [⟨[], false, []⟩, ⟨[], false, []⟩, ⟨[], false, []⟩, ⟨[], true, []⟩, ⟨[], false, []⟩, ⟨[], false, []⟩, ⟨[], false, []⟩, ⟨[], false, []⟩, ⟨[], true, []⟩]) (.cond (.seq (.txt []) (.txt [])) .leaf)))) (.txt [])))))))) (.txt []))))) (.seq (.txt []) .leaf))))))
set_option maxRecDepth 100000 in
theorem M_ground_field_far_ok (σ : Hp) (a0 : Option Addr) (a1 : Int) (R : Value → Hp → Prop) (h : M_ground_field_far σ a0 a1 R) : FCalls Try.prog 70 #[(.pointer a0), (.int .i64 a1)] σ R :=
  fcalls_of_M mixed_M3 M_ground_field_far_an Try.func70 rfl (by kernel_rfl) (by kernel_rfl) (M := M_ground_field_far σ a0 a1 R) (by kernel_rfl) h
theorem M_ground_field_far_enter : enterB Try.prog 70 = true := by kernel_rfl

abbrev N_ref04_far : FuncId := 71
/-- waltzer/waltzerref04.far -/
def M_ref04_far (σ : Hp) (a0_Wide : Int) (a0_High : Int) (a0_Cells_A : Option Addr) (a0_Cells_n : Nat) (a0_Cells_c : Nat) (a0_Heights_A : Option Addr) (a0_Heights_n : Nat) (a0_Heights_c : Nat) (a1_A : Option Addr) (a1_n : Nat) (_ : Nat) (R : Value → Hp → Prop) : Prop :=
  (0 ≤ ((a1_n : Nat) : Int) ∧ ((a1_n : Nat) : Int) ≤ ((a1_n : Nat) : Int) ∧ ((a1_n : Nat) : Int) ≤ (1000000000 : Int) ∧ 
    cut (α := List Int → Hp → Prop) (fun xs4 σ2 => ∀ _ : Nat → Value, cut (α := List Int → Hp → Prop) (fun xs8 σ6 => 
    ∀ _ : Nat → Value, exl 3 [.int .i64] xs8 σ6 (fun A9 l9 c9 σ10 => rt σ10 R (.slice A9 l9 c9))) (fun J7 => 
    ∃ I13 : Nat → Int → List Int → Hp → Prop, (∃ n140, I13 n140 0 xs4 σ2) ∧ ∀ n14 : Nat, ∀ n15 : Int, ∀ xs16 : List Int, ∀ σ12 : Hp, I13 n14 n15 xs16 σ12 → ∀ _ : Nat → Value, bc (decide (n15 < ((List.length xs16 : Nat) : Int))) (cut (α := List Int → Hp → Prop) (fun xs20 σ18 => 
    ∀ _ : Nat → Value, wk .i64 (n15 + 1) (fun n21 => bk σ18 n14 (fun m22 σ23 => I13 m22 n21 xs20 σ23))) (fun J19 => 
    ∃ I26 : Nat → Int → List Int → Hp → Prop, (∃ n270, I26 n270 0 xs16 σ12) ∧ ∀ n27 : Nat, ∀ n28 : Int, ∀ xs29 : List Int, ∀ σ25 : Hp, I26 n27 n28 xs29 σ25 → ∀ _ : Nat → Value, bc (decide (n28 < ((List.length xs29 : Nat) : Int))) (cut (α := List Int → Hp → Prop) (fun xs33 σ31 => 
    ∀ _ : Nat → Value, wk .i64 (n28 + 1) (fun n34 => bk σ31 n27 (fun m35 σ36 => I26 m35 n34 xs33 σ36))) (fun J32 => 
    cl Try.prog (.func (.func 34) #[] #[]) #[(.agg #[(.int .i64 a0_Wide), (.int .i64 a0_High), (.slice a0_Cells_A a0_Cells_n a0_Cells_c), (.slice a0_Heights_A a0_Heights_n a0_Heights_c)]), (.int .i64 n28)] σ25 (fun v37 σ38 => 
    ∃ A39 : Option Addr, ∃ l39 : Nat, ∃ c39 : Nat, (v37 = (.slice A39 l39 c39) ∧ adp 3 [.int .i64] A39 l39 c39 σ38 (fun (xs40 : List Int) σ41 => 
    ∃ I44 : Nat → Int → List Int → Hp → Prop, (∃ n450, I44 n450 0 xs29 σ41) ∧ ∀ n45 : Nat, ∀ n46 : Int, ∀ xs47 : List Int, ∀ σ43 : Hp, I44 n45 n46 xs47 σ43 → ∀ _ : Nat → Value, cut (α := Hp → Prop) (fun  σ49 => 
    ∀ _ : Nat → Value, cut (α := List Int → Hp → Prop) (fun xs54 σ52 => ∀ _ : Nat → Value, wk .i64 (n46 + 1) (fun n55 => 
    bk σ52 n45 (fun m56 σ57 => I44 m56 n55 xs54 σ57))) (fun J53 => (0 ≤ n46 ∧ n46 < ((List.length xs40 : Nat) : Int) ∧ 
    lat xs40 ((n46 : Int).toNat) (fun r58 => (0 ≤ r58 ∧ r58 < ((List.length xs47 : Nat) : Int) ∧ lat xs47 ((r58 : Int).toNat) (fun r59 => 
    bc (decide (r59 = n15)) (wk .i64 (n15 + 1) (fun n60 => (0 ≤ n28 ∧ n28 < ((List.length xs47 : Nat) : Int) ∧ 
    lat xs47 ((n28 : Int).toNat) (fun _ => J53 (List.set xs47 ((n28 : Int).toNat) n60) σ49)))) (J53 xs47 σ49))))))) (fun J50 => 
    cut (α := Bool → Hp → Prop) (fun t65 σ63 => ∀ _ : Nat → Value, bc t65 (J50 σ63) (J32 xs47 σ63)) (fun J64 => 
    bc (decide (n46 < ((List.length xs40 : Nat) : Int))) (ix a1_A a1_n n28 1 (fun b66 a67 => ldB σ43 b66 a67 (fun t68 => 
    bc t68 ((0 ≤ n28 ∧ n28 < ((List.length xs47 : Nat) : Int) ∧ lat xs47 ((n28 : Int).toNat) (fun r69 => 
    J64 (decide (r69 < 0)) σ43))) (J64 false σ43)))) (bc false ((0 ≤ n28 ∧ n28 < ((List.length xs47 : Nat) : Int) ∧ 
    lat xs47 ((n28 : Int).toNat) (fun r70 => J64 (decide (r70 < 0)) σ43))) (J64 false σ43))))))))) (J19 xs29 σ25))) (J7 xs16 σ12))) (fun J3 => 
    ∃ I73 : Nat → Int → List Int → Hp → Prop, (∃ n740, I73 n740 0 (List.replicate (((a1_n : Nat) : Int) : Int).toNat 0 : List Int) σ) ∧ 
    ∀ n74 : Nat, ∀ n75 : Int, ∀ xs76 : List Int, ∀ σ72 : Hp, I73 n74 n75 xs76 σ72 → ∀ _ : Nat → Value, bc (decide (n75 < ((List.length xs76 : Nat) : Int))) (cut (α := List Int → Hp → Prop) (fun xs80 σ78 => 
    ∀ _ : Nat → Value, wk .i64 (n75 + 1) (fun n81 => bk σ78 n74 (fun m82 σ83 => I73 m82 n81 xs80 σ83))) (fun J79 => 
    (0 ≤ n75 ∧ n75 < ((List.length xs76 : Nat) : Int) ∧ lat xs76 ((n75 : Int).toNat) (fun _ => cut (α := Bool → Hp → Prop) (fun t88 σ86 => 
    ∀ _ : Nat → Value, bc t88 ((0 ≤ n75 ∧ n75 < ((List.length (List.set xs76 ((n75 : Int).toNat) (-1)) : Nat) : Int) ∧ 
    lat (List.set xs76 ((n75 : Int).toNat) (-1)) ((n75 : Int).toNat) (fun _ => J79 (List.set (List.set xs76 ((n75 : Int).toNat) (-1)) ((n75 : Int).toNat) 0) σ86))) (J79 (List.set xs76 ((n75 : Int).toNat) (-1)) σ86)) (fun J87 => 
    ix a1_A a1_n n75 1 (fun b90 a91 => ldB σ72 b90 a91 (fun t92 => bc t92 (ix a0_Cells_A a0_Cells_n n75 1 (fun b93 a94 => 
    ldI σ72 .i64 b93 a94 (fun n95 => J87 (decide (n95 = 3)) σ72))) (J87 false σ72)))))))) (J3 xs76 σ72)))
def M_ref04_far_an : MAn := (.seq (.txt []) (.seq (.txt []) (.cut ⟨[true, false], 2, [.slot 2 (.hb 0 0), .slot 5 (.hl 1 0), .modl 1 0 3 [.int .i64]], [(1, true)]⟩ (.seq (.txt []) (.block (.loop ⟨[true, false], 2, [.slot 2 (.hb 0 0), .slot 5 (.hl 1 0), .slot 6 (.sc (.int .i64)), .modl 1 0 3 [.int .i64]], [(1, true)]⟩ (.seq (.seq (.txt []) (.cond .leaf .leaf)) (.cut ⟨[true, false], 2, [.slot 2 (.hb 0 0), .slot 5 (.hl 1 0), .modl 1 0 3 [.int .i64]], [(1, true), (6, true)]⟩ (.block (.seq (.txt []) (.cut ⟨[true, true], 2, [.slot 2 (.hb 0 0), .slot 5 (.hl 1 0), .slot 34 (.sc (.bool))], [(1, true), (6, true)]⟩ (.txt [⟨[], false, []⟩, ⟨[], false, []⟩, ⟨[], false, []⟩, ⟨[], false, []⟩, ⟨[], true, []⟩]) (.cond (.txt []) .leaf)))) (.txt [])))))) (.cut ⟨[true, false], 2, [.slot 5 (.hl 1 0), .modl 1 0 3 [.int .i64]], []⟩ (.seq (.txt []) (.block (.loop ⟨[true, false], 2, [.slot 2 (.hb 0 0), .slot 5 (.hl 1 0), .slot 7 (.sc (.int .i64)), .modl 1 0 3 [.int .i64]], [(1, true)]⟩ (.seq (.seq (.txt []) (.cond .leaf .leaf)) (.cut ⟨[true, false], 2, [.slot 2 (.hb 0 0), .slot 5 (.hl 1 0), .modl 1 0 3 [.int .i64]], [(1, true), (7, true)]⟩ (.block (.seq (.txt []) (.block (.loop ⟨[true, false], 2, [.slot 2 (.hb 0 0), .slot 5 (.hl 1 0), .slot 8 (.sc (.int .i64)), .modl 1 0 3 [.int .i64]], [(1, true), (7, true)]⟩ (.seq (.seq (.txt []) (.cond .leaf .leaf)) (.cut ⟨[true, false], 2, [.slot 2 (.hb 0 0), .slot 5 (.hl 1 0), .modl 1 0 3 [.int .i64]], [(1, true), (7, true), (8, true)]⟩ (.block (.seq (.txt [⟨[], false, []⟩, ⟨[], false, []⟩, ⟨[], false, [.adl 52 3 [.int .i64]]⟩]) (.seq (.txt []) (.block (.loop ⟨[true, false, true], 3, [.slot 2 (.hb 0 0), .slot 5 (.hl 1 0), .slot 9 (.hl 2 0), .slot 10 (.sc (.int .i64)), .modl 1 0 3 [.int .i64]], [(1, true), (7, true), (8, true)]⟩ (.cut ⟨[true, true, true], 3, [.slot 2 (.hb 0 0), .slot 5 (.hl 1 0), .slot 9 (.hl 2 0)], [(1, true), (7, true), (8, true), (10, true)]⟩ (.cut ⟨[true, true, true], 3, [.slot 2 (.hb 0 0), .slot 5 (.hl 1 0), .slot 9 (.hl 2 0), .slot 69 (.sc (.bool))], [(1, true), (7, true), (8, true), (10, true)]⟩ (.txt [⟨[], false, []⟩, ⟨[], false, []⟩, ⟨[], false, []⟩, ⟨[], false, []⟩, ⟨[], true, []⟩, ⟨[], false, []⟩, ⟨[], false, []⟩, ⟨[], false, []⟩, ⟨[], false, []⟩, ⟨[], false, []⟩, ⟨[], true, []⟩]) (.cond .leaf .leaf)) (.cut ⟨[true, false, true], 3, [.slot 2 (.hb 0 0), .slot 5 (.hl 1 0), .slot 9 (.hl 2 0), .modl 1 0 3 [.int .i64]], [(1, true), (7, true), (8, true), (10, true)]⟩ (.block (.seq (.txt []) (.cond (.txt []) .leaf))) (.txt [])))))))) (.txt []))))))) (.txt [])))))) (.seq (.txt []) .leaf)))))
set_option maxRecDepth 100000 in
theorem M_ref04_far_ok (σ : Hp) (a0_Wide : Int) (a0_High : Int) (a0_Cells_A : Option Addr) (a0_Cells_n : Nat) (a0_Cells_c : Nat) (a0_Heights_A : Option Addr) (a0_Heights_n : Nat) (a0_Heights_c : Nat) (a1_A : Option Addr) (a1_n : Nat) (a1_c : Nat) (R : Value → Hp → Prop) (h : M_ref04_far σ a0_Wide a0_High a0_Cells_A a0_Cells_n a0_Cells_c a0_Heights_A a0_Heights_n a0_Heights_c a1_A a1_n a1_c R) : FCalls Try.prog 71 #[(.agg #[(.int .i64 a0_Wide), (.int .i64 a0_High), (.slice a0_Cells_A a0_Cells_n a0_Cells_c), (.slice a0_Heights_A a0_Heights_n a0_Heights_c)]), (.slice a1_A a1_n a1_c)] σ R :=
  fcalls_of_M mixed_M3 M_ref04_far_an Try.func71 rfl (by kernel_rfl) (by kernel_rfl) (M := M_ref04_far σ a0_Wide a0_High a0_Cells_A a0_Cells_n a0_Cells_c a0_Heights_A a0_Heights_n a0_Heights_c a1_A a1_n a1_c R) (by kernel_rfl) h
theorem M_ref04_far_enter : enterB Try.prog 71 = true := by kernel_rfl

abbrev N_ground_field_trapped : FuncId := 72
/-- (*waltzer/ground.field).trapped -/
def M_ground_field_trapped (σ : Hp) (f : Option Addr) (blocked : Int) (R : Value → Hp → Prop) : Prop :=
  cl Try.prog (.func (.func 70) #[] #[]) #[(.pointer f), (.int .i64 blocked)] σ (fun v1 σ2 => ∃ A3 : Option Addr, ∃ l3 : Nat, ∃ c3 : Nat, (v1 = (.slice A3 l3 c3) ∧ 
    bx σ2 (.cells #[(.pointer f)] 67) (fun b4 σ5 => bx σ5 (.cells #[(.int .i64 blocked)] 3) (fun b6 σ7 => 
    bx σ7 (.cells #[(.slice A3 l3 c3)] 22) (fun b8 σ9 => cl Try.prog (.func (.func 68) #[] #[]) #[(.pointer f), (.func (.func 97) #[] #[(.pointer (some ⟨b4, 0, none⟩)), (.pointer (some ⟨b6, 0, none⟩)), (.pointer (some ⟨b8, 0, none⟩))])] σ9 (fun v10 σ11 => 
    ∃ A12 : Option Addr, ∃ l12 : Nat, ∃ c12 : Nat, (v10 = (.slice A12 l12 c12) ∧ rt σ11 R (.slice A12 l12 c12))))))))
def M_ground_field_trapped_an : MAn := (.seq (.txt []) (.seq (.txt []) (.seq (.txt []) .leaf)))
set_option maxRecDepth 100000 in
theorem M_ground_field_trapped_ok (σ : Hp) (f : Option Addr) (blocked : Int) (R : Value → Hp → Prop) (h : M_ground_field_trapped σ f blocked R) : FCalls Try.prog 72 #[(.pointer f), (.int .i64 blocked)] σ R :=
  fcalls_of_M mixed_M3 M_ground_field_trapped_an Try.func72 rfl (by kernel_rfl) (by kernel_rfl) (M := M_ground_field_trapped σ f blocked R) (by kernel_rfl) h
theorem M_ground_field_trapped_enter : enterB Try.prog 72 = true := by kernel_rfl

abbrev N_ref04_trapped : FuncId := 73
/-- waltzer/waltzerref04.trapped -/
def M_ref04_trapped (σ : Hp) (g_Wide : Int) (g_High : Int) (g_Cells_A : Option Addr) (g_Cells_n : Nat) (g_Cells_c : Nat) (g_Heights_A : Option Addr) (g_Heights_n : Nat) (g_Heights_c : Nat) (open_A : Option Addr) (open_n : Nat) (_ : Nat) (blocked : Int) (R : Value → Hp → Prop) : Prop :=
  adp 4 [.bool] none 0 0 σ (fun (xs1 : List Bool) σ2 => ∃ ys3 : List Bool, RdS [.bool] σ2 open_A open_n ys3 ∧ 
    roomy (List.length xs1 + List.length ys3) ((0 ≤ blocked ∧ blocked < ((List.length (xs1 ++ ys3) : Nat) : Int) ∧ 
    lat (xs1 ++ ys3) ((blocked : Int).toNat) (fun _ => exl 4 [.bool] (List.set (xs1 ++ ys3) ((blocked : Int).toNat) false) σ2 (fun A5 l5 c5 σ6 => 
    cl Try.prog (.func (.func 71) #[] #[]) #[(.agg #[(.int .i64 g_Wide), (.int .i64 g_High), (.slice g_Cells_A g_Cells_n g_Cells_c), (.slice g_Heights_A g_Heights_n g_Heights_c)]), (.slice A5 l5 c5)] σ6 (fun v7 σ8 => 
    ∃ A9 : Option Addr, ∃ l9 : Nat, ∃ c9 : Nat, (v7 = (.slice A9 l9 c9) ∧ adp 3 [.int .i64] A9 l9 c9 σ8 (fun (xs10 : List Int) σ11 => 
    adp 4 [.bool] A5 l5 c5 σ11 (fun (xs12 : List Bool) σ13 => (0 ≤ ((open_n : Nat) : Int) ∧ ((open_n : Nat) : Int) ≤ ((open_n : Nat) : Int) ∧ 
    ((open_n : Nat) : Int) ≤ (1000000000 : Int) ∧ cut (α := List Bool → Hp → Prop) (fun xs17 σ15 => ∀ _ : Nat → Value, 
    exl 4 [.bool] xs17 σ15 (fun A18 l18 c18 σ19 => rt σ19 R (.slice A18 l18 c18))) (fun J16 => ∃ I22 : Nat → Int → List Bool → Hp → Prop, (∃ n230, I22 n230 0 (List.replicate (((open_n : Nat) : Int) : Int).toNat false : List Bool) σ13) ∧ 
    ∀ n23 : Nat, ∀ n24 : Int, ∀ xs25 : List Bool, ∀ σ21 : Hp, I22 n23 n24 xs25 σ21 → ∀ _ : Nat → Value, bc (decide (n24 < ((List.length xs25 : Nat) : Int))) (cut (α := List Bool → Hp → Prop) (fun xs29 σ27 => 
    ∀ _ : Nat → Value, wk .i64 (n24 + 1) (fun n30 => bk σ27 n23 (fun m31 σ32 => I22 m31 n30 xs29 σ32))) (fun J28 => 
    (0 ≤ n24 ∧ n24 < ((List.length xs12 : Nat) : Int) ∧ lat xs12 ((n24 : Int).toNat) (fun r33 => bc r33 ((0 ≤ n24 ∧ 
    n24 < ((List.length xs10 : Nat) : Int) ∧ lat xs10 ((n24 : Int).toNat) (fun r34 => (0 ≤ n24 ∧ n24 < ((List.length xs25 : Nat) : Int) ∧ 
    lat xs25 ((n24 : Int).toNat) (fun _ => J28 (List.set xs25 ((n24 : Int).toNat) (decide (r34 < 0))) σ21))))) ((0 ≤ n24 ∧ 
    n24 < ((List.length xs25 : Nat) : Int) ∧ lat xs25 ((n24 : Int).toNat) (fun _ => J28 (List.set xs25 ((n24 : Int).toNat) false) σ21))))))) (J16 xs25 σ21))))))))))))
def M_ref04_trapped_an : MAn := (.seq (.txt []) (.seq (.txt []) (.seq (.txt []) (.seq (.txt [⟨[], false, []⟩, ⟨[], false, []⟩, ⟨[], false, [.adl 18 3 [.int .i64], .adl 7 4 [.bool]]⟩]) (.seq (.txt []) (.cut ⟨[true, false, true, true, false], 5, [.slot 9 (.hl 4 0), .modl 4 0 4 [.bool]], []⟩ (.seq (.txt []) (.block (.loop ⟨[true, false, true, true, false], 5, [.slot 7 (.hl 3 0), .slot 8 (.hl 2 0), .slot 9 (.hl 4 0), .slot 10 (.sc (.int .i64)), .modl 4 0 4 [.bool]], []⟩ (.seq (.seq (.txt []) (.cond .leaf .leaf)) (.cut ⟨[true, false, true, true, false], 5, [.slot 7 (.hl 3 0), .slot 8 (.hl 2 0), .slot 9 (.hl 4 0), .modl 4 0 4 [.bool]], [(10, true)]⟩ (.block (.txt [⟨[], false, []⟩, ⟨[], false, []⟩, ⟨[], false, []⟩, ⟨[], false, []⟩, ⟨[], false, []⟩, ⟨[], false, []⟩, ⟨[], true, []⟩])) (.txt [])))))) (.seq (.txt []) .leaf)))))))
set_option maxRecDepth 100000 in
theorem M_ref04_trapped_ok (σ : Hp) (g_Wide : Int) (g_High : Int) (g_Cells_A : Option Addr) (g_Cells_n : Nat) (g_Cells_c : Nat) (g_Heights_A : Option Addr) (g_Heights_n : Nat) (g_Heights_c : Nat) (open_A : Option Addr) (open_n : Nat) (open_c : Nat) (blocked : Int) (R : Value → Hp → Prop) (h : M_ref04_trapped σ g_Wide g_High g_Cells_A g_Cells_n g_Cells_c g_Heights_A g_Heights_n g_Heights_c open_A open_n open_c blocked R) : FCalls Try.prog 73 #[(.agg #[(.int .i64 g_Wide), (.int .i64 g_High), (.slice g_Cells_A g_Cells_n g_Cells_c), (.slice g_Heights_A g_Heights_n g_Heights_c)]), (.slice open_A open_n open_c), (.int .i64 blocked)] σ R :=
  fcalls_of_M mixed_M3 M_ref04_trapped_an Try.func73 rfl (by kernel_rfl) (by kernel_rfl) (M := M_ref04_trapped σ g_Wide g_High g_Cells_A g_Cells_n g_Cells_c g_Heights_A g_Heights_n g_Heights_c open_A open_n open_c blocked R) (by kernel_rfl) h
theorem M_ref04_trapped_enter : enterB Try.prog 73 = true := by kernel_rfl

abbrev N_ground_field_cells : FuncId := 74
/-- (*waltzer/ground.field).cells -/
def M_ground_field_cells (σ : Hp) (a0 : Option Addr) (a1 : Int) (a2_Cell : Int) (a2_Turned : Bool) (R : Value → Hp → Prop) : Prop :=
  dr a0 (fun b1 o2 => ldS σ b1 (o2 + 4) (fun A3 l3 _ => ix A3 l3 a1 5 (fun b4 a5 => ldI σ .i64 b4 a5 (fun n6 => 
    dr a0 (fun b7 o8 => ldS σ b7 (o8 + 4) (fun A9 l9 _ => ix A9 l9 a1 5 (fun b10 a11 => ldI σ .i64 b10 (a11 + 1) (fun n12 => 
    cut (α := Int → Int → Hp → Prop) (fun n16 n17 σ14 => ∀ _ : Nat → Value, cut (α := Hp → Prop) (fun  σ19 => 
    ∀ _ : Nat → Value, cut (α := Option Addr → Nat → Nat → Hp → Prop) (fun A24 l24 c24 σ22 => ∀ _ : Nat → Value, 
    rt σ22 R (.tuple #[(.slice A24 l24 c24), (.bool true)])) (fun J23 => ∃ I27 : Nat → Option Addr → Nat → Nat → Int → Hp → Prop, (∃ n280, I27 n280 none 0 0 0 σ19) ∧ 
    ∀ n28 : Nat, ∀ A29 : Option Addr, ∀ l29 : Nat, ∀ c29 : Nat, ∀ n30 : Int, ∀ σ26 : Hp, I27 n28 A29 l29 c29 n30 σ26 → ∀ _ : Nat → Value, bc (decide (n30 < n17)) (cut (α := Option Addr → Nat → Nat → Hp → Prop) (fun A34 l34 c34 σ32 => 
    ∀ _ : Nat → Value, wk .i64 (n30 + 1) (fun n35 => bk σ32 n28 (fun m36 σ37 => I27 m36 A34 l34 c34 n35 σ37))) (fun J33 => 
    ∃ I40 : Nat → Option Addr → Nat → Nat → Int → Hp → Prop, (∃ n410, I40 n410 A29 l29 c29 0 σ26) ∧ ∀ n41 : Nat, ∀ A42 : Option Addr, ∀ l42 : Nat, ∀ c42 : Nat, ∀ n43 : Int, ∀ σ39 : Hp, I40 n41 A42 l42 c42 n43 σ39 → ∀ _ : Nat → Value, bc (decide (n43 < n16)) (dr a0 (fun b44 o45 => 
    ldI σ39 .i64 b44 o45 (fun n46 => wk .i64 (n30 * n46) (fun n47 => wk .i64 (a2_Cell + n47) (fun n48 => 
    wk .i64 (n48 + n43) (fun n49 => adp 3 [.int .i64] A42 l42 c42 σ39 (fun (xs50 : List Int) σ51 => roomy (List.length xs50 + List.length ([n49] : List Int)) (wk .i64 (n43 + 1) (fun n52 => 
    bk σ51 n41 (fun m53 σ54 => exl 3 [.int .i64] (xs50 ++ ([n49] : List Int)) σ54 (fun A55 l55 c55 σ56 => 
    I40 m53 A55 l55 c55 n52 σ56))))))))))) (J33 A42 l42 c42 σ39))) (J23 A29 l29 c29 σ26))) (fun J20 => cut (α := Bool → Hp → Prop) (fun t60 σ58 => 
    ∀ _ : Nat → Value, bc t60 (rt σ58 R (.tuple #[(.slice none 0 0), (.bool false)])) (J20 σ58)) (fun J59 => 
    dr a0 (fun b61 o62 => ldS σ14 b61 (o62 + 2) (fun _ l63 _ => wk .i64 (((l63 : Nat) : Int) - 1) (fun n64 => 
    cl Try.prog (.func (.func 58) #[] #[]) #[(.int .i64 a2_Cell), (.int .i64 0), (.int .i64 n64)] σ14 (fun v65 σ66 => 
    ∃ t67 : Bool, (v65 = (.bool t67) ∧ bc (!t67) (bc true (J59 true σ66) (dr a0 (fun b68 o69 => ldI σ66 .i64 b68 o69 (fun n70 => 
    (n70 ≠ 0 ∧ wk .i64 (Int.tdiv a2_Cell n70) (fun n71 => wk .i64 (n71 + n17) (fun n72 => dr a0 (fun b73 o74 => 
    ldI σ66 .i64 b73 (o74 + 1) (fun n75 => J59 (decide (n75 < n72)) σ66))))))))) (dr a0 (fun b76 o77 => ldI σ66 .i64 b76 o77 (fun n78 => 
    (n78 ≠ 0 ∧ wk .i64 ((Int.tmod a2_Cell n78) + n16) (fun n79 => dr a0 (fun b80 o81 => ldI σ66 .i64 b80 o81 (fun n82 => 
    bc (decide (n82 < n79)) (J59 true σ66) (dr a0 (fun b83 o84 => ldI σ66 .i64 b83 o84 (fun n85 => (n85 ≠ 0 ∧ 
    wk .i64 (Int.tdiv a2_Cell n85) (fun n86 => wk .i64 (n86 + n17) (fun n87 => dr a0 (fun b88 o89 => ldI σ66 .i64 b88 (o89 + 1) (fun n90 => 
    J59 (decide (n90 < n87)) σ66))))))))))))))))))))))) (fun J15 => bc a2_Turned (J15 n12 n6 σ) (J15 n6 n12 σ))))))))))
def M_ground_field_cells_an : MAn := (.seq (.txt []) (.seq (.plan [] (.take 0 ⟨[], false, []⟩ (.take 1 ⟨[], false, []⟩ (.take 2 ⟨[], false, []⟩ (.take 3 ⟨[], false, []⟩ (.take 4 ⟨[], false, []⟩ (.take 5 ⟨[], false, []⟩ (.take 6 ⟨[], false, []⟩ (.take 7 ⟨[], false, []⟩ (.take 8 ⟨[], false, []⟩ (.take 9 ⟨[], false, []⟩ (.take 10 ⟨[], false, []⟩ (.take 11 ⟨[], false, []⟩ (.take 12 ⟨[], false, []⟩ (.take 13 ⟨[], false, []⟩ (.take 14 ⟨[], false, []⟩ (.take 15 ⟨[], false, []⟩ (.take 16 ⟨[], false, []⟩ (.take 17 ⟨[], false, []⟩ .done))))))))))))))))))) (.cut ⟨[true], 1, [.slot 5 (.hb 0 0), .slot 8 (.sc (.int .i64)), .slot 9 (.sc (.int .i64))], [(0, true)]⟩ (.seq (.txt []) (.cond (.txt []) .leaf)) (.cut ⟨[true], 1, [.slot 5 (.hb 0 0)], [(0, true), (8, true), (9, true)]⟩ (.cut ⟨[true], 1, [.slot 5 (.hb 0 0), .slot 79 (.sc (.bool))], [(0, true), (8, true), (9, true)]⟩ (.plan [9] (.take 0 ⟨[], false, []⟩ (.take 1 ⟨[], false, []⟩ (.take 2 ⟨[], false, []⟩ (.take 3 ⟨[], false, []⟩ (.take 4 ⟨[], false, []⟩ (.take 5 ⟨[], false, []⟩ (.take 6 ⟨[], false, []⟩ (.take 7 ⟨[], false, []⟩ (.take 8 ⟨[], false, []⟩ (.alt 9 false ⟨[], false, []⟩ (.take 10 ⟨[], false, []⟩ (.take 11 ⟨[], true, []⟩ (.take 12 ⟨[], false, []⟩ (.take 13 ⟨[], false, []⟩ (.take 14 ⟨[], false, []⟩ (.take 15 ⟨[], false, []⟩ (.take 16 ⟨[], false, []⟩ (.take 17 ⟨[], false, []⟩ (.take 18 ⟨[], false, []⟩ (.take 19 ⟨[], false, []⟩ (.take 20 ⟨[], false, []⟩ (.take 21 ⟨[], false, []⟩ (.take 22 ⟨[], false, []⟩ (.take 23 ⟨[], false, []⟩ (.take 24 ⟨[], false, []⟩ (.take 25 ⟨[], false, []⟩ (.take 26 ⟨[], false, []⟩ (.take 27 ⟨[], false, []⟩ (.take 28 ⟨[], false, []⟩ (.take 29 ⟨[], true, []⟩ (.take 30 ⟨[], false, []⟩ (.take 31 ⟨[], false, []⟩ (.take 32 ⟨[], false, []⟩ (.take 33 ⟨[], false, []⟩ (.take 34 ⟨[], false, []⟩ (.take 35 ⟨[], false, []⟩ (.take 36 ⟨[], false, []⟩ (.take 37 ⟨[], false, []⟩ (.take 38 ⟨[], false, []⟩ (.take 39 ⟨[], false, []⟩ (.take 40 ⟨[], false, []⟩ (.take 41 ⟨[], false, []⟩ (.take 42 ⟨[], false, []⟩ (.take 43 ⟨[], false, []⟩ (.take 44 ⟨[], false, []⟩ (.take 45 ⟨[], false, []⟩ (.take 46 ⟨[], false, []⟩ .done))))))))))))))))))))))))))))))))))))) .done))))))))))) (.cond (.seq (.txt []) .leaf) .leaf)) (.seq (.txt []) (.cut ⟨[true], 1, [.slot 10 (.sc (.slc))], []⟩ (.seq (.txt []) (.block (.loop ⟨[true], 1, [.slot 5 (.hb 0 0), .slot 10 (.sc (.slc)), .slot 81 (.sc (.int .i64))], [(0, true), (8, true), (80, true)]⟩ (.seq (.txt []) (.seq (.cond .leaf .leaf) (.cut ⟨[true], 1, [.slot 5 (.hb 0 0), .slot 10 (.sc (.slc))], [(0, true), (8, true), (80, true), (81, true)]⟩ (.block (.seq (.txt []) (.seq (.txt []) (.block (.loop ⟨[true], 1, [.slot 5 (.hb 0 0), .slot 10 (.sc (.slc)), .slot 85 (.sc (.int .i64))], [(0, true), (8, true), (11, true), (80, true), (81, true), (84, true)]⟩ (.seq (.txt []) (.seq (.cond .leaf .leaf) (.seq (.block (.seq (.txt []) (.plan [14] (.take 0 ⟨[], false, []⟩ (.take 1 ⟨[], false, []⟩ (.take 2 ⟨[], false, []⟩ (.take 3 ⟨[], false, []⟩ (.take 4 ⟨[], false, []⟩ (.take 5 ⟨[], false, []⟩ (.take 6 ⟨[], false, []⟩ (.take 7 ⟨[], false, []⟩ (.take 8 ⟨[], false, []⟩ (.take 9 ⟨[], false, []⟩ (.take 10 ⟨[], false, []⟩ (.take 11 ⟨[], false, []⟩ (.take 12 ⟨[], false, []⟩ (.alt 13 true ⟨[], false, []⟩ (.alt 14 false ⟨[], false, []⟩ (.take 15 ⟨[], false, []⟩ .done) .done) .done))))))))))))))))) (.txt []))))))))) (.txt []))))))) (.seq (.txt []) .leaf)))))))
set_option maxRecDepth 100000 in
theorem M_ground_field_cells_ok (σ : Hp) (a0 : Option Addr) (a1 : Int) (a2_Cell : Int) (a2_Turned : Bool) (R : Value → Hp → Prop) (h : M_ground_field_cells σ a0 a1 a2_Cell a2_Turned R) : FCalls Try.prog 74 #[(.pointer a0), (.int .i64 a1), (.agg #[(.int .i64 a2_Cell), (.bool a2_Turned)])] σ R :=
  fcalls_of_M mixed_M3 M_ground_field_cells_an Try.func74 rfl (by kernel_rfl) (by kernel_rfl) (M := M_ground_field_cells σ a0 a1 a2_Cell a2_Turned R) (by kernel_rfl) h
theorem M_ground_field_cells_enter : enterB Try.prog 74 = true := by kernel_rfl

abbrev N_ground_Lanes_1 : FuncId := 75
/-- waltzer/ground.Lanes$1 -/
def M_ground_Lanes_1 (σ : Hp) (c : Int) (cap0 : Option Addr) (cap1 : Option Addr) (cap2 : Option Addr) (R : Value → Hp → Prop) : Prop :=
  dr cap0 (fun b1 o2 => ldP σ b1 o2 (fun p3 => cl Try.prog (.func (.func 49) #[] #[]) #[(.pointer p3), (.int .i64 c)] σ (fun v4 σ5 => 
    ∃ A6 : Option Addr, ∃ l6 : Nat, ∃ c6 : Nat, (v4 = (.slice A6 l6 c6) ∧ adp 3 [.int .i64] A6 l6 c6 σ5 (fun (xs7 : List Int) σ8 => 
    exl 3 [.int .i64] xs7 σ8 (fun A9 l9 c9 σ10 => cl Try.prog (.func (.func 76) #[] #[]) #[(.slice A9 l9 c9), (.func (.func 77) #[] #[(.pointer cap0), (.pointer cap1), (.pointer cap2)])] σ10 (fun v11 σ12 => 
    ∃ t13 : Bool, (v11 = (.bool t13) ∧ rt σ12 R (.bool t13)))))))))
def M_ground_Lanes_1_an : MAn := (.seq (.txt []) (.seq (.txt [⟨[], false, []⟩, ⟨[], false, []⟩, ⟨[], false, [.adl 8 3 [.int .i64]]⟩]) .leaf))
set_option maxRecDepth 100000 in
theorem M_ground_Lanes_1_ok (σ : Hp) (c : Int) (cap0 : Option Addr) (cap1 : Option Addr) (cap2 : Option Addr) (R : Value → Hp → Prop) (h : M_ground_Lanes_1 σ c cap0 cap1 cap2 R) : FCalls Try.prog 75 #[(.int .i64 c), (.pointer cap0), (.pointer cap1), (.pointer cap2)] σ R :=
  fcalls_of_M mixed_M3 M_ground_Lanes_1_an Try.func75 rfl (by kernel_rfl) (by kernel_rfl) (M := M_ground_Lanes_1 σ c cap0 cap1 cap2 R) (by kernel_rfl) h
theorem M_ground_Lanes_1_enter : enterB Try.prog 75 = true := by kernel_rfl

abbrev N_slices_ContainsFunc_int : FuncId := 76
/-- slices.ContainsFunc[[]int,int] -/
def M_slices_ContainsFunc_int (σ : Hp) (s_A : Option Addr) (s_n : Nat) (s_c : Nat) (f : Value) (R : Value → Hp → Prop) : Prop :=
  cl Try.prog (.func (.func 51) #[] #[]) #[(.slice s_A s_n s_c), f] σ (fun v1 σ2 => ∃ n3 : Int, (v1 = (.int .i64 n3) ∧ 
    rt σ2 R (.bool (decide ((0 : Int) ≤ n3)))))
def M_slices_ContainsFunc_int_an : MAn := (.seq (.txt []) (.seq (.txt []) .leaf))
set_option maxRecDepth 100000 in
theorem M_slices_ContainsFunc_int_ok (σ : Hp) (s_A : Option Addr) (s_n : Nat) (s_c : Nat) (f : Value) (R : Value → Hp → Prop) (h : M_slices_ContainsFunc_int σ s_A s_n s_c f R) : FCalls Try.prog 76 #[(.slice s_A s_n s_c), f] σ R :=
  fcalls_of_M mixed_M3 M_slices_ContainsFunc_int_an Try.func76 rfl (by kernel_rfl) (by kernel_rfl) (M := M_slices_ContainsFunc_int σ s_A s_n s_c f R) (by kernel_rfl) h
theorem M_slices_ContainsFunc_int_enter : enterB Try.prog 76 = true := by kernel_rfl

abbrev N_ground_Lanes_1_1 : FuncId := 77
/-- waltzer/ground.Lanes$1$1 -/
def M_ground_Lanes_1_1 (σ : Hp) (k : Int) (cap0 : Option Addr) (cap1 : Option Addr) (cap2 : Option Addr) (R : Value → Hp → Prop) : Prop :=
  dr cap0 (fun b1 o2 => ldP σ b1 o2 (fun p3 => cl Try.prog (.func (.func 46) #[] #[]) #[(.pointer p3), (.int .i64 k)] σ (fun v4 σ5 => 
    ∃ t6 : Bool, (v4 = (.bool t6) ∧ bc t6 (dr cap1 (fun b7 o8 => ldS σ5 b7 o8 (fun A9 l9 _ => ix A9 l9 k 1 (fun b10 a11 => 
    ldI σ5 .i64 b10 a11 (fun n12 => dr cap2 (fun b13 o14 => ldI σ5 .i64 b13 o14 (fun n15 => cl Try.prog (.func (.func 58) #[] #[]) #[(.int .i64 n12), (.int .i64 0), (.int .i64 n15)] σ5 (fun v16 σ17 => 
    ∃ t18 : Bool, (v16 = (.bool t18) ∧ rt σ17 R (.bool t18)))))))))) (rt σ5 R (.bool false))))))
def M_ground_Lanes_1_1_an : MAn := (.seq (.txt []) (.seq (.plan [2, 9] (.take 0 ⟨[], false, []⟩ (.take 1 ⟨[], false, []⟩ (.alt 2 false ⟨[], false, []⟩ (.take 3 ⟨[], true, []⟩ (.take 4 ⟨[], false, []⟩ (.take 5 ⟨[], false, []⟩ (.take 6 ⟨[], false, []⟩ (.take 7 ⟨[], false, []⟩ (.take 8 ⟨[], false, []⟩ (.alt 9 false ⟨[], false, []⟩ (.take 10 ⟨[], false, []⟩ (.take 11 ⟨[], false, []⟩ .done)) .done))))))) .done)))) .leaf))
set_option maxRecDepth 100000 in
theorem M_ground_Lanes_1_1_ok (σ : Hp) (k : Int) (cap0 : Option Addr) (cap1 : Option Addr) (cap2 : Option Addr) (R : Value → Hp → Prop) (h : M_ground_Lanes_1_1 σ k cap0 cap1 cap2 R) : FCalls Try.prog 77 #[(.int .i64 k), (.pointer cap0), (.pointer cap1), (.pointer cap2)] σ R :=
  fcalls_of_M mixed_M3 M_ground_Lanes_1_1_an Try.func77 rfl (by kernel_rfl) (by kernel_rfl) (M := M_ground_Lanes_1_1 σ k cap0 cap1 cap2 R) (by kernel_rfl) h
theorem M_ground_Lanes_1_1_enter : enterB Try.prog 77 = true := by kernel_rfl

abbrev N_ref04_Cover : FuncId := 78
/-- waltzer/waltzerref04.Cover -/
def M_ref04_Cover (σ : Hp) (a0_Wide : Int) (a0_High : Int) (_ : Option Addr) (a0_Cells_n : Nat) (_ : Nat) (_ : Option Addr) (_ : Nat) (_ : Nat) (a1_Wide : Int) (a1_High : Int) (_ : Int) (_ : Int) (_ : Int) (a2_Cell : Int) (a2_Turned : Bool) (R : Value → Hp → Prop) : Prop :=
  wk .i64 (((a0_Cells_n : Nat) : Int) - 1) (fun n1 => cl Try.prog (.func (.func 53) #[] #[]) #[(.int .i64 a2_Cell), (.int .i64 0), (.int .i64 n1)] σ (fun v2 σ3 => 
    ∃ t4 : Bool, (v2 = (.bool t4) ∧ bc (!t4) (rt σ3 R (.tuple #[(.slice none 0 0), (.bool false)])) (cut (α := Int → Int → Hp → Prop) (fun n8 n9 σ6 => 
    ∀ _ : Nat → Value, (a0_Wide ≠ 0 ∧ (a0_Wide ≠ 0 ∧ wk .i64 (Int.tdiv a2_Cell a0_Wide) (fun n10 => cut (α := Hp → Prop) (fun  σ12 => 
    ∀ _ : Nat → Value, cut (α := Option Addr → Nat → Nat → Hp → Prop) (fun A17 l17 c17 σ15 => ∀ _ : Nat → Value, 
    rt σ15 R (.tuple #[(.slice A17 l17 c17), (.bool true)])) (fun J16 => ∃ I20 : Nat → Option Addr → Nat → Nat → Int → Hp → Prop, (∃ n210, I20 n210 none 0 0 n10 σ12) ∧ 
    ∀ n21 : Nat, ∀ A22 : Option Addr, ∀ l22 : Nat, ∀ c22 : Nat, ∀ n23 : Int, ∀ σ19 : Hp, I20 n21 A22 l22 c22 n23 σ19 → ∀ _ : Nat → Value, wk .i64 (n10 + n9) (fun n24 => 
    bc (decide (n23 < n24)) (cut (α := Option Addr → Nat → Nat → Hp → Prop) (fun A28 l28 c28 σ26 => ∀ _ : Nat → Value, 
    wk .i64 (n23 + 1) (fun n29 => bk σ26 n21 (fun m30 σ31 => I20 m30 A28 l28 c28 n29 σ31))) (fun J27 => ∃ I34 : Nat → Option Addr → Nat → Nat → Int → Hp → Prop, (∃ n350, I34 n350 A22 l22 c22 (Int.tmod a2_Cell a0_Wide) σ19) ∧ 
    ∀ n35 : Nat, ∀ A36 : Option Addr, ∀ l36 : Nat, ∀ c36 : Nat, ∀ n37 : Int, ∀ σ33 : Hp, I34 n35 A36 l36 c36 n37 σ33 → ∀ _ : Nat → Value, wk .i64 ((Int.tmod a2_Cell a0_Wide) + n8) (fun n38 => 
    bc (decide (n37 < n38)) (wk .i64 (n23 * a0_Wide) (fun n39 => wk .i64 (n39 + n37) (fun n40 => adp 3 [.int .i64] A36 l36 c36 σ33 (fun (xs41 : List Int) σ42 => 
    roomy (List.length xs41 + List.length ([n40] : List Int)) (wk .i64 (n37 + 1) (fun n43 => bk σ42 n35 (fun m44 σ45 => 
    exl 3 [.int .i64] (xs41 ++ ([n40] : List Int)) σ45 (fun A46 l46 c46 σ47 => I34 m44 A46 l46 c46 n43 σ47)))))))) (J27 A36 l36 c36 σ33)))) (J16 A22 l22 c22 σ19)))) (fun J13 => 
    cut (α := Bool → Hp → Prop) (fun t51 σ49 => ∀ _ : Nat → Value, bc t51 (rt σ49 R (.tuple #[(.slice none 0 0), (.bool false)])) (J13 σ49)) (fun J50 => 
    wk .i64 ((Int.tmod a2_Cell a0_Wide) + n8) (fun n52 => bc (decide (a0_Wide < n52)) (J50 true σ6) (wk .i64 (n10 + n9) (fun n53 => 
    J50 (decide (a0_High < n53)) σ6))))))))) (fun J7 => bc a2_Turned (J7 a1_High a1_Wide σ3) (J7 a1_Wide a1_High σ3))))))
def M_ref04_Cover_an : MAn := (.seq (.txt []) (.seq (.seq (.txt []) (.cond (.seq (.txt []) .leaf) .leaf)) (.seq (.plan [] (.take 0 ⟨[], false, []⟩ (.take 1 ⟨[], false, []⟩ (.take 2 ⟨[], false, []⟩ (.take 3 ⟨[], false, []⟩ (.take 4 ⟨[], false, []⟩ (.take 5 ⟨[], false, []⟩ .done))))))) (.cut ⟨[true, true, true], 3, [.slot 3 (.hb 0 0), .slot 5 (.hb 2 0), .slot 8 (.sc (.int .i64)), .slot 9 (.sc (.int .i64))], []⟩ (.seq (.txt []) (.cond (.plan [] (.take 0 ⟨[], false, []⟩ (.take 1 ⟨[], false, []⟩ (.take 2 ⟨[], false, []⟩ (.take 3 ⟨[], false, []⟩ (.take 4 ⟨[], false, []⟩ (.take 5 ⟨[], false, []⟩ .done))))))) .leaf)) (.seq (.plan [] (.take 0 ⟨[], false, []⟩ (.take 1 ⟨[], false, []⟩ (.take 2 ⟨[], false, []⟩ (.take 3 ⟨[], false, []⟩ (.take 4 ⟨[], false, []⟩ (.take 5 ⟨[], false, []⟩ (.take 6 ⟨[], false, []⟩ (.take 7 ⟨[], false, []⟩ (.take 8 ⟨[], false, []⟩ (.take 9 ⟨[], false, []⟩ (.take 10 ⟨[], false, []⟩ (.take 11 ⟨[], false, []⟩ .done))))))))))))) (.cut ⟨[true, true, true], 3, [.slot 3 (.hb 0 0)], [(8, true), (9, true), (10, true), (11, true)]⟩ (.cut ⟨[true, true, true], 3, [.slot 3 (.hb 0 0), .slot 56 (.sc (.bool))], [(8, true), (9, true), (10, true), (11, true)]⟩ (.txt [⟨[], false, []⟩, ⟨[], false, []⟩, ⟨[], false, []⟩, ⟨[], false, []⟩, ⟨[], false, []⟩, ⟨[], false, []⟩, ⟨[], true, []⟩]) (.cond (.seq (.txt []) .leaf) .leaf)) (.seq (.txt []) (.cut ⟨[true, true, true], 3, [.slot 12 (.sc (.slc))], []⟩ (.seq (.txt []) (.block (.loop ⟨[true, true, true], 3, [.slot 3 (.hb 0 0), .slot 12 (.sc (.slc)), .slot 13 (.sc (.int .i64))], [(8, true), (9, true), (10, true), (11, true)]⟩ (.seq (.seq (.txt []) (.cond .leaf .leaf)) (.cut ⟨[true, true, true], 3, [.slot 3 (.hb 0 0), .slot 12 (.sc (.slc))], [(8, true), (9, true), (10, true), (11, true), (13, true)]⟩ (.block (.seq (.txt []) (.block (.loop ⟨[true, true, true], 3, [.slot 3 (.hb 0 0), .slot 12 (.sc (.slc)), .slot 14 (.sc (.int .i64))], [(8, true), (9, true), (10, true), (11, true), (13, true)]⟩ (.seq (.seq (.txt []) (.cond .leaf .leaf)) (.seq (.block (.txt [])) (.txt []))))))) (.txt [])))))) (.seq (.txt []) .leaf)))))))))
set_option maxRecDepth 100000 in
theorem M_ref04_Cover_ok (σ : Hp) (a0_Wide : Int) (a0_High : Int) (a0_Cells_A : Option Addr) (a0_Cells_n : Nat) (a0_Cells_c : Nat) (a0_Heights_A : Option Addr) (a0_Heights_n : Nat) (a0_Heights_c : Nat) (a1_Wide : Int) (a1_High : Int) (a1_Slope : Int) (a1_Years : Int) (a1_Wish : Int) (a2_Cell : Int) (a2_Turned : Bool) (R : Value → Hp → Prop) (h : M_ref04_Cover σ a0_Wide a0_High a0_Cells_A a0_Cells_n a0_Cells_c a0_Heights_A a0_Heights_n a0_Heights_c a1_Wide a1_High a1_Slope a1_Years a1_Wish a2_Cell a2_Turned R) : FCalls Try.prog 78 #[(.agg #[(.int .i64 a0_Wide), (.int .i64 a0_High), (.slice a0_Cells_A a0_Cells_n a0_Cells_c), (.slice a0_Heights_A a0_Heights_n a0_Heights_c)]), (.agg #[(.int .i64 a1_Wide), (.int .i64 a1_High), (.int .i64 a1_Slope), (.int .i64 a1_Years), (.int .i64 a1_Wish)]), (.agg #[(.int .i64 a2_Cell), (.bool a2_Turned)])] σ R :=
  fcalls_of_M mixed_M3 M_ref04_Cover_an Try.func78 rfl (by kernel_rfl) (by kernel_rfl) (M := M_ref04_Cover σ a0_Wide a0_High a0_Cells_A a0_Cells_n a0_Cells_c a0_Heights_A a0_Heights_n a0_Heights_c a1_Wide a1_High a1_Slope a1_Years a1_Wish a2_Cell a2_Turned R) (by kernel_rfl) h
theorem M_ref04_Cover_enter : enterB Try.prog 78 = true := by kernel_rfl

abbrev N_ground_Leave_1 : FuncId := 79
/-- waltzer/ground.Leave$1 -/
def M_ground_Leave_1 (σ : Hp) (c : Int) (cap0 : Option Addr) (R : Value → Hp → Prop) : Prop :=
  dr cap0 (fun b1 o2 => ldS σ b1 o2 (fun A3 l3 _ => ix A3 l3 c 1 (fun b4 a5 => ldI σ .i64 b4 a5 (fun n6 => 
    rt σ R (.bool (decide ((0 : Int) ≤ n6)))))))
def M_ground_Leave_1_an : MAn := (.seq (.txt []) (.seq (.txt []) .leaf))
set_option maxRecDepth 100000 in
theorem M_ground_Leave_1_ok (σ : Hp) (c : Int) (cap0 : Option Addr) (R : Value → Hp → Prop) (h : M_ground_Leave_1 σ c cap0 R) : FCalls Try.prog 79 #[(.int .i64 c), (.pointer cap0)] σ R :=
  fcalls_of_M mixed_M3 M_ground_Leave_1_an Try.func79 rfl (by kernel_rfl) (by kernel_rfl) (M := M_ground_Leave_1 σ c cap0 R) (by kernel_rfl) h
theorem M_ground_Leave_1_enter : enterB Try.prog 79 = true := by kernel_rfl

abbrev N_ground_Leave_2 : FuncId := 80
/-- waltzer/ground.Leave$2 -/
def M_ground_Leave_2 (σ : Hp) (a : Int) (b : Int) (cap0 : Option Addr) (R : Value → Hp → Prop) : Prop :=
  dr cap0 (fun b1 o2 => ldS σ b1 o2 (fun A3 l3 _ => ix A3 l3 a 1 (fun b4 a5 => ldI σ .i64 b4 a5 (fun n6 => 
    dr cap0 (fun b7 o8 => ldS σ b7 o8 (fun A9 l9 _ => ix A9 l9 b 1 (fun b10 a11 => ldI σ .i64 b10 a11 (fun n12 => 
    wk .i64 (n6 - n12) (fun n13 => rt σ R (.int .i64 n13))))))))))
def M_ground_Leave_2_an : MAn := (.seq (.txt []) (.seq (.plan [] (.take 0 ⟨[], false, []⟩ (.take 1 ⟨[], false, []⟩ (.take 2 ⟨[], false, []⟩ (.take 3 ⟨[], false, []⟩ (.take 4 ⟨[], false, []⟩ (.take 5 ⟨[], false, []⟩ (.take 6 ⟨[], false, []⟩ (.take 7 ⟨[], false, []⟩ (.take 8 ⟨[], false, []⟩ (.take 9 ⟨[], false, []⟩ .done))))))))))) .leaf))
set_option maxRecDepth 100000 in
theorem M_ground_Leave_2_ok (σ : Hp) (a : Int) (b : Int) (cap0 : Option Addr) (R : Value → Hp → Prop) (h : M_ground_Leave_2 σ a b cap0 R) : FCalls Try.prog 80 #[(.int .i64 a), (.int .i64 b), (.pointer cap0)] σ R :=
  fcalls_of_M mixed_M3 M_ground_Leave_2_an Try.func80 rfl (by kernel_rfl) (by kernel_rfl) (M := M_ground_Leave_2 σ a b cap0 R) (by kernel_rfl) h
theorem M_ground_Leave_2_enter : enterB Try.prog 80 = true := by kernel_rfl

abbrev N_slices_Clone_int : FuncId := 81
/-- slices.Clone[[]int,int] -/
def M_slices_Clone_int (σ : Hp) (s_A : Option Addr) (s_n : Nat) (_ : Nat) (R : Value → Hp → Prop) : Prop :=
  bc ((s_A).isNone) (rt σ R (.slice none 0 0)) (∃ ys1 : List Int, RdS [.int .i64] σ s_A s_n ys1 ∧ roomy (List.length ([] : List Int) + List.length ys1) (exl 3 [.int .i64] (([] : List Int) ++ ys1) σ (fun A2 l2 c2 σ3 => 
    rt σ3 R (.slice A2 l2 c2))))
def M_slices_Clone_int_an : MAn := (.seq (.txt []) (.seq (.seq (.txt []) (.cond (.seq (.txt []) .leaf) .leaf)) (.seq (.txt []) .leaf)))
set_option maxRecDepth 100000 in
theorem M_slices_Clone_int_ok (σ : Hp) (s_A : Option Addr) (s_n : Nat) (s_c : Nat) (R : Value → Hp → Prop) (h : M_slices_Clone_int σ s_A s_n s_c R) : FCalls Try.prog 81 #[(.slice s_A s_n s_c)] σ R :=
  fcalls_of_M mixed_M3 M_slices_Clone_int_an Try.func81 rfl (by kernel_rfl) (by kernel_rfl) (M := M_slices_Clone_int σ s_A s_n s_c R) (by kernel_rfl) h
theorem M_slices_Clone_int_enter : enterB Try.prog 81 = true := by kernel_rfl

abbrev N_ground_Leave_3 : FuncId := 82
/-- waltzer/ground.Leave$3 -/
def M_ground_Leave_3 (σ : Hp) (k : Int) (cap0 : Option Addr) (cap1 : Option Addr) (cap2 : Option Addr) (R : Value → Hp → Prop) : Prop :=
  dr cap0 (fun b1 o2 => ldS σ b1 o2 (fun A3 l3 _ => ix A3 l3 k 1 (fun b4 a5 => ldI σ .i64 b4 a5 (fun n6 => 
    dr cap0 (fun b7 o8 => ldS σ b7 o8 (fun A9 l9 _ => dr cap1 (fun b10 o11 => ldI σ .i64 b10 o11 (fun n12 => 
    ix A9 l9 n12 1 (fun b13 a14 => ldI σ .i64 b13 a14 (fun n15 => wk .i64 (n15 - 1) (fun n16 => bc (decide (n6 = n16)) (dr cap2 (fun b17 o18 => 
    ldS σ b17 o18 (fun A19 l19 _ => ix A19 l19 k 1 (fun b20 a21 => ldI σ .i64 b20 a21 (fun n22 => rt σ R (.bool (decide (n22 < 4)))))))) (rt σ R (.bool false)))))))))))))
def M_ground_Leave_3_an : MAn := (.seq (.txt []) (.seq (.plan [] (.take 0 ⟨[], false, []⟩ (.take 1 ⟨[], false, []⟩ (.take 2 ⟨[], false, []⟩ (.take 3 ⟨[], false, []⟩ (.take 4 ⟨[], false, []⟩ (.take 5 ⟨[], false, []⟩ (.take 6 ⟨[], false, []⟩ (.take 7 ⟨[], false, []⟩ (.take 8 ⟨[], false, []⟩ (.take 9 ⟨[], false, []⟩ (.take 10 ⟨[], true, []⟩ (.take 11 ⟨[], false, []⟩ (.take 12 ⟨[], false, []⟩ (.take 13 ⟨[], false, []⟩ (.take 14 ⟨[], false, []⟩ (.take 15 ⟨[], false, []⟩ (.take 16 ⟨[], false, []⟩ (.take 17 ⟨[], false, []⟩ .done))))))))))))))))))) .leaf))
set_option maxRecDepth 100000 in
theorem M_ground_Leave_3_ok (σ : Hp) (k : Int) (cap0 : Option Addr) (cap1 : Option Addr) (cap2 : Option Addr) (R : Value → Hp → Prop) (h : M_ground_Leave_3 σ k cap0 cap1 cap2 R) : FCalls Try.prog 82 #[(.int .i64 k), (.pointer cap0), (.pointer cap1), (.pointer cap2)] σ R :=
  fcalls_of_M mixed_M3 M_ground_Leave_3_an Try.func82 rfl (by kernel_rfl) (by kernel_rfl) (M := M_ground_Leave_3 σ k cap0 cap1 cap2 R) (by kernel_rfl) h
theorem M_ground_Leave_3_enter : enterB Try.prog 82 = true := by kernel_rfl

abbrev N_ref04_sum : FuncId := 83
/-- waltzer/waltzerref04.sum -/
def M_ref04_sum (σ : Hp) (l_A : Option Addr) (l_n : Nat) (_ : Nat) (R : Value → Hp → Prop) : Prop :=
  cut (α := Int → Hp → Prop) (fun n4 σ2 => ∀ _ : Nat → Value, rt σ2 R (.int .i64 n4)) (fun J3 => ∃ I7 : Nat → Int → Int → Hp → Prop, (∃ n80, I7 n80 0 0 σ) ∧ 
    ∀ n8 : Nat, ∀ n9 : Int, ∀ n10 : Int, ∀ σ6 : Hp, I7 n8 n9 n10 σ6 → ∀ _ : Nat → Value, bc (decide (n10 < ((l_n : Nat) : Int))) (ix l_A l_n n10 1 (fun b11 a12 => 
    ldI σ6 .i64 b11 a12 (fun n13 => wk .i64 (n9 + n13) (fun n14 => wk .i64 (n10 + 1) (fun n15 => bk σ6 n8 (fun m16 σ17 => 
    I7 m16 n14 n15 σ17)))))) (J3 n9 σ6))
def M_ref04_sum_an : MAn := (.seq (.txt []) (.seq (.txt []) (.cut ⟨[], 0, [.slot 3 (.sc (.int .i64))], []⟩ (.seq (.txt []) (.block (.loop ⟨[], 0, [.slot 3 (.sc (.int .i64)), .slot 4 (.sc (.int .i64))], [(0, true)]⟩ (.seq (.seq (.txt []) (.cond .leaf .leaf)) (.seq (.block (.txt [])) (.txt [])))))) (.seq (.txt []) .leaf))))
set_option maxRecDepth 100000 in
theorem M_ref04_sum_ok (σ : Hp) (l_A : Option Addr) (l_n : Nat) (l_c : Nat) (R : Value → Hp → Prop) (h : M_ref04_sum σ l_A l_n l_c R) : FCalls Try.prog 83 #[(.slice l_A l_n l_c)] σ R :=
  fcalls_of_M mixed_M3 M_ref04_sum_an Try.func83 rfl (by kernel_rfl) (by kernel_rfl) (M := M_ref04_sum σ l_A l_n l_c R) (by kernel_rfl) h
theorem M_ref04_sum_enter : enterB Try.prog 83 = true := by kernel_rfl

abbrev N_ref04_goes : FuncId := 84
/-- waltzer/waltzerref04.goes -/
def M_ref04_goes (σ : Hp) (a0_Wide : Int) (a0_High : Int) (a0_Cells_A : Option Addr) (a0_Cells_n : Nat) (a0_Cells_c : Nat) (a0_Heights_A : Option Addr) (a0_Heights_n : Nat) (a0_Heights_c : Nat) (a1_A : Option Addr) (a1_n : Nat) (_ : Nat) (a2_A : Option Addr) (a2_n : Nat) (_ : Nat) (a3 : Int) (R : Value → Hp → Prop) : Prop :=
  ix a2_A a2_n a3 1 (fun b1 a2 => ldI σ .i64 b1 a2 (fun n3 => bc (decide (n3 = 0)) (rt σ R (.tuple #[])) (ix a0_Cells_A a0_Cells_n a3 1 (fun b4 a5 => 
    ldI σ .i64 b4 a5 (fun n6 => bc (decide (n6 = 3)) (ix a2_A a2_n a3 1 (fun b7 a8 => ldI σ .i64 b7 a8 (fun n9 => 
    wk .i64 (n9 - 1) (fun n10 => ix a2_A a2_n a3 1 (fun b11 a12 => st σ b11 a12 (.int .i64 n10) (fun σ13 => 
    rt σ13 R (.tuple #[]))))))) (cl Try.prog (.func (.func 34) #[] #[]) #[(.agg #[(.int .i64 a0_Wide), (.int .i64 a0_High), (.slice a0_Cells_A a0_Cells_n a0_Cells_c), (.slice a0_Heights_A a0_Heights_n a0_Heights_c)]), (.int .i64 a3)] σ (fun v14 σ15 => 
    ∃ A16 : Option Addr, ∃ l16 : Nat, ∃ c16 : Nat, (v14 = (.slice A16 l16 c16) ∧ adp 3 [.int .i64] A16 l16 c16 σ15 (fun (xs17 : List Int) σ18 => 
    ∃ I22 : Nat → Int → Hp → Prop, (∃ n230, I22 n230 0 σ18) ∧ ∀ n23 : Nat, ∀ n24 : Int, ∀ σ21 : Hp, I22 n23 n24 σ21 → ∀ _ : Nat → Value, bc (decide (n24 < ((List.length xs17 : Nat) : Int))) (cut (α := Hp → Prop) (fun  σ26 => 
    ∀ _ : Nat → Value, wk .i64 (n24 + 1) (fun n28 => bk σ26 n23 (fun m29 σ30 => I22 m29 n28 σ30))) (fun J27 => 
    cut (α := Bool → Hp → Prop) (fun t34 σ32 => ∀ _ : Nat → Value, bc t34 (ix a2_A a2_n a3 1 (fun b35 a36 => 
    ldI σ32 .i64 b35 a36 (fun n37 => wk .i64 (n37 - 1) (fun n38 => ix a2_A a2_n a3 1 (fun b39 a40 => st σ32 b39 a40 (.int .i64 n38) (fun σ41 => 
    (0 ≤ n24 ∧ n24 < ((List.length xs17 : Nat) : Int) ∧ lat xs17 ((n24 : Int).toNat) (fun r42 => ix a2_A a2_n r42 1 (fun b43 a44 => 
    ldI σ41 .i64 b43 a44 (fun n45 => wk .i64 (n45 + 1) (fun n46 => ix a2_A a2_n r42 1 (fun b47 a48 => st σ41 b47 a48 (.int .i64 n46) (fun σ49 => 
    rt σ49 R (.tuple #[])))))))))))))) (J27 σ32)) (fun J33 => (0 ≤ n24 ∧ n24 < ((List.length xs17 : Nat) : Int) ∧ 
    lat xs17 ((n24 : Int).toNat) (fun r50 => ix a1_A a1_n r50 1 (fun b51 a52 => ldI σ21 .i64 b51 a52 (fun n53 => 
    ix a1_A a1_n a3 1 (fun b54 a55 => ldI σ21 .i64 b54 a55 (fun n56 => wk .i64 (n56 - 1) (fun n57 => bc (decide (n53 = n57)) ((0 ≤ n24 ∧ 
    n24 < ((List.length xs17 : Nat) : Int) ∧ lat xs17 ((n24 : Int).toNat) (fun r58 => ix a2_A a2_n r58 1 (fun b59 a60 => 
    ldI σ21 .i64 b59 a60 (fun n61 => J33 (decide (n61 < 4)) σ21))))) (J33 false σ21))))))))))) (rt σ21 R (.tuple #[])))))))))))
def M_ref04_goes_an : MAn := (.seq (.txt []) (.seq (.seq (.txt []) (.cond .leaf .leaf)) (.seq (.seq (.txt []) (.cond (.seq (.txt []) .leaf) .leaf)) (.seq (.txt [⟨[], false, []⟩, ⟨[], false, []⟩, ⟨[], false, [.adl 29 3 [.int .i64]]⟩]) (.seq (.txt []) (.block (.loop ⟨[true, true], 2, [.slot 8 (.hl 1 0), .slot 9 (.sc (.int .i64))], [(1, true), (2, true), (3, true)]⟩ (.seq (.seq (.txt []) (.cond .leaf .leaf)) (.cut ⟨[true, true], 2, [.slot 8 (.hl 1 0)], [(1, true), (2, true), (3, true), (9, true)]⟩ (.block (.cut ⟨[true, true], 2, [.slot 8 (.hl 1 0), .slot 58 (.sc (.bool))], [(1, true), (2, true), (3, true), (9, true)]⟩ (.plan [] (.take 0 ⟨[], false, []⟩ (.take 1 ⟨[], false, []⟩ (.take 2 ⟨[], false, []⟩ (.take 3 ⟨[], false, []⟩ (.take 4 ⟨[], false, []⟩ (.take 5 ⟨[], false, []⟩ (.take 6 ⟨[], false, []⟩ (.take 7 ⟨[], false, []⟩ (.take 8 ⟨[], false, []⟩ (.take 9 ⟨[], false, []⟩ (.take 10 ⟨[], false, []⟩ (.take 11 ⟨[], false, []⟩ (.take 12 ⟨[], false, []⟩ (.take 13 ⟨[], true, []⟩ (.take 14 ⟨[], false, []⟩ (.take 15 ⟨[], false, []⟩ (.take 16 ⟨[], false, []⟩ (.take 17 ⟨[], false, []⟩ (.take 18 ⟨[], false, []⟩ (.take 19 ⟨[], false, []⟩ (.take 20 ⟨[], false, []⟩ (.take 21 ⟨[], false, []⟩ (.take 22 ⟨[], false, []⟩ .done)))))))))))))))))))))))) (.cond (.seq (.txt []) (.seq (.txt []) .leaf)) .leaf))) (.txt []))))))))))
set_option maxRecDepth 100000 in
theorem M_ref04_goes_ok (σ : Hp) (a0_Wide : Int) (a0_High : Int) (a0_Cells_A : Option Addr) (a0_Cells_n : Nat) (a0_Cells_c : Nat) (a0_Heights_A : Option Addr) (a0_Heights_n : Nat) (a0_Heights_c : Nat) (a1_A : Option Addr) (a1_n : Nat) (a1_c : Nat) (a2_A : Option Addr) (a2_n : Nat) (a2_c : Nat) (a3 : Int) (R : Value → Hp → Prop) (h : M_ref04_goes σ a0_Wide a0_High a0_Cells_A a0_Cells_n a0_Cells_c a0_Heights_A a0_Heights_n a0_Heights_c a1_A a1_n a1_c a2_A a2_n a2_c a3 R) : FCalls Try.prog 84 #[(.agg #[(.int .i64 a0_Wide), (.int .i64 a0_High), (.slice a0_Cells_A a0_Cells_n a0_Cells_c), (.slice a0_Heights_A a0_Heights_n a0_Heights_c)]), (.slice a1_A a1_n a1_c), (.slice a2_A a2_n a2_c), (.int .i64 a3)] σ R :=
  fcalls_of_M mixed_M3 M_ref04_goes_an Try.func84 rfl (by kernel_rfl) (by kernel_rfl) (M := M_ref04_goes σ a0_Wide a0_High a0_Cells_A a0_Cells_n a0_Cells_c a0_Heights_A a0_Heights_n a0_Heights_c a1_A a1_n a1_c a2_A a2_n a2_c a3 R) (by kernel_rfl) h
theorem M_ref04_goes_enter : enterB Try.prog 84 = true := by kernel_rfl

abbrev N_ground_withCell_1 : FuncId := 85
/-- waltzer/ground.withCell$1 -/
def M_ground_withCell_1 (σ : Hp) (c : Int) (cap0 : Option Addr) (R : Value → Hp → Prop) : Prop :=
  dr cap0 (fun b1 o2 => ldS σ b1 (o2 + 2) (fun _ l3 _ => wk .i64 (((l3 : Nat) : Int) - 1) (fun n4 => 
    cl Try.prog (.func (.func 58) #[] #[]) #[(.int .i64 c), (.int .i64 0), (.int .i64 n4)] σ (fun v5 σ6 => 
    ∃ t7 : Bool, (v5 = (.bool t7) ∧ rt σ6 R (.bool (!t7)))))))
def M_ground_withCell_1_an : MAn := (.seq (.txt []) (.seq (.txt []) .leaf))
set_option maxRecDepth 100000 in
theorem M_ground_withCell_1_ok (σ : Hp) (c : Int) (cap0 : Option Addr) (R : Value → Hp → Prop) (h : M_ground_withCell_1 σ c cap0 R) : FCalls Try.prog 85 #[(.int .i64 c), (.pointer cap0)] σ R :=
  fcalls_of_M mixed_M3 M_ground_withCell_1_an Try.func85 rfl (by kernel_rfl) (by kernel_rfl) (M := M_ground_withCell_1 σ c cap0 R) (by kernel_rfl) h
theorem M_ground_withCell_1_enter : enterB Try.prog 85 = true := by kernel_rfl

abbrev N_math_bits_Mul : FuncId := 86
/-- math/bits.Mul -/
def M_math_bits_Mul (σ : Hp) (x : Int) (y : Int) (R : Value → Hp → Prop) : Prop :=
  bc false (wk .u32 (x) (fun n1 => wk .u32 (y) (fun n2 => cl Try.prog (.func (.func 98) #[] #[]) #[(.int .u32 n1), (.int .u32 n2)] σ (fun v3 σ4 => 
    ∃ n5 : Int, ∃ n6 : Int, (v3 = (.tuple #[(.int .u32 n5), (.int .u32 n6)]) ∧ wk .u64 (n5) (fun n7 => wk .u64 (n6) (fun n8 => 
    rt σ4 R (.tuple #[(.int .u64 n7), (.int .u64 n8)])))))))) (cl Try.prog (.func (.func 99) #[] #[]) #[(.int .u64 x), (.int .u64 y)] σ (fun v9 σ10 => 
    ∃ n11 : Int, ∃ n12 : Int, (v9 = (.tuple #[(.int .u64 n11), (.int .u64 n12)]) ∧ rt σ10 R (.tuple #[(.int .u64 n11), (.int .u64 n12)]))))
def M_math_bits_Mul_an : MAn := (.seq (.txt []) (.seq (.cond (.seq (.txt []) (.seq (.txt []) .leaf)) .leaf) (.seq (.txt []) (.seq (.txt []) .leaf))))
set_option maxRecDepth 100000 in
theorem M_math_bits_Mul_ok (σ : Hp) (x : Int) (y : Int) (R : Value → Hp → Prop) (h : M_math_bits_Mul σ x y R) : FCalls Try.prog 86 #[(.int .u64 x), (.int .u64 y)] σ R :=
  fcalls_of_M mixed_M3 M_math_bits_Mul_an Try.func86 rfl (by kernel_rfl) (by kernel_rfl) (M := M_math_bits_Mul σ x y R) (by kernel_rfl) h
theorem M_math_bits_Mul_enter : enterB Try.prog 86 = true := by kernel_rfl

abbrev N_ref04_checkGround : FuncId := 87
/-- waltzer/waltzerref04.checkGround -/
def M_ref04_checkGround (σ : Hp) (g_Wide : Int) (g_High : Int) (g_Cells_A : Option Addr) (g_Cells_n : Nat) (_ : Nat) (g_Heights_A : Option Addr) (g_Heights_n : Nat) (_ : Nat) (R : Value → Hp → Prop) : Prop :=
  cut (α := Hp → Prop) (fun  σ2 => ∀ _ : Nat → Value, cut (α := Hp → Prop) (fun  σ5 => ∀ _ : Nat → Value, 
    rt σ5 R (.int .i64 0)) (fun J6 => ∃ I9 : Nat → Int → Hp → Prop, (∃ n100, I9 n100 0 σ2) ∧ ∀ n10 : Nat, ∀ n11 : Int, ∀ σ8 : Hp, I9 n10 n11 σ8 → ∀ _ : Nat → Value, bc (decide (n11 < ((g_Cells_n : Nat) : Int))) (cut (α := Hp → Prop) (fun  σ13 => 
    ∀ _ : Nat → Value, wk .i64 (n11 + 1) (fun n15 => bk σ13 n10 (fun m16 σ17 => I9 m16 n15 σ17))) (fun J14 => 
    cut (α := Bool → Hp → Prop) (fun t21 σ19 => ∀ _ : Nat → Value, bc t21 (rt σ19 R (.int .i64 40)) (J14 σ19)) (fun J20 => 
    ix g_Cells_A g_Cells_n n11 1 (fun b22 a23 => ldI σ8 .i64 b22 a23 (fun n24 => cl Try.prog (.func (.func 53) #[] #[]) #[(.int .i64 n24), (.int .i64 0), (.int .i64 3)] σ8 (fun v25 σ26 => 
    ∃ t27 : Bool, (v25 = (.bool t27) ∧ bc (!t27) (J20 true σ26) (ix g_Heights_A g_Heights_n n11 1 (fun b28 a29 => 
    ldI σ26 .i64 b28 a29 (fun n30 => cl Try.prog (.func (.func 53) #[] #[]) #[(.int .i64 n30), (.int .i64 0), (.int .i64 100)] σ26 (fun v31 σ32 => 
    ∃ t33 : Bool, (v31 = (.bool t33) ∧ J20 (!t33) σ32)))))))))))) (J6 σ8))) (fun J3 => cut (α := Bool → Hp → Prop) (fun t37 σ35 => 
    ∀ _ : Nat → Value, bc t37 (rt σ35 R (.int .i64 40)) (J3 σ35)) (fun J36 => cl Try.prog (.func (.func 53) #[] #[]) #[(.int .i64 g_Wide), (.int .i64 1), (.int .i64 8)] σ (fun v38 σ39 => 
    ∃ t40 : Bool, (v38 = (.bool t40) ∧ bc (!t40) (bc true (bc true (J36 true σ39) (J36 (!decide (((g_Heights_n : Nat) : Int) = ((g_Cells_n : Nat) : Int))) σ39)) (wk .i64 (g_Wide * g_High) (fun n41 => 
    bc (!decide (((g_Cells_n : Nat) : Int) = n41)) (J36 true σ39) (J36 (!decide (((g_Heights_n : Nat) : Int) = ((g_Cells_n : Nat) : Int))) σ39)))) (cl Try.prog (.func (.func 53) #[] #[]) #[(.int .i64 g_High), (.int .i64 1), (.int .i64 8)] σ39 (fun v42 σ43 => 
    ∃ t44 : Bool, (v42 = (.bool t44) ∧ bc (!t44) (bc true (J36 true σ43) (J36 (!decide (((g_Heights_n : Nat) : Int) = ((g_Cells_n : Nat) : Int))) σ43)) (wk .i64 (g_Wide * g_High) (fun n45 => 
    bc (!decide (((g_Cells_n : Nat) : Int) = n45)) (J36 true σ43) (J36 (!decide (((g_Heights_n : Nat) : Int) = ((g_Cells_n : Nat) : Int))) σ43))))))))))
def M_ref04_checkGround_an : MAn := (.seq (.txt []) (.cut ⟨[true], 1, [.slot 1 (.hb 0 0)], []⟩ (.cut ⟨[true], 1, [.slot 1 (.hb 0 0), .slot 33 (.sc (.bool))], []⟩ (.txt [⟨[], false, []⟩, ⟨[], false, []⟩, ⟨[], false, []⟩, ⟨[], false, []⟩, ⟨[], true, []⟩, ⟨[], false, []⟩, ⟨[], false, []⟩, ⟨[], false, []⟩, ⟨[], false, []⟩, ⟨[], false, []⟩, ⟨[], true, []⟩, ⟨[], false, []⟩, ⟨[], false, []⟩, ⟨[], false, []⟩, ⟨[], false, []⟩, ⟨[], false, []⟩, ⟨[], false, []⟩, ⟨[], false, []⟩, ⟨[], false, []⟩, ⟨[], false, []⟩, ⟨[], false, []⟩, ⟨[], true, []⟩]) (.cond (.seq (.txt []) .leaf) .leaf)) (.cut ⟨[true], 1, [], []⟩ (.seq (.txt []) (.block (.loop ⟨[true], 1, [.slot 1 (.hb 0 0), .slot 3 (.sc (.int .i64))], []⟩ (.seq (.seq (.txt []) (.cond .leaf .leaf)) (.cut ⟨[true], 1, [.slot 1 (.hb 0 0)], [(3, true)]⟩ (.block (.cut ⟨[true], 1, [.slot 1 (.hb 0 0), .slot 56 (.sc (.bool))], [(3, true)]⟩ (.txt [⟨[], false, []⟩, ⟨[], false, []⟩, ⟨[], false, []⟩, ⟨[], false, []⟩, ⟨[], false, []⟩, ⟨[], false, []⟩, ⟨[], false, []⟩, ⟨[], true, []⟩]) (.cond (.seq (.txt []) .leaf) .leaf))) (.txt [])))))) (.seq (.txt []) .leaf))))
set_option maxRecDepth 100000 in
theorem M_ref04_checkGround_ok (σ : Hp) (g_Wide : Int) (g_High : Int) (g_Cells_A : Option Addr) (g_Cells_n : Nat) (g_Cells_c : Nat) (g_Heights_A : Option Addr) (g_Heights_n : Nat) (g_Heights_c : Nat) (R : Value → Hp → Prop) (h : M_ref04_checkGround σ g_Wide g_High g_Cells_A g_Cells_n g_Cells_c g_Heights_A g_Heights_n g_Heights_c R) : FCalls Try.prog 87 #[(.agg #[(.int .i64 g_Wide), (.int .i64 g_High), (.slice g_Cells_A g_Cells_n g_Cells_c), (.slice g_Heights_A g_Heights_n g_Heights_c)])] σ R :=
  fcalls_of_M mixed_M3 M_ref04_checkGround_an Try.func87 rfl (by kernel_rfl) (by kernel_rfl) (M := M_ref04_checkGround σ g_Wide g_High g_Cells_A g_Cells_n g_Cells_c g_Heights_A g_Heights_n g_Heights_c R) (by kernel_rfl) h
theorem M_ref04_checkGround_enter : enterB Try.prog 87 = true := by kernel_rfl

abbrev N_ref04_fits : FuncId := 88
/-- waltzer/waltzerref04.fits -/
def M_ref04_fits (σ : Hp) (a0_Wide : Int) (a0_High : Int) (a0_Cells_A : Option Addr) (a0_Cells_n : Nat) (a0_Cells_c : Nat) (a0_Heights_A : Option Addr) (a0_Heights_n : Nat) (a0_Heights_c : Nat) (a1_Wide : Int) (a1_High : Int) (a1_Slope : Int) (a1_Years : Int) (a1_Wish : Int) (a2_Cell : Int) (a2_Turned : Bool) (R : Value → Hp → Prop) : Prop :=
  cl Try.prog (.func (.func 78) #[] #[]) #[(.agg #[(.int .i64 a0_Wide), (.int .i64 a0_High), (.slice a0_Cells_A a0_Cells_n a0_Cells_c), (.slice a0_Heights_A a0_Heights_n a0_Heights_c)]), (.agg #[(.int .i64 a1_Wide), (.int .i64 a1_High), (.int .i64 a1_Slope), (.int .i64 a1_Years), (.int .i64 a1_Wish)]), (.agg #[(.int .i64 a2_Cell), (.bool a2_Turned)])] σ (fun v1 σ2 => 
    ∃ A3 : Option Addr, ∃ l3 : Nat, ∃ c3 : Nat, ∃ t4 : Bool, (v1 = (.tuple #[(.slice A3 l3 c3), (.bool t4)]) ∧ 
    cut (α := Hp → Prop) (fun  σ6 => ∀ _ : Nat → Value, ix A3 l3 0 1 (fun b8 a9 => ldI σ6 .i64 b8 a9 (fun n10 => 
    ix a0_Heights_A a0_Heights_n n10 1 (fun b11 a12 => ldI σ6 .i64 b11 a12 (fun n13 => ix A3 l3 0 1 (fun b14 a15 => 
    ldI σ6 .i64 b14 a15 (fun n16 => ix a0_Heights_A a0_Heights_n n16 1 (fun b17 a18 => ldI σ6 .i64 b17 a18 (fun n19 => 
    cut (α := Int → Int → Hp → Prop) (fun n23 n24 σ21 => ∀ _ : Nat → Value, wk .i64 (n24 - n23) (fun n25 => 
    rt σ21 R (.bool (decide (n25 ≤ a1_Slope))))) (fun J22 => ∃ I28 : Nat → Int → Int → Int → Hp → Prop, (∃ n290, I28 n290 n13 n19 0 σ6) ∧ 
    ∀ n29 : Nat, ∀ n30 : Int, ∀ n31 : Int, ∀ n32 : Int, ∀ σ27 : Hp, I28 n29 n30 n31 n32 σ27 → ∀ _ : Nat → Value, bc (decide (n32 < ((l3 : Nat) : Int))) (ix A3 l3 n32 1 (fun b33 a34 => 
    ldI σ27 .i64 b33 a34 (fun n35 => ix a0_Cells_A a0_Cells_n n35 1 (fun b36 a37 => ldI σ27 .i64 b36 a37 (fun n38 => 
    bc (!decide (n38 = 0)) (rt σ27 R (.bool false)) (ix A3 l3 n32 1 (fun b39 a40 => ldI σ27 .i64 b39 a40 (fun n41 => 
    ix a0_Heights_A a0_Heights_n n41 1 (fun b42 a43 => ldI σ27 .i64 b42 a43 (fun n44 => ix A3 l3 n32 1 (fun b45 a46 => 
    ldI σ27 .i64 b45 a46 (fun n47 => ix a0_Heights_A a0_Heights_n n47 1 (fun b48 a49 => ldI σ27 .i64 b48 a49 (fun n50 => 
    wk .i64 (n32 + 1) (fun n51 => bk σ27 n29 (fun m52 σ53 => I28 m52 (if n44 < n30 then n44 else n30) (if n50 > n31 then n50 else n31) n51 σ53)))))))))))))))) (J22 n30 n31 σ27))))))))))) (fun J7 => 
    cut (α := Bool → Hp → Prop) (fun t57 σ55 => ∀ _ : Nat → Value, bc t57 (rt σ55 R (.bool false)) (J7 σ55)) (fun J56 => 
    bc (!t4) (J56 true σ2) (bc a2_Turned (J56 (decide (a1_Wide = a1_High)) σ2) (J56 false σ2))))))
def M_ref04_fits_an : MAn := (.seq (.txt []) (.seq (.txt []) (.cut ⟨[true, true, true], 3, [.slot 3 (.hb 0 0), .slot 4 (.hb 1 0)], [(7, true)]⟩ (.cut ⟨[true, true, true], 3, [.slot 3 (.hb 0 0), .slot 4 (.hb 1 0), .slot 31 (.sc (.bool))], [(7, true)]⟩ (.txt [⟨[], false, []⟩, ⟨[], false, []⟩, ⟨[], true, []⟩, ⟨[], false, []⟩, ⟨[], false, []⟩, ⟨[], true, []⟩]) (.cond (.seq (.txt []) .leaf) .leaf)) (.seq (.plan [] (.take 0 ⟨[], false, []⟩ (.take 1 ⟨[], false, []⟩ (.take 2 ⟨[], false, []⟩ (.take 3 ⟨[], false, []⟩ (.take 4 ⟨[], false, []⟩ (.take 5 ⟨[], false, []⟩ (.take 6 ⟨[], false, []⟩ (.take 7 ⟨[], false, []⟩ (.take 8 ⟨[], false, []⟩ (.take 9 ⟨[], false, []⟩ (.take 10 ⟨[], false, []⟩ (.take 11 ⟨[], false, []⟩ (.take 12 ⟨[], false, []⟩ (.take 13 ⟨[], false, []⟩ (.take 14 ⟨[], false, []⟩ (.take 15 ⟨[], false, []⟩ .done))))))))))))))))) (.cut ⟨[true, true, true], 3, [.slot 4 (.hb 1 0), .slot 9 (.sc (.int .i64)), .slot 10 (.sc (.int .i64))], []⟩ (.seq (.txt []) (.block (.loop ⟨[true, true, true], 3, [.slot 3 (.hb 0 0), .slot 4 (.hb 1 0), .slot 9 (.sc (.int .i64)), .slot 10 (.sc (.int .i64)), .slot 11 (.sc (.int .i64))], [(7, true)]⟩ (.seq (.seq (.txt []) (.cond .leaf .leaf)) (.seq (.block (.seq (.seq (.plan [] (.take 0 ⟨[], false, []⟩ (.take 1 ⟨[], false, []⟩ (.take 2 ⟨[], false, []⟩ (.take 3 ⟨[], false, []⟩ (.take 4 ⟨[], false, []⟩ (.take 5 ⟨[], false, []⟩ (.take 6 ⟨[], false, []⟩ (.take 7 ⟨[], false, []⟩ (.take 8 ⟨[], false, []⟩ .done)))))))))) (.cond (.seq (.txt []) .leaf) .leaf)) (.seq (.plan [] (.take 0 ⟨[], false, []⟩ (.take 1 ⟨[], false, []⟩ (.take 2 ⟨[], false, []⟩ (.take 3 ⟨[], false, []⟩ (.take 4 ⟨[], false, []⟩ (.take 5 ⟨[], false, []⟩ (.take 6 ⟨[], false, []⟩ (.take 7 ⟨[], false, []⟩ (.take 8 ⟨[], false, []⟩ (.take 9 ⟨[], false, []⟩ (.take 10 ⟨[], false, []⟩ .done)))))))))))) (.plan [] (.take 0 ⟨[], false, []⟩ (.take 1 ⟨[], false, []⟩ (.take 2 ⟨[], false, []⟩ (.take 3 ⟨[], false, []⟩ (.take 4 ⟨[], false, []⟩ (.take 5 ⟨[], false, []⟩ (.take 6 ⟨[], false, []⟩ (.take 7 ⟨[], false, []⟩ (.take 8 ⟨[], false, []⟩ (.take 9 ⟨[], false, []⟩ (.take 10 ⟨[], false, []⟩ .done))))))))))))))) (.txt [])))))) (.seq (.txt []) .leaf))))))
set_option maxRecDepth 100000 in
theorem M_ref04_fits_ok (σ : Hp) (a0_Wide : Int) (a0_High : Int) (a0_Cells_A : Option Addr) (a0_Cells_n : Nat) (a0_Cells_c : Nat) (a0_Heights_A : Option Addr) (a0_Heights_n : Nat) (a0_Heights_c : Nat) (a1_Wide : Int) (a1_High : Int) (a1_Slope : Int) (a1_Years : Int) (a1_Wish : Int) (a2_Cell : Int) (a2_Turned : Bool) (R : Value → Hp → Prop) (h : M_ref04_fits σ a0_Wide a0_High a0_Cells_A a0_Cells_n a0_Cells_c a0_Heights_A a0_Heights_n a0_Heights_c a1_Wide a1_High a1_Slope a1_Years a1_Wish a2_Cell a2_Turned R) : FCalls Try.prog 88 #[(.agg #[(.int .i64 a0_Wide), (.int .i64 a0_High), (.slice a0_Cells_A a0_Cells_n a0_Cells_c), (.slice a0_Heights_A a0_Heights_n a0_Heights_c)]), (.agg #[(.int .i64 a1_Wide), (.int .i64 a1_High), (.int .i64 a1_Slope), (.int .i64 a1_Years), (.int .i64 a1_Wish)]), (.agg #[(.int .i64 a2_Cell), (.bool a2_Turned)])] σ R :=
  fcalls_of_M mixed_M3 M_ref04_fits_an Try.func88 rfl (by kernel_rfl) (by kernel_rfl) (M := M_ref04_fits σ a0_Wide a0_High a0_Cells_A a0_Cells_n a0_Cells_c a0_Heights_A a0_Heights_n a0_Heights_c a1_Wide a1_High a1_Slope a1_Years a1_Wish a2_Cell a2_Turned R) (by kernel_rfl) h
theorem M_ref04_fits_enter : enterB Try.prog 88 = true := by kernel_rfl

abbrev N_ground_field_fits : FuncId := 89
/-- (*waltzer/ground.field).fits -/
def M_ground_field_fits (σ : Hp) (a0 : Option Addr) (a1 : Int) (a2_Cell : Int) (a2_Turned : Bool) (R : Value → Hp → Prop) : Prop :=
  dr a0 (fun b1 o2 => ldS σ b1 (o2 + 4) (fun A3 l3 _ => ix A3 l3 a1 5 (fun b4 a5 => ldI σ .i64 b4 a5 (fun n6 => 
    ldI σ .i64 b4 (a5 + 1) (fun n7 => ldI σ .i64 b4 (a5 + 2) (fun n8 => ldI σ .i64 b4 (a5 + 3) (fun _ => 
    ldI σ .i64 b4 (a5 + 4) (fun _ => cl Try.prog (.func (.func 74) #[] #[]) #[(.pointer a0), (.int .i64 a1), (.agg #[(.int .i64 a2_Cell), (.bool a2_Turned)])] σ (fun v11 σ12 => 
    ∃ A13 : Option Addr, ∃ l13 : Nat, ∃ c13 : Nat, ∃ t14 : Bool, (v11 = (.tuple #[(.slice A13 l13 c13), (.bool t14)]) ∧ 
    cut (α := Hp → Prop) (fun  σ16 => ∀ _ : Nat → Value, dr a0 (fun b18 o19 => ldS σ16 b18 (o19 + 3) (fun A20 l20 _ => 
    ix A13 l13 0 1 (fun b21 a22 => ldI σ16 .i64 b21 a22 (fun n23 => ix A20 l20 n23 1 (fun b24 a25 => ldI σ16 .i64 b24 a25 (fun n26 => 
    dr a0 (fun b27 o28 => ldS σ16 b27 (o28 + 3) (fun A29 l29 _ => ix A13 l13 0 1 (fun b30 a31 => ldI σ16 .i64 b30 a31 (fun n32 => 
    ix A29 l29 n32 1 (fun b33 a34 => ldI σ16 .i64 b33 a34 (fun n35 => cut (α := Int → Int → Hp → Prop) (fun n39 n40 σ37 => 
    ∀ _ : Nat → Value, wk .i64 (n40 - n39) (fun n41 => rt σ37 R (.bool (decide (n41 ≤ n8))))) (fun J38 => 
    ∃ I44 : Nat → Int → Int → Int → Hp → Prop, (∃ n450, I44 n450 n26 n35 0 σ16) ∧ ∀ n45 : Nat, ∀ n46 : Int, ∀ n47 : Int, ∀ n48 : Int, ∀ σ43 : Hp, I44 n45 n46 n47 n48 σ43 → ∀ _ : Nat → Value, bc (decide (n48 < ((l13 : Nat) : Int))) (cut (α := Int → Int → Hp → Prop) (fun n52 n53 σ50 => 
    ∀ _ : Nat → Value, wk .i64 (n48 + 1) (fun n54 => bk σ50 n45 (fun m55 σ56 => I44 m55 n52 n53 n54 σ56))) (fun J51 => 
    ix A13 l13 n48 1 (fun b57 a58 => ldI σ43 .i64 b57 a58 (fun n59 => cut (α := Hp → Prop) (fun  σ61 => ∀ _ : Nat → Value, 
    dr a0 (fun b63 o64 => ldS σ61 b63 (o64 + 3) (fun A65 l65 _ => ix A65 l65 n59 1 (fun b66 a67 => ldI σ61 .i64 b66 a67 (fun n68 => 
    dr a0 (fun b69 o70 => ldS σ61 b69 (o70 + 3) (fun A71 l71 _ => ix A71 l71 n59 1 (fun b72 a73 => ldI σ61 .i64 b72 a73 (fun n74 => 
    J51 (if n68 < n46 then n68 else n46) (if n74 > n47 then n74 else n47) σ61))))))))) (fun J62 => cut (α := Bool → Hp → Prop) (fun t78 σ76 => 
    ∀ _ : Nat → Value, bc t78 (rt σ76 R (.bool false)) (J62 σ76)) (fun J77 => dr a0 (fun b79 o80 => ldS σ43 b79 (o80 + 2) (fun A81 l81 _ => 
    ix A81 l81 n59 1 (fun b82 a83 => ldI σ43 .i64 b82 a83 (fun n84 => bc (!decide (n84 = 0)) (J77 true σ43) (dr a0 (fun b85 o86 => 
    ldS σ43 b85 (o86 + 6) (fun A87 l87 _ => ix A87 l87 n59 1 (fun b88 a89 => ldI σ43 .i64 b88 a89 (fun n90 => 
    J77 (decide ((0 : Int) ≤ n90)) σ43))))))))))))))) (J38 n46 n47 σ43))))))))))))))) (fun J17 => cut (α := Bool → Hp → Prop) (fun t94 σ92 => 
    ∀ _ : Nat → Value, bc t94 (rt σ92 R (.bool false)) (J17 σ92)) (fun J93 => bc (!t14) (J93 true σ12) (bc a2_Turned (J93 (decide (n6 = n7)) σ12) (J93 false σ12))))))))))))))
def M_ground_field_fits_an : MAn := (.seq (.txt []) (.seq (.txt []) (.seq (.txt []) (.cut ⟨[true, true], 2, [.slot 7 (.hb 1 0)], [(0, true), (8, true)]⟩ (.cut ⟨[true, true], 2, [.slot 7 (.hb 1 0), .slot 40 (.sc (.bool))], [(0, true), (8, true)]⟩ (.txt [⟨[], false, []⟩, ⟨[], false, []⟩, ⟨[], true, []⟩, ⟨[], false, []⟩, ⟨[], false, []⟩, ⟨[], true, []⟩]) (.cond (.seq (.txt []) .leaf) .leaf)) (.seq (.plan [] (.take 0 ⟨[], false, []⟩ (.take 1 ⟨[], false, []⟩ (.take 2 ⟨[], false, []⟩ (.take 3 ⟨[], false, []⟩ (.take 4 ⟨[], false, []⟩ (.take 5 ⟨[], false, []⟩ (.take 6 ⟨[], false, []⟩ (.take 7 ⟨[], false, []⟩ (.take 8 ⟨[], false, []⟩ (.take 9 ⟨[], false, []⟩ (.take 10 ⟨[], false, []⟩ (.take 11 ⟨[], false, []⟩ (.take 12 ⟨[], false, []⟩ (.take 13 ⟨[], false, []⟩ (.take 14 ⟨[], false, []⟩ (.take 15 ⟨[], false, []⟩ (.take 16 ⟨[], false, []⟩ (.take 17 ⟨[], false, []⟩ (.take 18 ⟨[], false, []⟩ (.take 19 ⟨[], false, []⟩ (.take 20 ⟨[], false, []⟩ (.take 21 ⟨[], false, []⟩ .done))))))))))))))))))))))) (.cut ⟨[true, true], 2, [.slot 7 (.hb 1 0), .slot 10 (.sc (.int .i64)), .slot 11 (.sc (.int .i64))], []⟩ (.seq (.txt []) (.block (.loop ⟨[true, true], 2, [.slot 7 (.hb 1 0), .slot 10 (.sc (.int .i64)), .slot 11 (.sc (.int .i64)), .slot 63 (.sc (.int .i64))], [(0, true), (61, true), (62, true)]⟩ (.seq (.txt []) (.seq (.cond .leaf .leaf) (.cut ⟨[true, true], 2, [.slot 7 (.hb 1 0), .slot 10 (.sc (.int .i64)), .slot 11 (.sc (.int .i64))], [(0, true), (61, true), (62, true), (63, true)]⟩ (.block (.seq (.txt []) (.cut ⟨[true, true], 2, [.slot 7 (.hb 1 0)], [(0, true), (10, true), (11, true), (13, true), (61, true), (62, true), (63, true)]⟩ (.cut ⟨[true, true], 2, [.slot 7 (.hb 1 0), .slot 85 (.sc (.bool))], [(0, true), (10, true), (11, true), (13, true), (61, true), (62, true), (63, true)]⟩ (.txt [⟨[], false, []⟩, ⟨[], false, []⟩, ⟨[], false, []⟩, ⟨[], false, []⟩, ⟨[], false, []⟩, ⟨[], false, []⟩, ⟨[], false, []⟩, ⟨[], false, []⟩, ⟨[], false, []⟩, ⟨[], true, []⟩]) (.cond (.seq (.txt []) .leaf) .leaf)) (.plan [] (.take 0 ⟨[], false, []⟩ (.take 1 ⟨[], false, []⟩ (.take 2 ⟨[], false, []⟩ (.take 3 ⟨[], false, []⟩ (.take 4 ⟨[], false, []⟩ (.take 5 ⟨[], false, []⟩ (.take 6 ⟨[], false, []⟩ (.take 7 ⟨[], false, []⟩ (.take 8 ⟨[], false, []⟩ (.take 9 ⟨[], false, []⟩ (.take 10 ⟨[], false, []⟩ (.take 11 ⟨[], false, []⟩ (.take 12 ⟨[], false, []⟩ (.take 13 ⟨[], false, []⟩ (.take 14 ⟨[], false, []⟩ (.take 15 ⟨[], false, []⟩ (.take 16 ⟨[], false, []⟩ (.take 17 ⟨[], false, []⟩ (.take 18 ⟨[], false, []⟩ (.take 19 ⟨[], false, []⟩ (.take 20 ⟨[], false, []⟩ (.take 21 ⟨[], false, []⟩ .done)))))))))))))))))))))))))) (.txt []))))))) (.seq (.txt []) .leaf)))))))
set_option maxRecDepth 100000 in
theorem M_ground_field_fits_ok (σ : Hp) (a0 : Option Addr) (a1 : Int) (a2_Cell : Int) (a2_Turned : Bool) (R : Value → Hp → Prop) (h : M_ground_field_fits σ a0 a1 a2_Cell a2_Turned R) : FCalls Try.prog 89 #[(.pointer a0), (.int .i64 a1), (.agg #[(.int .i64 a2_Cell), (.bool a2_Turned)])] σ R :=
  fcalls_of_M mixed_M3 M_ground_field_fits_an Try.func89 rfl (by kernel_rfl) (by kernel_rfl) (M := M_ground_field_fits σ a0 a1 a2_Cell a2_Turned R) (by kernel_rfl) h
theorem M_ground_field_fits_enter : enterB Try.prog 89 = true := by kernel_rfl

abbrev N_ground_field_where_1 : FuncId := 90
/-- (*waltzer/ground.field).where$1 -/
def M_ground_field_where_1 (σ : Hp) (yield : Value) (cap0 : Option Addr) (cap1 : Option Addr) (R : Value → Hp → Prop) : Prop :=
  dr cap0 (fun b1 o2 => ldP σ b1 o2 (fun p3 => dr p3 (fun b4 o5 => ldS σ b4 (o5 + 2) (fun _ l6 _ => ∃ I10 : Nat → Int → Hp → Prop, (∃ n110, I10 n110 0 σ) ∧ 
    ∀ n11 : Nat, ∀ n12 : Int, ∀ σ9 : Hp, I10 n11 n12 σ9 → ∀ _ : Nat → Value, bc (decide (n12 < ((l6 : Nat) : Int))) (cut (α := Hp → Prop) (fun  σ14 => 
    ∀ _ : Nat → Value, wk .i64 (n12 + 1) (fun n16 => bk σ14 n11 (fun m17 σ18 => I10 m17 n16 σ18))) (fun J15 => 
    ∃ I21 : Nat → Int → Hp → Prop, (∃ n220, I21 n220 0 σ9) ∧ ∀ n22 : Nat, ∀ n23 : Int, ∀ σ20 : Hp, I21 n22 n23 σ20 → ∀ _ : Nat → Value, bc (decide (n23 < 2)) (cut (α := Hp → Prop) (fun  σ25 => 
    ∀ _ : Nat → Value, wk .i64 (n23 + 1) (fun n27 => bk σ25 n22 (fun m28 σ29 => I21 m28 n27 σ29))) (fun J26 => 
    (0 ≤ n23 ∧ n23 < ((2 : Nat) : Int) ∧ ∃ t30 : Bool, (#[(.bool false), (.bool true)] : Array Value)[(n23 : Int).toNat * 1]? = some (.bool t30) ∧ 
    cut (α := Bool → Hp → Prop) (fun t34 σ32 => ∀ _ : Nat → Value, bc t34 (rt σ32 R (.tuple #[])) (J26 σ32)) (fun J33 => 
    dr cap0 (fun b35 o36 => ldP σ20 b35 o36 (fun p37 => dr cap1 (fun b38 o39 => ldI σ20 .i64 b38 o39 (fun n40 => 
    cl Try.prog (.func (.func 89) #[] #[]) #[(.pointer p37), (.int .i64 n40), (.agg #[(.int .i64 n12), (.bool t30)])] σ20 (fun v41 σ42 => 
    ∃ t43 : Bool, (v41 = (.bool t43) ∧ bc t43 (cl Try.prog yield #[(.agg #[(.int .i64 n12), (.bool t30)])] σ42 (fun v44 σ45 => 
    ∃ t46 : Bool, (v44 = (.bool t46) ∧ J33 (!t46) σ45))) (J33 false σ42))))))))))) (J15 σ20))) (rt σ9 R (.tuple #[]))))))
def M_ground_field_where_1_an : MAn := (.seq (.txt []) (.block (.loop ⟨[], 0, [.slot 14 (.sc (.int .i64))], [(0, false), (1, true), (2, true), (13, true)]⟩ (.seq (.txt []) (.seq (.cond .leaf .leaf) (.cut ⟨[], 0, [], [(0, false), (1, true), (2, true), (13, true), (14, true)]⟩ (.block (.seq (.txt []) (.seq (.txt []) (.block (.loop ⟨[], 0, [.slot 18 (.sc (.int .i64))], [(0, false), (1, true), (2, true), (4, true), (13, true), (14, true), (17, true)]⟩ (.seq (.txt []) (.seq (.cond .leaf .leaf) (.cut ⟨[], 0, [], [(0, false), (1, true), (2, true), (4, true), (13, true), (14, true), (17, true), (18, true)]⟩ (.block (.seq (.txt []) (.seq (.txt []) (.cut ⟨[true], 1, [.slot 33 (.sc (.bool))], [(0, false), (1, true), (2, true), (4, true), (13, true), (14, true), (17, true), (18, true)]⟩ (.txt [⟨[], false, []⟩, ⟨[], false, []⟩, ⟨[], false, []⟩, ⟨[], false, []⟩, ⟨[], true, []⟩]) (.cond .leaf .leaf))))) (.txt []))))))))) (.txt [])))))))
set_option maxRecDepth 100000 in
theorem M_ground_field_where_1_ok (σ : Hp) (yield : Value) (cap0 : Option Addr) (cap1 : Option Addr) (R : Value → Hp → Prop) (h : M_ground_field_where_1 σ yield cap0 cap1 R) : FCalls Try.prog 90 #[yield, (.pointer cap0), (.pointer cap1)] σ R :=
  fcalls_of_M mixed_M3 M_ground_field_where_1_an Try.func90 rfl (by kernel_rfl) (by kernel_rfl) (M := M_ground_field_where_1 σ yield cap0 cap1 R) (by kernel_rfl) h
theorem M_ground_field_where_1_enter : enterB Try.prog 90 = true := by kernel_rfl

abbrev N_ground_grounded : FuncId := 91
/-- waltzer/ground.grounded -/
def M_ground_grounded (σ : Hp) (g_Wide : Int) (g_High : Int) (g_Cells_A : Option Addr) (g_Cells_n : Nat) (g_Cells_c : Nat) (g_Heights_A : Option Addr) (g_Heights_n : Nat) (g_Heights_c : Nat) (R : Value → Hp → Prop) : Prop :=
  cut (α := Hp → Prop) (fun  σ2 => ∀ _ : Nat → Value, cl Try.prog (.func (.func 76) #[] #[]) #[(.slice g_Cells_A g_Cells_n g_Cells_c), (.func (.func 100) #[] #[])] σ2 (fun v4 σ5 => 
    ∃ t6 : Bool, (v4 = (.bool t6) ∧ bc (!t6) (cl Try.prog (.func (.func 76) #[] #[]) #[(.slice g_Heights_A g_Heights_n g_Heights_c), (.func (.func 101) #[] #[])] σ5 (fun v7 σ8 => 
    ∃ t9 : Bool, (v7 = (.bool t9) ∧ rt σ8 R (.bool (!t9))))) (rt σ5 R (.bool false))))) (fun J3 => cut (α := Bool → Hp → Prop) (fun t13 σ11 => 
    ∀ _ : Nat → Value, bc t13 (rt σ11 R (.bool false)) (J3 σ11)) (fun J12 => cl Try.prog (.func (.func 58) #[] #[]) #[(.int .i64 g_Wide), (.int .i64 1), (.int .i64 8)] σ (fun v14 σ15 => 
    ∃ t16 : Bool, (v14 = (.bool t16) ∧ bc (!t16) (bc true (bc true (J12 true σ15) (J12 (!decide (((g_Heights_n : Nat) : Int) = ((g_Cells_n : Nat) : Int))) σ15)) (wk .i64 (g_Wide * g_High) (fun n17 => 
    bc (!decide (((g_Cells_n : Nat) : Int) = n17)) (J12 true σ15) (J12 (!decide (((g_Heights_n : Nat) : Int) = ((g_Cells_n : Nat) : Int))) σ15)))) (cl Try.prog (.func (.func 58) #[] #[]) #[(.int .i64 g_High), (.int .i64 1), (.int .i64 8)] σ15 (fun v18 σ19 => 
    ∃ t20 : Bool, (v18 = (.bool t20) ∧ bc (!t20) (bc true (J12 true σ19) (J12 (!decide (((g_Heights_n : Nat) : Int) = ((g_Cells_n : Nat) : Int))) σ19)) (wk .i64 (g_Wide * g_High) (fun n21 => 
    bc (!decide (((g_Cells_n : Nat) : Int) = n21)) (J12 true σ19) (J12 (!decide (((g_Heights_n : Nat) : Int) = ((g_Cells_n : Nat) : Int))) σ19))))))))))
def M_ground_grounded_an : MAn := (.seq (.txt []) (.cut ⟨[true], 1, [.slot 1 (.hb 0 0)], []⟩ (.cut ⟨[true], 1, [.slot 1 (.hb 0 0), .slot 32 (.sc (.bool))], []⟩ (.txt [⟨[], false, []⟩, ⟨[], false, []⟩, ⟨[], false, []⟩, ⟨[], false, []⟩, ⟨[], true, []⟩, ⟨[], false, []⟩, ⟨[], false, []⟩, ⟨[], false, []⟩, ⟨[], false, []⟩, ⟨[], false, []⟩, ⟨[], true, []⟩, ⟨[], false, []⟩, ⟨[], false, []⟩, ⟨[], false, []⟩, ⟨[], false, []⟩, ⟨[], false, []⟩, ⟨[], false, []⟩, ⟨[], false, []⟩, ⟨[], false, []⟩, ⟨[], false, []⟩, ⟨[], false, []⟩, ⟨[], true, []⟩]) (.cond (.seq (.txt []) .leaf) .leaf)) (.seq (.txt [⟨[], false, []⟩, ⟨[], false, []⟩, ⟨[], false, []⟩, ⟨[], false, []⟩, ⟨[], true, []⟩]) .leaf)))
set_option maxRecDepth 100000 in
theorem M_ground_grounded_ok (σ : Hp) (g_Wide : Int) (g_High : Int) (g_Cells_A : Option Addr) (g_Cells_n : Nat) (g_Cells_c : Nat) (g_Heights_A : Option Addr) (g_Heights_n : Nat) (g_Heights_c : Nat) (R : Value → Hp → Prop) (h : M_ground_grounded σ g_Wide g_High g_Cells_A g_Cells_n g_Cells_c g_Heights_A g_Heights_n g_Heights_c R) : FCalls Try.prog 91 #[(.agg #[(.int .i64 g_Wide), (.int .i64 g_High), (.slice g_Cells_A g_Cells_n g_Cells_c), (.slice g_Heights_A g_Heights_n g_Heights_c)])] σ R :=
  fcalls_of_M mixed_M3 M_ground_grounded_an Try.func91 rfl (by kernel_rfl) (by kernel_rfl) (M := M_ground_grounded σ g_Wide g_High g_Cells_A g_Cells_n g_Cells_c g_Heights_A g_Heights_n g_Heights_c R) (by kernel_rfl) h
theorem M_ground_grounded_enter : enterB Try.prog 91 = true := by kernel_rfl

abbrev N_slices_IndexFunc_api_Pitch : FuncId := 92
/-- slices.IndexFunc[[]waltzer/api.Pitch,waltzer/api.Pitch] -/
def M_slices_IndexFunc_api_Pitch (σ : Hp) (s_A : Option Addr) (s_n : Nat) (_ : Nat) (f : Value) (R : Value → Hp → Prop) : Prop :=
  cut (α := Hp → Prop) (fun  σ2 => ∀ _ : Nat → Value, rt σ2 R (.int .i64 (-1))) (fun J3 => ∃ I6 : Nat → Int → Hp → Prop, (∃ n70, I6 n70 0 σ) ∧ 
    ∀ n7 : Nat, ∀ n8 : Int, ∀ σ5 : Hp, I6 n7 n8 σ5 → ∀ _ : Nat → Value, bc (decide (n8 < ((s_n : Nat) : Int))) (ix s_A s_n n8 5 (fun b9 a10 => 
    ldI σ5 .i64 b9 a10 (fun n11 => ldI σ5 .i64 b9 (a10 + 1) (fun n12 => ldI σ5 .i64 b9 (a10 + 2) (fun n13 => 
    ldI σ5 .i64 b9 (a10 + 3) (fun n14 => ldI σ5 .i64 b9 (a10 + 4) (fun n15 => cl Try.prog f #[(.agg #[(.int .i64 n11), (.int .i64 n12), (.int .i64 n13), (.int .i64 n14), (.int .i64 n15)])] σ5 (fun v16 σ17 => 
    ∃ t18 : Bool, (v16 = (.bool t18) ∧ bc t18 (rt σ17 R (.int .i64 n8)) (wk .i64 (n8 + 1) (fun n19 => bk σ17 n7 (fun m20 σ21 => 
    I6 m20 n19 σ21)))))))))))) (J3 σ5))
def M_slices_IndexFunc_api_Pitch_an : MAn := (.seq (.txt []) (.cut ⟨[], 0, [], []⟩ (.seq (.txt []) (.block (.loop ⟨[], 0, [.slot 8 (.sc (.int .i64))], [(0, true), (1, false), (7, true)]⟩ (.seq (.txt []) (.seq (.cond .leaf .leaf) (.seq (.block (.seq (.txt []) (.seq (.txt []) (.cond (.seq (.txt []) .leaf) .leaf)))) (.txt []))))))) (.seq (.txt []) .leaf)))
set_option maxRecDepth 100000 in
theorem M_slices_IndexFunc_api_Pitch_ok (σ : Hp) (s_A : Option Addr) (s_n : Nat) (s_c : Nat) (f : Value) (R : Value → Hp → Prop) (h : M_slices_IndexFunc_api_Pitch σ s_A s_n s_c f R) : FCalls Try.prog 92 #[(.slice s_A s_n s_c), f] σ R :=
  fcalls_of_M mixed_M3 M_slices_IndexFunc_api_Pitch_an Try.func92 rfl (by kernel_rfl) (by kernel_rfl) (M := M_slices_IndexFunc_api_Pitch σ s_A s_n s_c f R) (by kernel_rfl) h
theorem M_slices_IndexFunc_api_Pitch_enter : enterB Try.prog 92 = true := by kernel_rfl

abbrev N_ground_empty_1 : FuncId := 93
/-- waltzer/ground.empty$1 -/
def M_ground_empty_1 (σ : Hp) (p_Wide : Int) (p_High : Int) (p_Slope : Int) (p_Years : Int) (p_Wish : Int) (cap0 : Option Addr) (R : Value → Hp → Prop) : Prop :=
  dr cap0 (fun b1 o2 => ldI σ .i64 b1 o2 (fun n3 => ldI σ .i64 b1 (o2 + 1) (fun n4 => ldS σ b1 (o2 + 2) (fun A5 l5 c5 => 
    ldS σ b1 (o2 + 3) (fun A6 l6 c6 => cl Try.prog (.func (.func 94) #[] #[]) #[(.agg #[(.int .i64 n3), (.int .i64 n4), (.slice A5 l5 c5), (.slice A6 l6 c6)]), (.agg #[(.int .i64 p_Wide), (.int .i64 p_High), (.int .i64 p_Slope), (.int .i64 p_Years), (.int .i64 p_Wish)])] σ (fun v7 σ8 => 
    ∃ t9 : Bool, (v7 = (.bool t9) ∧ rt σ8 R (.bool (!t9)))))))))
def M_ground_empty_1_an : MAn := (.seq (.txt []) (.seq (.txt []) .leaf))
set_option maxRecDepth 100000 in
theorem M_ground_empty_1_ok (σ : Hp) (p_Wide : Int) (p_High : Int) (p_Slope : Int) (p_Years : Int) (p_Wish : Int) (cap0 : Option Addr) (R : Value → Hp → Prop) (h : M_ground_empty_1 σ p_Wide p_High p_Slope p_Years p_Wish cap0 R) : FCalls Try.prog 93 #[(.agg #[(.int .i64 p_Wide), (.int .i64 p_High), (.int .i64 p_Slope), (.int .i64 p_Years), (.int .i64 p_Wish)]), (.pointer cap0)] σ R :=
  fcalls_of_M mixed_M3 M_ground_empty_1_an Try.func93 rfl (by kernel_rfl) (by kernel_rfl) (M := M_ground_empty_1 σ p_Wide p_High p_Slope p_Years p_Wish cap0 R) (by kernel_rfl) h
theorem M_ground_empty_1_enter : enterB Try.prog 93 = true := by kernel_rfl

abbrev N_ground_pitched : FuncId := 94
/-- waltzer/ground.pitched -/
def M_ground_pitched (σ : Hp) (_ : Int) (_ : Int) (_ : Option Addr) (g_Cells_n : Nat) (_ : Nat) (_ : Option Addr) (_ : Nat) (_ : Nat) (p_Wide : Int) (p_High : Int) (p_Slope : Int) (p_Years : Int) (p_Wish : Int) (R : Value → Hp → Prop) : Prop :=
  cl Try.prog (.func (.func 58) #[] #[]) #[(.int .i64 p_Wide), (.int .i64 1), (.int .i64 8)] σ (fun v1 σ2 => 
    ∃ t3 : Bool, (v1 = (.bool t3) ∧ bc t3 (cl Try.prog (.func (.func 58) #[] #[]) #[(.int .i64 p_High), (.int .i64 1), (.int .i64 8)] σ2 (fun v4 σ5 => 
    ∃ t6 : Bool, (v4 = (.bool t6) ∧ bc t6 (cl Try.prog (.func (.func 58) #[] #[]) #[(.int .i64 p_Slope), (.int .i64 0), (.int .i64 100)] σ5 (fun v7 σ8 => 
    ∃ t9 : Bool, (v7 = (.bool t9) ∧ bc t9 (cl Try.prog (.func (.func 58) #[] #[]) #[(.int .i64 p_Years), (.int .i64 0), (.int .i64 1000)] σ8 (fun v10 σ11 => 
    ∃ t12 : Bool, (v10 = (.bool t12) ∧ bc t12 (wk .i64 (((g_Cells_n : Nat) : Int) - 1) (fun n13 => cl Try.prog (.func (.func 58) #[] #[]) #[(.int .i64 p_Wish), (.int .i64 (-1)), (.int .i64 n13)] σ11 (fun v14 σ15 => 
    ∃ t16 : Bool, (v14 = (.bool t16) ∧ rt σ15 R (.bool t16))))) (rt σ11 R (.bool false))))) (bc false (wk .i64 (((g_Cells_n : Nat) : Int) - 1) (fun n17 => 
    cl Try.prog (.func (.func 58) #[] #[]) #[(.int .i64 p_Wish), (.int .i64 (-1)), (.int .i64 n17)] σ8 (fun v18 σ19 => 
    ∃ t20 : Bool, (v18 = (.bool t20) ∧ rt σ19 R (.bool t20))))) (rt σ8 R (.bool false)))))) (bc false (cl Try.prog (.func (.func 58) #[] #[]) #[(.int .i64 p_Years), (.int .i64 0), (.int .i64 1000)] σ5 (fun v21 σ22 => 
    ∃ t23 : Bool, (v21 = (.bool t23) ∧ bc t23 (wk .i64 (((g_Cells_n : Nat) : Int) - 1) (fun n24 => cl Try.prog (.func (.func 58) #[] #[]) #[(.int .i64 p_Wish), (.int .i64 (-1)), (.int .i64 n24)] σ22 (fun v25 σ26 => 
    ∃ t27 : Bool, (v25 = (.bool t27) ∧ rt σ26 R (.bool t27))))) (rt σ22 R (.bool false))))) (bc false (wk .i64 (((g_Cells_n : Nat) : Int) - 1) (fun n28 => 
    cl Try.prog (.func (.func 58) #[] #[]) #[(.int .i64 p_Wish), (.int .i64 (-1)), (.int .i64 n28)] σ5 (fun v29 σ30 => 
    ∃ t31 : Bool, (v29 = (.bool t31) ∧ rt σ30 R (.bool t31))))) (rt σ5 R (.bool false))))))) (bc false (cl Try.prog (.func (.func 58) #[] #[]) #[(.int .i64 p_Slope), (.int .i64 0), (.int .i64 100)] σ2 (fun v32 σ33 => 
    ∃ t34 : Bool, (v32 = (.bool t34) ∧ bc t34 (cl Try.prog (.func (.func 58) #[] #[]) #[(.int .i64 p_Years), (.int .i64 0), (.int .i64 1000)] σ33 (fun v35 σ36 => 
    ∃ t37 : Bool, (v35 = (.bool t37) ∧ bc t37 (wk .i64 (((g_Cells_n : Nat) : Int) - 1) (fun n38 => cl Try.prog (.func (.func 58) #[] #[]) #[(.int .i64 p_Wish), (.int .i64 (-1)), (.int .i64 n38)] σ36 (fun v39 σ40 => 
    ∃ t41 : Bool, (v39 = (.bool t41) ∧ rt σ40 R (.bool t41))))) (rt σ36 R (.bool false))))) (bc false (wk .i64 (((g_Cells_n : Nat) : Int) - 1) (fun n42 => 
    cl Try.prog (.func (.func 58) #[] #[]) #[(.int .i64 p_Wish), (.int .i64 (-1)), (.int .i64 n42)] σ33 (fun v43 σ44 => 
    ∃ t45 : Bool, (v43 = (.bool t45) ∧ rt σ44 R (.bool t45))))) (rt σ33 R (.bool false)))))) (bc false (cl Try.prog (.func (.func 58) #[] #[]) #[(.int .i64 p_Years), (.int .i64 0), (.int .i64 1000)] σ2 (fun v46 σ47 => 
    ∃ t48 : Bool, (v46 = (.bool t48) ∧ bc t48 (wk .i64 (((g_Cells_n : Nat) : Int) - 1) (fun n49 => cl Try.prog (.func (.func 58) #[] #[]) #[(.int .i64 p_Wish), (.int .i64 (-1)), (.int .i64 n49)] σ47 (fun v50 σ51 => 
    ∃ t52 : Bool, (v50 = (.bool t52) ∧ rt σ51 R (.bool t52))))) (rt σ47 R (.bool false))))) (bc false (wk .i64 (((g_Cells_n : Nat) : Int) - 1) (fun n53 => 
    cl Try.prog (.func (.func 58) #[] #[]) #[(.int .i64 p_Wish), (.int .i64 (-1)), (.int .i64 n53)] σ2 (fun v54 σ55 => 
    ∃ t56 : Bool, (v54 = (.bool t56) ∧ rt σ55 R (.bool t56))))) (rt σ2 R (.bool false)))))))
def M_ground_pitched_an : MAn := (.seq (.txt []) (.seq (.txt [⟨[], false, []⟩, ⟨[], false, []⟩, ⟨[], false, []⟩, ⟨[], true, []⟩, ⟨[], false, []⟩, ⟨[], false, []⟩, ⟨[], false, []⟩, ⟨[], false, []⟩, ⟨[], true, []⟩, ⟨[], false, []⟩, ⟨[], false, []⟩, ⟨[], false, []⟩, ⟨[], false, []⟩, ⟨[], true, []⟩, ⟨[], false, []⟩, ⟨[], false, []⟩, ⟨[], false, []⟩, ⟨[], false, []⟩, ⟨[], true, []⟩]) .leaf))
set_option maxRecDepth 100000 in
theorem M_ground_pitched_ok (σ : Hp) (g_Wide : Int) (g_High : Int) (g_Cells_A : Option Addr) (g_Cells_n : Nat) (g_Cells_c : Nat) (g_Heights_A : Option Addr) (g_Heights_n : Nat) (g_Heights_c : Nat) (p_Wide : Int) (p_High : Int) (p_Slope : Int) (p_Years : Int) (p_Wish : Int) (R : Value → Hp → Prop) (h : M_ground_pitched σ g_Wide g_High g_Cells_A g_Cells_n g_Cells_c g_Heights_A g_Heights_n g_Heights_c p_Wide p_High p_Slope p_Years p_Wish R) : FCalls Try.prog 94 #[(.agg #[(.int .i64 g_Wide), (.int .i64 g_High), (.slice g_Cells_A g_Cells_n g_Cells_c), (.slice g_Heights_A g_Heights_n g_Heights_c)]), (.agg #[(.int .i64 p_Wide), (.int .i64 p_High), (.int .i64 p_Slope), (.int .i64 p_Years), (.int .i64 p_Wish)])] σ R :=
  fcalls_of_M mixed_M3 M_ground_pitched_an Try.func94 rfl (by kernel_rfl) (by kernel_rfl) (M := M_ground_pitched σ g_Wide g_High g_Cells_A g_Cells_n g_Cells_c g_Heights_A g_Heights_n g_Heights_c p_Wide p_High p_Slope p_Years p_Wish R) (by kernel_rfl) h
theorem M_ground_pitched_enter : enterB Try.prog 94 = true := by kernel_rfl

end Go.Proofs.Ytmpkiaghkhhlhaa

/- M-forms, printed by wip/gen/genm.py out of the translation: each function as a proposition over its local objects, with the lemma that it is what the function does. -/
namespace Go.Proofs.Ytmpkiaghkhhlhaa
open Go.RowKit

theorem mixed_M4 : Try.prog.follows .mixedOrders = true := by kernel_rfl

abbrev N_slices_stableCmpFunc_int : FuncId := 96
/-- slices.stableCmpFunc[int] -/
def M_slices_stableCmpFunc_int (σ : Hp) (data_A : Option Addr) (data_n : Nat) (data_c : Nat) (n : Int) (cmp : Value) (R : Value → Hp → Prop) : Prop :=
  cut (α := Int → Hp → Prop) (fun n4 σ2 => ∀ _ : Nat → Value, cl Try.prog (.func (.func 102) #[] #[]) #[(.slice data_A data_n data_c), (.int .i64 n4), (.int .i64 n), cmp] σ2 (fun _ σ6 => 
    ∃ I10 : Nat → Int → Hp → Prop, (∃ n110, I10 n110 20 σ6) ∧ ∀ n11 : Nat, ∀ n12 : Int, ∀ σ9 : Hp, I10 n11 n12 σ9 → ∀ _ : Nat → Value, bc (decide (n12 < n)) (wk .i64 (2 * n12) (fun n13 => 
    cut (α := Int → Hp → Prop) (fun n17 σ15 => ∀ _ : Nat → Value, cut (α := Hp → Prop) (fun  σ19 => ∀ _ : Nat → Value, 
    wk .i64 (n12 * 2) (fun n21 => bk σ19 n11 (fun m22 σ23 => I10 m22 n21 σ23))) (fun J20 => wk .i64 (n17 + n12) (fun n24 => 
    bc (decide (n24 < n)) (cl Try.prog (.func (.func 103) #[] #[]) #[(.slice data_A data_n data_c), (.int .i64 n17), (.int .i64 n24), (.int .i64 n), cmp] σ15 (fun _ σ26 => 
    J20 σ26)) (J20 σ15)))) (fun J16 => ∃ I29 : Nat → Int → Int → Hp → Prop, (∃ n300, I29 n300 0 n13 σ9) ∧ 
    ∀ n30 : Nat, ∀ n31 : Int, ∀ n32 : Int, ∀ σ28 : Hp, I29 n30 n31 n32 σ28 → ∀ _ : Nat → Value, bc (decide (n32 ≤ n)) (wk .i64 (n31 + n12) (fun n33 => 
    cl Try.prog (.func (.func 103) #[] #[]) #[(.slice data_A data_n data_c), (.int .i64 n31), (.int .i64 n33), (.int .i64 n32), cmp] σ28 (fun _ σ35 => 
    wk .i64 (2 * n12) (fun n36 => wk .i64 (n32 + n36) (fun n37 => bk σ35 n30 (fun m38 σ39 => I29 m38 n32 n37 σ39)))))) (J16 n31 σ28)))) (rt σ9 R (.tuple #[])))) (fun J3 => 
    ∃ I42 : Nat → Int → Int → Hp → Prop, (∃ n430, I42 n430 0 20 σ) ∧ ∀ n43 : Nat, ∀ n44 : Int, ∀ n45 : Int, ∀ σ41 : Hp, I42 n43 n44 n45 σ41 → ∀ _ : Nat → Value, bc (decide (n45 ≤ n)) (cl Try.prog (.func (.func 102) #[] #[]) #[(.slice data_A data_n data_c), (.int .i64 n44), (.int .i64 n45), cmp] σ41 (fun _ σ47 => 
    wk .i64 (n45 + 20) (fun n48 => bk σ47 n43 (fun m49 σ50 => I42 m49 n45 n48 σ50)))) (J3 n44 σ41))
def M_slices_stableCmpFunc_int_an : MAn := (.seq (.txt []) (.seq (.txt []) (.cut ⟨[], 0, [.slot 7 (.sc (.int .i64))], [(0, true), (1, true), (2, false), (6, true)]⟩ (.block (.loop ⟨[], 0, [.slot 7 (.sc (.int .i64)), .slot 8 (.sc (.int .i64))], [(0, true), (1, true), (2, false), (6, true)]⟩ (.seq (.seq (.txt []) (.cond .leaf .leaf)) (.block (.seq (.txt []) (.seq (.txt []) (.txt []))))))) (.seq (.txt []) (.block (.loop ⟨[], 0, [.slot 6 (.sc (.int .i64))], [(0, true), (1, true), (2, false)]⟩ (.seq (.seq (.txt []) (.cond .leaf .leaf)) (.block (.seq (.txt []) (.cut ⟨[], 0, [.slot 7 (.sc (.int .i64))], [(0, true), (1, true), (2, false), (6, true)]⟩ (.block (.loop ⟨[], 0, [.slot 7 (.sc (.int .i64)), .slot 8 (.sc (.int .i64))], [(0, true), (1, true), (2, false), (6, true)]⟩ (.seq (.seq (.txt []) (.cond .leaf .leaf)) (.block (.seq (.txt []) (.seq (.txt []) (.txt []))))))) (.cut ⟨[], 0, [], [(0, true), (1, true), (2, false), (6, true)]⟩ (.seq (.txt []) (.seq (.txt []) (.cond (.txt []) .leaf))) (.txt []))))))))))))
set_option maxRecDepth 100000 in
theorem M_slices_stableCmpFunc_int_ok (σ : Hp) (data_A : Option Addr) (data_n : Nat) (data_c : Nat) (n : Int) (cmp : Value) (R : Value → Hp → Prop) (h : M_slices_stableCmpFunc_int σ data_A data_n data_c n cmp R) : FCalls Try.prog 96 #[(.slice data_A data_n data_c), (.int .i64 n), cmp] σ R :=
  fcalls_of_M mixed_M4 M_slices_stableCmpFunc_int_an Try.func96 rfl (by kernel_rfl) (by kernel_rfl) (M := M_slices_stableCmpFunc_int σ data_A data_n data_c n cmp R) (by kernel_rfl) h
theorem M_slices_stableCmpFunc_int_enter : enterB Try.prog 96 = true := by kernel_rfl

abbrev N_ground_field_trapped_1 : FuncId := 97
/-- (*waltzer/ground.field).trapped$1 -/
def M_ground_field_trapped_1 (σ : Hp) (c : Int) (cap0 : Option Addr) (cap1 : Option Addr) (cap2 : Option Addr) (R : Value → Hp → Prop) : Prop :=
  dr cap0 (fun b1 o2 => ldP σ b1 o2 (fun p3 => cl Try.prog (.func (.func 46) #[] #[]) #[(.pointer p3), (.int .i64 c)] σ (fun v4 σ5 => 
    ∃ t6 : Bool, (v4 = (.bool t6) ∧ bc t6 (dr cap1 (fun b7 o8 => ldI σ5 .i64 b7 o8 (fun n9 => bc (!decide (c = n9)) (dr cap2 (fun b10 o11 => 
    ldS σ5 b10 o11 (fun A12 l12 _ => ix A12 l12 c 1 (fun b13 a14 => ldI σ5 .i64 b13 a14 (fun n15 => rt σ5 R (.bool (decide (n15 < 0)))))))) (rt σ5 R (.bool false))))) (bc false (dr cap2 (fun b16 o17 => 
    ldS σ5 b16 o17 (fun A18 l18 _ => ix A18 l18 c 1 (fun b19 a20 => ldI σ5 .i64 b19 a20 (fun n21 => rt σ5 R (.bool (decide (n21 < 0)))))))) (rt σ5 R (.bool false)))))))
def M_ground_field_trapped_1_an : MAn := (.seq (.txt []) (.seq (.txt [⟨[], false, []⟩, ⟨[], false, []⟩, ⟨[], false, []⟩, ⟨[], true, []⟩, ⟨[], false, []⟩, ⟨[], false, []⟩, ⟨[], false, []⟩, ⟨[], false, []⟩, ⟨[], true, []⟩]) .leaf))
set_option maxRecDepth 100000 in
theorem M_ground_field_trapped_1_ok (σ : Hp) (c : Int) (cap0 : Option Addr) (cap1 : Option Addr) (cap2 : Option Addr) (R : Value → Hp → Prop) (h : M_ground_field_trapped_1 σ c cap0 cap1 cap2 R) : FCalls Try.prog 97 #[(.int .i64 c), (.pointer cap0), (.pointer cap1), (.pointer cap2)] σ R :=
  fcalls_of_M mixed_M4 M_ground_field_trapped_1_an Try.func97 rfl (by kernel_rfl) (by kernel_rfl) (M := M_ground_field_trapped_1 σ c cap0 cap1 cap2 R) (by kernel_rfl) h
theorem M_ground_field_trapped_1_enter : enterB Try.prog 97 = true := by kernel_rfl

abbrev N_math_bits_Mul32 : FuncId := 98
/-- math/bits.Mul32 -/
def M_math_bits_Mul32 (σ : Hp) (x : Int) (y : Int) (R : Value → Hp → Prop) : Prop :=
  wk .u64 (x) (fun n1 => wk .u64 (y) (fun n2 => wk .u64 (n1 * n2) (fun n3 => (0 ≤ (32 : Int) ∧ wk .u32 (Int.fdiv n3 (2 ^ (min (32 : Int).toNat (IntKind.bits .u64)))) (fun n4 => 
    wk .u32 (n3) (fun n5 => rt σ R (.tuple #[(.int .u32 n4), (.int .u32 n5)])))))))
def M_math_bits_Mul32_an : MAn := (.seq (.txt []) (.seq (.txt []) (.seq (.txt []) .leaf)))
set_option maxRecDepth 100000 in
theorem M_math_bits_Mul32_ok (σ : Hp) (x : Int) (y : Int) (R : Value → Hp → Prop) (h : M_math_bits_Mul32 σ x y R) : FCalls Try.prog 98 #[(.int .u32 x), (.int .u32 y)] σ R :=
  fcalls_of_M mixed_M4 M_math_bits_Mul32_an Try.func98 rfl (by kernel_rfl) (by kernel_rfl) (M := M_math_bits_Mul32 σ x y R) (by kernel_rfl) h
theorem M_math_bits_Mul32_enter : enterB Try.prog 98 = true := by kernel_rfl

abbrev N_math_bits_Mul64 : FuncId := 99
/-- math/bits.Mul64 -/
def M_math_bits_Mul64 (σ : Hp) (x : Int) (y : Int) (R : Value → Hp → Prop) : Prop :=
  wk .u64 (((BitVec.ofInt (IntKind.bits .u64) x &&& BitVec.ofInt (IntKind.bits .u64) 4294967295).toNat : Int)) (fun n1 => 
    (0 ≤ (32 : Int) ∧ wk .u64 (((BitVec.ofInt (IntKind.bits .u64) y &&& BitVec.ofInt (IntKind.bits .u64) 4294967295).toNat : Int)) (fun n2 => 
    (0 ≤ (32 : Int) ∧ wk .u64 (n1 * n2) (fun n3 => wk .u64 ((Int.fdiv x (2 ^ (min (32 : Int).toNat (IntKind.bits .u64)))) * n2) (fun n4 => 
    (0 ≤ (32 : Int) ∧ wk .u64 (n4 + (Int.fdiv n3 (2 ^ (min (32 : Int).toNat (IntKind.bits .u64))))) (fun n5 => 
    wk .u64 (((BitVec.ofInt (IntKind.bits .u64) n5 &&& BitVec.ofInt (IntKind.bits .u64) 4294967295).toNat : Int)) (fun n6 => 
    (0 ≤ (32 : Int) ∧ wk .u64 (n1 * (Int.fdiv y (2 ^ (min (32 : Int).toNat (IntKind.bits .u64))))) (fun n7 => 
    wk .u64 (n6 + n7) (fun n8 => wk .u64 ((Int.fdiv x (2 ^ (min (32 : Int).toNat (IntKind.bits .u64)))) * (Int.fdiv y (2 ^ (min (32 : Int).toNat (IntKind.bits .u64))))) (fun n9 => 
    wk .u64 (n9 + (Int.fdiv n5 (2 ^ (min (32 : Int).toNat (IntKind.bits .u64))))) (fun n10 => (0 ≤ (32 : Int) ∧ 
    wk .u64 (n10 + (Int.fdiv n8 (2 ^ (min (32 : Int).toNat (IntKind.bits .u64))))) (fun n11 => wk .u64 (x * y) (fun n12 => 
    rt σ R (.tuple #[(.int .u64 n11), (.int .u64 n12)]))))))))))))))))))
def M_math_bits_Mul64_an : MAn := (.seq (.txt []) (.seq (.txt []) (.seq (.txt []) (.seq (.txt []) (.seq (.txt []) (.seq (.txt []) (.seq (.txt []) (.seq (.txt []) (.seq (.txt []) (.seq (.txt []) (.seq (.txt []) (.seq (.txt []) .leaf))))))))))))
set_option maxRecDepth 100000 in
theorem M_math_bits_Mul64_ok (σ : Hp) (x : Int) (y : Int) (R : Value → Hp → Prop) (h : M_math_bits_Mul64 σ x y R) : FCalls Try.prog 99 #[(.int .u64 x), (.int .u64 y)] σ R :=
  fcalls_of_M mixed_M4 M_math_bits_Mul64_an Try.func99 rfl (by kernel_rfl) (by kernel_rfl) (M := M_math_bits_Mul64 σ x y R) (by kernel_rfl) h
theorem M_math_bits_Mul64_enter : enterB Try.prog 99 = true := by kernel_rfl

abbrev N_ground_grounded_1 : FuncId := 100
/-- waltzer/ground.grounded$1 -/
def M_ground_grounded_1 (σ : Hp) (n : Int) (R : Value → Hp → Prop) : Prop :=
  cl Try.prog (.func (.func 58) #[] #[]) #[(.int .i64 n), (.int .i64 0), (.int .i64 3)] σ (fun v1 σ2 => 
    ∃ t3 : Bool, (v1 = (.bool t3) ∧ rt σ2 R (.bool (!t3))))
def M_ground_grounded_1_an : MAn := (.seq (.txt []) (.seq (.txt []) .leaf))
set_option maxRecDepth 100000 in
theorem M_ground_grounded_1_ok (σ : Hp) (n : Int) (R : Value → Hp → Prop) (h : M_ground_grounded_1 σ n R) : FCalls Try.prog 100 #[(.int .i64 n)] σ R :=
  fcalls_of_M mixed_M4 M_ground_grounded_1_an Try.func100 rfl (by kernel_rfl) (by kernel_rfl) (M := M_ground_grounded_1 σ n R) (by kernel_rfl) h
theorem M_ground_grounded_1_enter : enterB Try.prog 100 = true := by kernel_rfl

abbrev N_ground_grounded_2 : FuncId := 101
/-- waltzer/ground.grounded$2 -/
def M_ground_grounded_2 (σ : Hp) (n : Int) (R : Value → Hp → Prop) : Prop :=
  cl Try.prog (.func (.func 58) #[] #[]) #[(.int .i64 n), (.int .i64 0), (.int .i64 100)] σ (fun v1 σ2 => 
    ∃ t3 : Bool, (v1 = (.bool t3) ∧ rt σ2 R (.bool (!t3))))
def M_ground_grounded_2_an : MAn := (.seq (.txt []) (.seq (.txt []) .leaf))
set_option maxRecDepth 100000 in
theorem M_ground_grounded_2_ok (σ : Hp) (n : Int) (R : Value → Hp → Prop) (h : M_ground_grounded_2 σ n R) : FCalls Try.prog 101 #[(.int .i64 n)] σ R :=
  fcalls_of_M mixed_M4 M_ground_grounded_2_an Try.func101 rfl (by kernel_rfl) (by kernel_rfl) (M := M_ground_grounded_2 σ n R) (by kernel_rfl) h
theorem M_ground_grounded_2_enter : enterB Try.prog 101 = true := by kernel_rfl

abbrev N_slices_insertionSortCmpFunc_int : FuncId := 102
/-- slices.insertionSortCmpFunc[int] -/
def M_slices_insertionSortCmpFunc_int (σ : Hp) (data_A : Option Addr) (data_n : Nat) (_ : Nat) (a : Int) (b : Int) (cmp : Value) (R : Value → Hp → Prop) : Prop :=
  wk .i64 (a + 1) (fun n1 => ∃ I5 : Nat → Int → Hp → Prop, (∃ n60, I5 n60 n1 σ) ∧ ∀ n6 : Nat, ∀ n7 : Int, ∀ σ4 : Hp, I5 n6 n7 σ4 → ∀ _ : Nat → Value, bc (decide (n7 < b)) (cut (α := Hp → Prop) (fun  σ9 => 
    ∀ _ : Nat → Value, wk .i64 (n7 + 1) (fun n11 => bk σ9 n6 (fun m12 σ13 => I5 m12 n11 σ13))) (fun J10 => 
    ∃ I16 : Nat → Int → Hp → Prop, (∃ n170, I16 n170 n7 σ4) ∧ ∀ n17 : Nat, ∀ n18 : Int, ∀ σ15 : Hp, I16 n17 n18 σ15 → ∀ _ : Nat → Value, cut (α := Hp → Prop) (fun  σ20 => 
    ∀ _ : Nat → Value, wk .i64 (n18 - 1) (fun n22 => wk .i64 (n18 - 1) (fun n23 => ix data_A data_n n23 1 (fun b24 a25 => 
    ldI σ20 .i64 b24 a25 (fun n26 => ix data_A data_n n18 1 (fun b27 a28 => ldI σ20 .i64 b27 a28 (fun n29 => 
    ix data_A data_n n18 1 (fun b30 a31 => st σ20 b30 a31 (.int .i64 n26) (fun σ32 => ix data_A data_n n22 1 (fun b33 a34 => 
    st σ32 b33 a34 (.int .i64 n29) (fun σ35 => wk .i64 (n18 - 1) (fun n36 => bk σ35 n17 (fun m37 σ38 => I16 m37 n36 σ38))))))))))))) (fun J21 => 
    cut (α := Bool → Hp → Prop) (fun t42 σ40 => ∀ _ : Nat → Value, bc t42 (J21 σ40) (J10 σ40)) (fun J41 => 
    bc (decide (a < n18)) (ix data_A data_n n18 1 (fun b43 a44 => ldI σ15 .i64 b43 a44 (fun n45 => wk .i64 (n18 - 1) (fun n46 => 
    ix data_A data_n n46 1 (fun b47 a48 => ldI σ15 .i64 b47 a48 (fun n49 => cl Try.prog cmp #[(.int .i64 n45), (.int .i64 n49)] σ15 (fun v50 σ51 => 
    ∃ n52 : Int, (v50 = (.int .i64 n52) ∧ J41 (decide (n52 < 0)) σ51)))))))) (J41 false σ15))))) (rt σ4 R (.tuple #[])))
def M_slices_insertionSortCmpFunc_int_an : MAn := (.seq (.txt []) (.block (.loop ⟨[], 0, [.slot 8 (.sc (.int .i64))], [(0, true), (1, true), (2, true), (3, false)]⟩ (.seq (.seq (.txt []) (.cond .leaf .leaf)) (.cut ⟨[], 0, [], [(0, true), (1, true), (2, true), (3, false), (8, true)]⟩ (.block (.seq (.txt []) (.block (.loop ⟨[], 0, [.slot 9 (.sc (.int .i64))], [(0, true), (1, true), (2, true), (3, false), (8, true)]⟩ (.cut ⟨[], 0, [], [(0, true), (1, true), (2, true), (3, false), (8, true), (9, true)]⟩ (.cut ⟨[], 0, [.slot 34 (.sc (.bool))], [(0, true), (1, true), (2, true), (3, false), (8, true), (9, true)]⟩ (.plan [14] (.take 0 ⟨[], false, []⟩ (.take 1 ⟨[], false, []⟩ (.take 2 ⟨[], false, []⟩ (.take 3 ⟨[], true, []⟩ (.take 4 ⟨[], false, []⟩ (.take 5 ⟨[], false, []⟩ (.take 6 ⟨[], false, []⟩ (.take 7 ⟨[], false, []⟩ (.take 8 ⟨[], false, []⟩ (.take 9 ⟨[], false, []⟩ (.take 10 ⟨[], false, []⟩ (.take 11 ⟨[], false, []⟩ (.take 12 ⟨[], false, []⟩ (.take 13 ⟨[], false, []⟩ (.alt 14 false ⟨[], false, []⟩ (.take 15 ⟨[], false, []⟩ (.take 16 ⟨[], false, []⟩ .done)) .done)))))))))))))))) (.cond .leaf .leaf)) (.seq (.block (.plan [15, 17] (.take 0 ⟨[], false, []⟩ (.take 1 ⟨[], false, []⟩ (.take 2 ⟨[], false, []⟩ (.take 3 ⟨[], false, []⟩ (.take 4 ⟨[], false, []⟩ (.take 5 ⟨[], false, []⟩ (.take 6 ⟨[], false, []⟩ (.take 7 ⟨[], false, []⟩ (.take 8 ⟨[], false, []⟩ (.take 9 ⟨[], false, []⟩ (.take 10 ⟨[], false, []⟩ (.take 11 ⟨[], false, []⟩ (.take 12 ⟨[], false, []⟩ (.take 13 ⟨[], false, []⟩ (.take 14 ⟨[], false, []⟩ (.alt 15 false ⟨[], false, []⟩ (.take 16 ⟨[], false, []⟩ (.alt 17 false ⟨[], false, []⟩ .done .done)) .done)))))))))))))))))) (.txt []))))))) (.txt []))))))
set_option maxRecDepth 100000 in
theorem M_slices_insertionSortCmpFunc_int_ok (σ : Hp) (data_A : Option Addr) (data_n : Nat) (data_c : Nat) (a : Int) (b : Int) (cmp : Value) (R : Value → Hp → Prop) (h : M_slices_insertionSortCmpFunc_int σ data_A data_n data_c a b cmp R) : FCalls Try.prog 102 #[(.slice data_A data_n data_c), (.int .i64 a), (.int .i64 b), cmp] σ R :=
  fcalls_of_M mixed_M4 M_slices_insertionSortCmpFunc_int_an Try.func102 rfl (by kernel_rfl) (by kernel_rfl) (M := M_slices_insertionSortCmpFunc_int σ data_A data_n data_c a b cmp R) (by kernel_rfl) h
theorem M_slices_insertionSortCmpFunc_int_enter : enterB Try.prog 102 = true := by kernel_rfl

abbrev N_slices_symMergeCmpFunc_int : FuncId := 103
/-- slices.symMergeCmpFunc[int] -/
def M_slices_symMergeCmpFunc_int (σ : Hp) (a0_A : Option Addr) (a0_n : Nat) (a0_c : Nat) (a1 : Int) (a2 : Int) (a3 : Int) (a4 : Value) (R : Value → Hp → Prop) : Prop :=
  cut (α := Hp → Prop) (fun  σ2 => ∀ _ : Nat → Value, cut (α := Hp → Prop) (fun  σ5 => ∀ _ : Nat → Value, 
    wk .i64 (a1 + a3) (fun n7 => wk .u64 (n7) (fun n8 => (0 ≤ (1 : Int) ∧ wk .i64 (Int.fdiv n8 (2 ^ (min (1 : Int).toNat (IntKind.bits .u64)))) (fun n9 => 
    wk .i64 (n9 + a2) (fun n10 => cut (α := Int → Int → Hp → Prop) (fun n14 n15 σ12 => ∀ _ : Nat → Value, 
    wk .i64 (n10 - 1) (fun n16 => cut (α := Int → Hp → Prop) (fun n20 σ18 => ∀ _ : Nat → Value, wk .i64 (n10 - n20) (fun n21 => 
    cut (α := Hp → Prop) (fun  σ23 => ∀ _ : Nat → Value, cut (α := Hp → Prop) (fun  σ26 => ∀ _ : Nat → Value, 
    cut (α := Bool → Hp → Prop) (fun t31 σ29 => ∀ _ : Nat → Value, bc t31 (cl Try.prog (.func (.func 103) #[] #[]) #[(.slice a0_A a0_n a0_c), (.int .i64 n9), (.int .i64 n21), (.int .i64 a3), a4] σ29 (fun _ σ33 => 
    rt σ33 R (.tuple #[]))) (rt σ29 R (.tuple #[]))) (fun J30 => bc (decide (n9 < n21)) (J30 (decide (n21 < a3)) σ26) (J30 false σ26))) (fun J27 => 
    cut (α := Bool → Hp → Prop) (fun t37 σ35 => ∀ _ : Nat → Value, bc t37 (cl Try.prog (.func (.func 103) #[] #[]) #[(.slice a0_A a0_n a0_c), (.int .i64 a1), (.int .i64 n20), (.int .i64 n9), a4] σ35 (fun _ σ39 => 
    J27 σ39)) (J27 σ35)) (fun J36 => bc (decide (a1 < n20)) (J36 (decide (n20 < n9)) σ23) (J36 false σ23)))) (fun J24 => 
    cut (α := Bool → Hp → Prop) (fun t43 σ41 => ∀ _ : Nat → Value, bc t43 (cl Try.prog (.func (.func 104) #[] #[]) #[(.slice a0_A a0_n a0_c), (.int .i64 n20), (.int .i64 a2), (.int .i64 n21), a4] σ41 (fun _ σ45 => 
    J24 σ45)) (J24 σ41)) (fun J42 => bc (decide (n20 < a2)) (J42 (decide (a2 < n21)) σ18) (J42 false σ18))))) (fun J19 => 
    ∃ I48 : Nat → Int → Int → Hp → Prop, (∃ n490, I48 n490 n14 n15 σ12) ∧ ∀ n49 : Nat, ∀ n50 : Int, ∀ n51 : Int, ∀ σ47 : Hp, I48 n49 n50 n51 σ47 → ∀ _ : Nat → Value, bc (decide (n50 < n51)) (wk .i64 (n50 + n51) (fun n52 => 
    wk .u64 (n52) (fun n53 => (0 ≤ (1 : Int) ∧ wk .i64 (Int.fdiv n53 (2 ^ (min (1 : Int).toNat (IntKind.bits .u64)))) (fun n54 => 
    wk .i64 (n16 - n54) (fun n55 => ix a0_A a0_n n55 1 (fun b56 a57 => ldI σ47 .i64 b56 a57 (fun n58 => ix a0_A a0_n n54 1 (fun b59 a60 => 
    ldI σ47 .i64 b59 a60 (fun n61 => cl Try.prog a4 #[(.int .i64 n58), (.int .i64 n61)] σ47 (fun v62 σ63 => 
    ∃ n64 : Int, (v62 = (.int .i64 n64) ∧ bc (!(decide (n64 < 0))) (wk .i64 (n54 + 1) (fun n65 => bk σ63 n49 (fun m66 σ67 => 
    I48 m66 n65 n51 σ67))) (bk σ63 n49 (fun m68 σ69 => I48 m68 n50 n54 σ69)))))))))))))) (J19 n50 σ47)))) (fun J13 => 
    bc (decide (n9 < a2)) (wk .i64 (n10 - a3) (fun n70 => J13 n70 n9 σ5)) (J13 a1 a2 σ5)))))))) (fun J6 => 
    wk .i64 (a3 - a2) (fun n71 => bc (decide (n71 = 1)) (cut (α := Int → Hp → Prop) (fun n75 σ73 => ∀ _ : Nat → Value, 
    ∃ I78 : Nat → Int → Hp → Prop, (∃ n790, I78 n790 a2 σ73) ∧ ∀ n79 : Nat, ∀ n80 : Int, ∀ σ77 : Hp, I78 n79 n80 σ77 → ∀ _ : Nat → Value, bc (decide (n75 < n80)) (wk .i64 (n80 - 1) (fun n81 => 
    wk .i64 (n80 - 1) (fun n82 => ix a0_A a0_n n82 1 (fun b83 a84 => ldI σ77 .i64 b83 a84 (fun n85 => ix a0_A a0_n n80 1 (fun b86 a87 => 
    ldI σ77 .i64 b86 a87 (fun n88 => ix a0_A a0_n n80 1 (fun b89 a90 => st σ77 b89 a90 (.int .i64 n85) (fun σ91 => 
    ix a0_A a0_n n81 1 (fun b92 a93 => st σ91 b92 a93 (.int .i64 n88) (fun σ94 => wk .i64 (n80 - 1) (fun n95 => 
    bk σ94 n79 (fun m96 σ97 => I78 m96 n95 σ97))))))))))))) (rt σ77 R (.tuple #[]))) (fun J74 => ∃ I100 : Nat → Int → Int → Hp → Prop, (∃ n1010, I100 n1010 a1 a2 σ2) ∧ 
    ∀ n101 : Nat, ∀ n102 : Int, ∀ n103 : Int, ∀ σ99 : Hp, I100 n101 n102 n103 σ99 → ∀ _ : Nat → Value, bc (decide (n102 < n103)) (wk .i64 (n102 + n103) (fun n104 => 
    wk .u64 (n104) (fun n105 => (0 ≤ (1 : Int) ∧ wk .i64 (Int.fdiv n105 (2 ^ (min (1 : Int).toNat (IntKind.bits .u64)))) (fun n106 => 
    ix a0_A a0_n a2 1 (fun b107 a108 => ldI σ99 .i64 b107 a108 (fun n109 => ix a0_A a0_n n106 1 (fun b110 a111 => 
    ldI σ99 .i64 b110 a111 (fun n112 => cl Try.prog a4 #[(.int .i64 n109), (.int .i64 n112)] σ99 (fun v113 σ114 => 
    ∃ n115 : Int, (v113 = (.int .i64 n115) ∧ bc (!(decide (n115 < 0))) (wk .i64 (n106 + 1) (fun n116 => bk σ114 n101 (fun m117 σ118 => 
    I100 m117 n116 n103 σ118))) (bk σ114 n101 (fun m119 σ120 => I100 m119 n102 n106 σ120))))))))))))) (J74 n102 σ99))) (J6 σ2)))) (fun J3 => 
    wk .i64 (a2 - a1) (fun n121 => bc (decide (n121 = 1)) (cut (α := Int → Hp → Prop) (fun n125 σ123 => ∀ _ : Nat → Value, 
    ∃ I128 : Nat → Int → Hp → Prop, (∃ n1290, I128 n1290 a1 σ123) ∧ ∀ n129 : Nat, ∀ n130 : Int, ∀ σ127 : Hp, I128 n129 n130 σ127 → ∀ _ : Nat → Value, wk .i64 (n125 - 1) (fun n131 => 
    bc (decide (n130 < n131)) (wk .i64 (n130 + 1) (fun n132 => wk .i64 (n130 + 1) (fun n133 => ix a0_A a0_n n133 1 (fun b134 a135 => 
    ldI σ127 .i64 b134 a135 (fun n136 => ix a0_A a0_n n130 1 (fun b137 a138 => ldI σ127 .i64 b137 a138 (fun n139 => 
    ix a0_A a0_n n130 1 (fun b140 a141 => st σ127 b140 a141 (.int .i64 n136) (fun σ142 => ix a0_A a0_n n132 1 (fun b143 a144 => 
    st σ142 b143 a144 (.int .i64 n139) (fun σ145 => wk .i64 (n130 + 1) (fun n146 => bk σ145 n129 (fun m147 σ148 => 
    I128 m147 n146 σ148))))))))))))) (rt σ127 R (.tuple #[])))) (fun J124 => ∃ I151 : Nat → Int → Int → Hp → Prop, (∃ n1520, I151 n1520 a2 a3 σ) ∧ 
    ∀ n152 : Nat, ∀ n153 : Int, ∀ n154 : Int, ∀ σ150 : Hp, I151 n152 n153 n154 σ150 → ∀ _ : Nat → Value, bc (decide (n153 < n154)) (wk .i64 (n153 + n154) (fun n155 => 
    wk .u64 (n155) (fun n156 => (0 ≤ (1 : Int) ∧ wk .i64 (Int.fdiv n156 (2 ^ (min (1 : Int).toNat (IntKind.bits .u64)))) (fun n157 => 
    ix a0_A a0_n n157 1 (fun b158 a159 => ldI σ150 .i64 b158 a159 (fun n160 => ix a0_A a0_n a1 1 (fun b161 a162 => 
    ldI σ150 .i64 b161 a162 (fun n163 => cl Try.prog a4 #[(.int .i64 n160), (.int .i64 n163)] σ150 (fun v164 σ165 => 
    ∃ n166 : Int, (v164 = (.int .i64 n166) ∧ bc (decide (n166 < 0)) (wk .i64 (n157 + 1) (fun n167 => bk σ165 n152 (fun m168 σ169 => 
    I151 m168 n167 n154 σ169))) (bk σ165 n152 (fun m170 σ171 => I151 m170 n153 n157 σ171))))))))))))) (J124 n153 σ150))) (J3 σ)))
def M_slices_symMergeCmpFunc_int_an : MAn := (.cut ⟨[], 0, [], [(0, true), (1, true), (2, true), (3, true), (4, false)]⟩ (.seq (.txt []) (.cond (.seq (.txt []) (.seq (.txt []) (.cut ⟨[], 0, [.slot 10 (.sc (.int .i64))], [(0, true), (1, true)]⟩ (.block (.loop ⟨[], 0, [.slot 10 (.sc (.int .i64)), .slot 11 (.sc (.int .i64))], [(0, true), (1, true), (4, false)]⟩ (.seq (.seq (.txt []) (.cond .leaf .leaf)) (.block (.seq (.txt []) (.seq (.plan [9] (.take 0 ⟨[], false, []⟩ (.take 1 ⟨[], false, []⟩ (.take 2 ⟨[], false, []⟩ (.take 3 ⟨[], false, []⟩ (.take 4 ⟨[], false, []⟩ (.take 5 ⟨[], false, []⟩ (.take 6 ⟨[], false, []⟩ (.take 7 ⟨[], false, []⟩ (.take 8 ⟨[], false, []⟩ (.alt 9 false ⟨[], false, []⟩ (.take 10 ⟨[], false, []⟩ .done) .done))))))))))) (.cond (.txt []) (.txt [])))))))) (.seq (.seq (.txt []) (.block (.loop ⟨[], 0, [.slot 13 (.sc (.int .i64))], [(0, true), (10, true)]⟩ (.seq (.seq (.txt []) (.cond .leaf .leaf)) (.seq (.block (.plan [15, 17] (.take 0 ⟨[], false, []⟩ (.take 1 ⟨[], false, []⟩ (.take 2 ⟨[], false, []⟩ (.take 3 ⟨[], false, []⟩ (.take 4 ⟨[], false, []⟩ (.take 5 ⟨[], false, []⟩ (.take 6 ⟨[], false, []⟩ (.take 7 ⟨[], false, []⟩ (.take 8 ⟨[], false, []⟩ (.take 9 ⟨[], false, []⟩ (.take 10 ⟨[], false, []⟩ (.take 11 ⟨[], false, []⟩ (.take 12 ⟨[], false, []⟩ (.take 13 ⟨[], false, []⟩ (.take 14 ⟨[], false, []⟩ (.alt 15 false ⟨[], false, []⟩ (.take 16 ⟨[], false, []⟩ (.alt 17 false ⟨[], false, []⟩ .done .done)) .done)))))))))))))))))) (.txt [])))))) .leaf)))) .leaf)) (.cut ⟨[], 0, [], [(0, true), (1, true), (2, true), (3, true), (4, false)]⟩ (.seq (.txt []) (.cond (.seq (.txt []) (.seq (.txt []) (.cut ⟨[], 0, [.slot 14 (.sc (.int .i64))], [(0, true), (2, true)]⟩ (.block (.loop ⟨[], 0, [.slot 14 (.sc (.int .i64)), .slot 15 (.sc (.int .i64))], [(0, true), (2, true), (4, false)]⟩ (.seq (.seq (.txt []) (.cond .leaf .leaf)) (.block (.seq (.txt []) (.seq (.plan [9] (.take 0 ⟨[], false, []⟩ (.take 1 ⟨[], false, []⟩ (.take 2 ⟨[], false, []⟩ (.take 3 ⟨[], false, []⟩ (.take 4 ⟨[], false, []⟩ (.take 5 ⟨[], false, []⟩ (.take 6 ⟨[], false, []⟩ (.take 7 ⟨[], false, []⟩ (.take 8 ⟨[], false, []⟩ (.alt 9 false ⟨[], false, []⟩ (.take 10 ⟨[], false, []⟩ (.take 11 ⟨[], false, []⟩ .done)) .done))))))))))) (.cond (.txt []) (.txt [])))))))) (.seq (.seq (.txt []) (.block (.loop ⟨[], 0, [.slot 17 (.sc (.int .i64))], [(0, true), (14, true)]⟩ (.seq (.seq (.txt []) (.cond .leaf .leaf)) (.seq (.block (.plan [15, 17] (.take 0 ⟨[], false, []⟩ (.take 1 ⟨[], false, []⟩ (.take 2 ⟨[], false, []⟩ (.take 3 ⟨[], false, []⟩ (.take 4 ⟨[], false, []⟩ (.take 5 ⟨[], false, []⟩ (.take 6 ⟨[], false, []⟩ (.take 7 ⟨[], false, []⟩ (.take 8 ⟨[], false, []⟩ (.take 9 ⟨[], false, []⟩ (.take 10 ⟨[], false, []⟩ (.take 11 ⟨[], false, []⟩ (.take 12 ⟨[], false, []⟩ (.take 13 ⟨[], false, []⟩ (.take 14 ⟨[], false, []⟩ (.alt 15 false ⟨[], false, []⟩ (.take 16 ⟨[], false, []⟩ (.alt 17 false ⟨[], false, []⟩ .done .done)) .done)))))))))))))))))) (.txt [])))))) .leaf)))) .leaf)) (.seq (.txt []) (.seq (.txt []) (.seq (.txt []) (.cut ⟨[], 0, [.slot 20 (.sc (.int .i64)), .slot 21 (.sc (.int .i64))], [(0, true), (1, true), (2, true), (3, true), (4, false), (18, true), (19, true)]⟩ (.seq (.txt []) (.cond (.seq (.txt []) (.txt [])) (.seq (.txt []) (.txt [])))) (.seq (.txt []) (.cut ⟨[], 0, [.slot 20 (.sc (.int .i64))], [(0, true), (1, true), (2, true), (3, true), (4, false), (18, true), (19, true)]⟩ (.block (.loop ⟨[], 0, [.slot 20 (.sc (.int .i64)), .slot 21 (.sc (.int .i64))], [(0, true), (1, true), (2, true), (3, true), (4, false), (18, true), (19, true), (22, true)]⟩ (.seq (.seq (.txt []) (.cond .leaf .leaf)) (.block (.seq (.txt []) (.seq (.plan [11] (.take 0 ⟨[], false, []⟩ (.take 1 ⟨[], false, []⟩ (.take 2 ⟨[], false, []⟩ (.take 3 ⟨[], false, []⟩ (.take 4 ⟨[], false, []⟩ (.take 5 ⟨[], false, []⟩ (.take 6 ⟨[], false, []⟩ (.take 7 ⟨[], false, []⟩ (.take 8 ⟨[], false, []⟩ (.take 9 ⟨[], false, []⟩ (.take 10 ⟨[], false, []⟩ (.alt 11 false ⟨[], false, []⟩ (.take 12 ⟨[], false, []⟩ (.take 13 ⟨[], false, []⟩ .done)) .done))))))))))))) (.cond (.txt []) (.txt [])))))))) (.seq (.txt []) (.cut ⟨[], 0, [], [(0, true), (1, true), (3, true), (4, false), (18, true), (20, true), (24, true)]⟩ (.cut ⟨[], 0, [.slot 185 (.sc (.bool))], [(0, true), (1, true), (2, true), (3, true), (4, false), (18, true), (20, true), (24, true)]⟩ (.txt [⟨[], false, []⟩, ⟨[], false, []⟩, ⟨[], false, []⟩, ⟨[], true, []⟩]) (.cond (.txt []) .leaf)) (.cut ⟨[], 0, [], [(0, true), (3, true), (4, false), (18, true), (24, true)]⟩ (.cut ⟨[], 0, [.slot 199 (.sc (.bool))], [(0, true), (1, true), (3, true), (4, false), (18, true), (20, true), (24, true)]⟩ (.txt [⟨[], false, []⟩, ⟨[], false, []⟩, ⟨[], false, []⟩, ⟨[], true, []⟩]) (.cond (.txt []) .leaf)) (.cut ⟨[], 0, [.slot 213 (.sc (.bool))], [(0, true), (3, true), (4, false), (18, true), (24, true)]⟩ (.txt [⟨[], false, []⟩, ⟨[], false, []⟩, ⟨[], false, []⟩, ⟨[], true, []⟩]) (.cond (.txt []) .leaf)))))))))))))
set_option maxRecDepth 100000 in
theorem M_slices_symMergeCmpFunc_int_ok (σ : Hp) (a0_A : Option Addr) (a0_n : Nat) (a0_c : Nat) (a1 : Int) (a2 : Int) (a3 : Int) (a4 : Value) (R : Value → Hp → Prop) (h : M_slices_symMergeCmpFunc_int σ a0_A a0_n a0_c a1 a2 a3 a4 R) : FCalls Try.prog 103 #[(.slice a0_A a0_n a0_c), (.int .i64 a1), (.int .i64 a2), (.int .i64 a3), a4] σ R :=
  fcalls_of_M mixed_M4 M_slices_symMergeCmpFunc_int_an Try.func103 rfl (by kernel_rfl) (by kernel_rfl) (M := M_slices_symMergeCmpFunc_int σ a0_A a0_n a0_c a1 a2 a3 a4 R) (by kernel_rfl) h
theorem M_slices_symMergeCmpFunc_int_enter : enterB Try.prog 103 = true := by kernel_rfl

abbrev N_slices_rotateCmpFunc_int : FuncId := 104
/-- slices.rotateCmpFunc[int] -/
def M_slices_rotateCmpFunc_int (σ : Hp) (data_A : Option Addr) (data_n : Nat) (data_c : Nat) (a : Int) (m : Int) (b : Int) (cmp : Value) (R : Value → Hp → Prop) : Prop :=
  wk .i64 (m - a) (fun n1 => wk .i64 (b - m) (fun n2 => cut (α := Int → Hp → Prop) (fun n6 σ4 => ∀ _ : Nat → Value, 
    wk .i64 (m - n6) (fun n7 => cl Try.prog (.func (.func 105) #[] #[]) #[(.slice data_A data_n data_c), (.int .i64 n7), (.int .i64 m), (.int .i64 n6), cmp] σ4 (fun _ σ9 => 
    rt σ9 R (.tuple #[])))) (fun J5 => ∃ I12 : Nat → Int → Int → Hp → Prop, (∃ n130, I12 n130 n1 n2 σ) ∧ 
    ∀ n13 : Nat, ∀ n14 : Int, ∀ n15 : Int, ∀ σ11 : Hp, I12 n13 n14 n15 σ11 → ∀ _ : Nat → Value, bc (!decide (n14 = n15)) (bc (decide (n15 < n14)) (wk .i64 (m - n14) (fun n16 => 
    cl Try.prog (.func (.func 105) #[] #[]) #[(.slice data_A data_n data_c), (.int .i64 n16), (.int .i64 m), (.int .i64 n15), cmp] σ11 (fun _ σ18 => 
    wk .i64 (n14 - n15) (fun n19 => bk σ18 n13 (fun m20 σ21 => I12 m20 n19 n15 σ21))))) (wk .i64 (m - n14) (fun n22 => 
    wk .i64 (m + n15) (fun n23 => wk .i64 (n23 - n14) (fun n24 => cl Try.prog (.func (.func 105) #[] #[]) #[(.slice data_A data_n data_c), (.int .i64 n22), (.int .i64 n24), (.int .i64 n14), cmp] σ11 (fun _ σ26 => 
    wk .i64 (n15 - n14) (fun n27 => bk σ26 n13 (fun m28 σ29 => I12 m28 n14 n27 σ29)))))))) (J5 n14 σ11))))
def M_slices_rotateCmpFunc_int_an : MAn := (.seq (.txt []) (.seq (.txt []) (.cut ⟨[], 0, [.slot 10 (.sc (.int .i64))], [(0, true), (2, true), (4, false)]⟩ (.block (.loop ⟨[], 0, [.slot 10 (.sc (.int .i64)), .slot 11 (.sc (.int .i64))], [(0, true), (2, true), (4, false)]⟩ (.seq (.seq (.txt []) (.cond .leaf .leaf)) (.block (.seq (.txt []) (.cond (.seq (.txt []) (.txt [])) (.seq (.txt []) (.txt [])))))))) (.txt []))))
set_option maxRecDepth 100000 in
theorem M_slices_rotateCmpFunc_int_ok (σ : Hp) (data_A : Option Addr) (data_n : Nat) (data_c : Nat) (a : Int) (m : Int) (b : Int) (cmp : Value) (R : Value → Hp → Prop) (h : M_slices_rotateCmpFunc_int σ data_A data_n data_c a m b cmp R) : FCalls Try.prog 104 #[(.slice data_A data_n data_c), (.int .i64 a), (.int .i64 m), (.int .i64 b), cmp] σ R :=
  fcalls_of_M mixed_M4 M_slices_rotateCmpFunc_int_an Try.func104 rfl (by kernel_rfl) (by kernel_rfl) (M := M_slices_rotateCmpFunc_int σ data_A data_n data_c a m b cmp R) (by kernel_rfl) h
theorem M_slices_rotateCmpFunc_int_enter : enterB Try.prog 104 = true := by kernel_rfl

abbrev N_slices_swapRangeCmpFunc_int : FuncId := 105
/-- slices.swapRangeCmpFunc[int] -/
def M_slices_swapRangeCmpFunc_int (σ : Hp) (data_A : Option Addr) (data_n : Nat) (_ : Nat) (a : Int) (b : Int) (n : Int) (_ : Value) (R : Value → Hp → Prop) : Prop :=
  ∃ I4 : Nat → Int → Hp → Prop, (∃ n50, I4 n50 0 σ) ∧ ∀ n5 : Nat, ∀ n6 : Int, ∀ σ3 : Hp, I4 n5 n6 σ3 → ∀ _ : Nat → Value, bc (decide (n6 < n)) (wk .i64 (a + n6) (fun n7 => 
    wk .i64 (b + n6) (fun n8 => wk .i64 (b + n6) (fun n9 => ix data_A data_n n9 1 (fun b10 a11 => ldI σ3 .i64 b10 a11 (fun n12 => 
    wk .i64 (a + n6) (fun n13 => ix data_A data_n n13 1 (fun b14 a15 => ldI σ3 .i64 b14 a15 (fun n16 => ix data_A data_n n7 1 (fun b17 a18 => 
    st σ3 b17 a18 (.int .i64 n12) (fun σ19 => ix data_A data_n n8 1 (fun b20 a21 => st σ19 b20 a21 (.int .i64 n16) (fun σ22 => 
    wk .i64 (n6 + 1) (fun n23 => bk σ22 n5 (fun m24 σ25 => I4 m24 n23 σ25))))))))))))))) (rt σ3 R (.tuple #[]))
def M_slices_swapRangeCmpFunc_int_an : MAn := (.seq (.txt []) (.block (.loop ⟨[], 0, [.slot 10 (.sc (.int .i64))], [(0, true), (1, true), (2, true), (3, true)]⟩ (.seq (.seq (.txt []) (.cond .leaf .leaf)) (.seq (.block (.plan [21, 23] (.take 0 ⟨[], false, []⟩ (.take 1 ⟨[], false, []⟩ (.take 2 ⟨[], false, []⟩ (.take 3 ⟨[], false, []⟩ (.take 4 ⟨[], false, []⟩ (.take 5 ⟨[], false, []⟩ (.take 6 ⟨[], false, []⟩ (.take 7 ⟨[], false, []⟩ (.take 8 ⟨[], false, []⟩ (.take 9 ⟨[], false, []⟩ (.take 10 ⟨[], false, []⟩ (.take 11 ⟨[], false, []⟩ (.take 12 ⟨[], false, []⟩ (.take 13 ⟨[], false, []⟩ (.take 14 ⟨[], false, []⟩ (.take 15 ⟨[], false, []⟩ (.take 16 ⟨[], false, []⟩ (.take 17 ⟨[], false, []⟩ (.take 18 ⟨[], false, []⟩ (.take 19 ⟨[], false, []⟩ (.take 20 ⟨[], false, []⟩ (.alt 21 false ⟨[], false, []⟩ (.take 22 ⟨[], false, []⟩ (.alt 23 false ⟨[], false, []⟩ .done .done)) .done)))))))))))))))))))))))) (.txt []))))))
set_option maxRecDepth 100000 in
theorem M_slices_swapRangeCmpFunc_int_ok (σ : Hp) (data_A : Option Addr) (data_n : Nat) (data_c : Nat) (a : Int) (b : Int) (n : Int) (cmp : Value) (R : Value → Hp → Prop) (h : M_slices_swapRangeCmpFunc_int σ data_A data_n data_c a b n cmp R) : FCalls Try.prog 105 #[(.slice data_A data_n data_c), (.int .i64 a), (.int .i64 b), (.int .i64 n), cmp] σ R :=
  fcalls_of_M mixed_M4 M_slices_swapRangeCmpFunc_int_an Try.func105 rfl (by kernel_rfl) (by kernel_rfl) (M := M_slices_swapRangeCmpFunc_int σ data_A data_n data_c a b n cmp R) (by kernel_rfl) h
theorem M_slices_swapRangeCmpFunc_int_enter : enterB Try.prog 105 = true := by kernel_rfl

end Go.Proofs.Ytmpkiaghkhhlhaa

/- M-forms, printed by wip/gen/genm.py out of the translation: each function as a proposition over its local objects, with the lemma that it is what the function does. -/
namespace Go.Proofs.Ytmpkiaghkhhlhaa
open Go.RowKit

theorem mixed_M5 : Try.prog.follows .mixedOrders = true := by kernel_rfl

abbrev N_ground_Cable : FuncId := 15
/-- waltzer/ground.Cable -/
def M_ground_Cable (σ : Hp) (a0_Wide : Int) (a0_High : Int) (a0_Cells_A : Option Addr) (a0_Cells_n : Nat) (a0_Cells_c : Nat) (a0_Heights_A : Option Addr) (a0_Heights_n : Nat) (a0_Heights_c : Nat) (a1_A : Option Addr) (a1_n : Nat) (a1_c : Nat) (a2_A : Option Addr) (a2_n : Nat) (a2_c : Nat) (a3 : Int) (a4 : Int) (R : Value → Hp → Prop) : Prop :=
  exl 3 [.int .i64] ([a3, a4] : List Int) σ (fun A1 l1 c1 σ2 => cl Try.prog (.func (.func 45) #[] #[]) #[(.agg #[(.int .i64 a0_Wide), (.int .i64 a0_High), (.slice a0_Cells_A a0_Cells_n a0_Cells_c), (.slice a0_Heights_A a0_Heights_n a0_Heights_c)]), (.slice a1_A a1_n a1_c), (.slice a2_A a2_n a2_c), (.slice A1 l1 c1)] σ2 (fun v3 σ4 => 
    ∃ p5 : Option Addr, ∃ n6 : Int, (v3 = (.tuple #[(.pointer p5), (.int .i64 n6)]) ∧ bc (!decide (n6 = 0)) (rt σ4 R (.tuple #[(.slice none 0 0), (.int .i64 0), (.int .i64 n6)])) (cut (α := Hp → Prop) (fun  σ8 => 
    ∀ _ : Nat → Value, dr p5 (fun b10 o11 => ldS σ8 b10 (o11 + 2) (fun _ l12 _ => exl 3 [.int .i64] ([(-1)] : List Int) σ8 (fun A13 l13 c13 σ14 => 
    cl Try.prog (.func (.func 47) #[] #[]) #[(.slice A13 l13 c13), (.int .i64 ((l12 : Nat) : Int))] σ14 (fun v15 σ16 => 
    ∃ A17 : Option Addr, ∃ l17 : Nat, ∃ c17 : Nat, (v15 = (.slice A17 l17 c17) ∧ adp 3 [.int .i64] A17 l17 c17 σ16 (fun (xs18 : List Int) σ19 => 
    cl Try.prog (.func (.func 48) #[] #[]) #[(.pointer p5), (.int .i64 a4)] σ19 (fun v20 σ21 => ∃ n22 : Int, (v20 = (.int .i64 n22) ∧ 
    (Hp.Sub σ19 σ21 ∧ (0 ≤ a4 ∧ a4 < ((List.length xs18 : Nat) : Int) ∧ lat xs18 ((a4 : Int).toNat) (fun _ => 
    cut (α := List Int → Hp → Prop) (fun xs27 σ25 => ∀ _ : Nat → Value, (0 ≤ a3 ∧ a3 < ((List.length xs27 : Nat) : Int) ∧ 
    lat xs27 ((a3 : Int).toNat) (fun r28 => bc (decide (r28 < 0)) (rt σ25 R (.tuple #[(.slice none 0 0), (.int .i64 0), (.int .i64 3)])) (cut (α := Option Addr → List Int → Hp → Prop) (fun p32 xs33 σ30 => 
    ∀ _ : Nat → Value, dr p32 (fun b34 o35 => ldS σ30 b34 o35 (fun A36 l36 _ => ix A36 l36 a3 1 (fun b37 a38 => 
    ldI σ30 .i64 b37 a38 (fun n39 => exl 3 [.int .i64] xs33 σ30 (fun A40 l40 c40 σ41 => rt σ41 R (.tuple #[(.slice A40 l40 c40), (.int .i64 n39), (.int .i64 0)]))))))) (fun J31 => 
    ∃ I44 : Nat → List Int → Option Addr → Option Addr → Option Addr → Hp → Prop, (∃ n450, bx σ25 (.cells #[(.pointer p5)] 67) (fun b46 σ47 => 
    exl 3 [.int .i64] xs27 σ47 (fun A48 l48 c48 σ49 => bx σ49 (.cells #[(.slice A48 l48 c48)] 22) (fun b50 σ51 => 
    bx σ51 (.cells #[(.int .i64 a3)] 3) (fun b52 σ53 => I44 n450 ([a3] : List Int) (some ⟨b46, 0, none⟩) (some ⟨b50, 0, none⟩) (some ⟨b52, 0, none⟩) σ53))))) ∧ 
    ∀ n45 : Nat, ∀ xs54 : List Int, ∀ p55 : Option Addr, ∀ p56 : Option Addr, ∀ p57 : Option Addr, ∀ σ43 : Hp, I44 n45 xs54 p55 p56 p57 σ43 → ∀ _ : Nat → Value, dr p57 (fun b58 o59 => 
    ldI σ43 .i64 b58 o59 (fun n60 => bc (!decide (n60 = a4)) (dr p55 (fun b61 o62 => ldP σ43 b61 o62 (fun p63 => 
    dr p57 (fun b64 o65 => ldI σ43 .i64 b64 o65 (fun n66 => cl Try.prog (.func (.func 49) #[] #[]) #[(.pointer p63), (.int .i64 n66)] σ43 (fun v67 σ68 => 
    ∃ A69 : Option Addr, ∃ l69 : Nat, ∃ c69 : Nat, (v67 = (.slice A69 l69 c69) ∧ adp 3 [.int .i64] A69 l69 c69 σ68 (fun (xs70 : List Int) σ71 => 
    exl 3 [.int .i64] xs70 σ71 (fun A72 l72 c72 σ73 => cl Try.prog (.func (.func 51) #[] #[]) #[(.slice A72 l72 c72), (.func (.func 52) #[] #[(.pointer p55), (.pointer p56), (.pointer p57)])] σ73 (fun v74 σ75 => 
    ∃ n76 : Int, (v74 = (.int .i64 n76) ∧ adp 3 [.int .i64] A72 l72 c72 σ75 (fun (xs77 : List Int) σ78 => 
    (0 ≤ n76 ∧ n76 < ((List.length xs77 : Nat) : Int) ∧ lat xs77 ((n76 : Int).toNat) (fun r79 => dr p57 (fun b80 o81 => 
    st σ78 b80 o81 (.int .i64 r79) (fun σ82 => dr p57 (fun b83 o84 => ldI σ82 .i64 b83 o84 (fun n85 => roomy (List.length xs54 + List.length ([n85] : List Int)) (dr p57 (fun b86 o87 => 
    ldI σ82 .i64 b86 o87 (fun n88 => bk σ82 n45 (fun m89 σ90 => bx σ90 (.cells #[(.int .i64 n88)] 3) (fun b91 σ92 => 
    I44 m89 (xs54 ++ ([n85] : List Int)) p55 p56 (some ⟨b91, 0, none⟩) σ92))))))))))))))))))))))) (J31 p56 xs54 σ43)))))))) (fun J26 => 
    ∃ I95 : Nat → Bool → List Int → Hp → Prop, (∃ n960, I95 n960 true (List.set xs18 ((a4 : Int).toNat) n22) σ21) ∧ 
    ∀ n96 : Nat, ∀ t97 : Bool, ∀ xs98 : List Int, ∀ σ94 : Hp, I95 n96 t97 xs98 σ94 → ∀ _ : Nat → Value, bc t97 (dr p5 (fun b99 o100 => 
    ldS σ94 b99 (o100 + 2) (fun _ l101 _ => ∃ I104 : Nat → Bool → Int → List Int → Hp → Prop, (∃ n1050, I104 n1050 false 0 xs98 σ94) ∧ 
    ∀ n105 : Nat, ∀ t106 : Bool, ∀ n107 : Int, ∀ xs108 : List Int, ∀ σ103 : Hp, I104 n105 t106 n107 xs108 σ103 → ∀ _ : Nat → Value, bc (decide (n107 < ((l101 : Nat) : Int))) (cut (α := Bool → List Int → Hp → Prop) (fun t112 xs113 σ110 => 
    ∀ _ : Nat → Value, wk .i64 (n107 + 1) (fun n114 => bk σ110 n105 (fun m115 σ116 => I104 m115 t112 n114 xs113 σ116))) (fun J111 => 
    cl Try.prog (.func (.func 46) #[] #[]) #[(.pointer p5), (.int .i64 n107)] σ103 (fun v117 σ118 => ∃ t119 : Bool, (v117 = (.bool t119) ∧ 
    bc (!t119) (J111 t106 xs108 σ118) (cl Try.prog (.func (.func 49) #[] #[]) #[(.pointer p5), (.int .i64 n107)] σ118 (fun v120 σ121 => 
    ∃ A122 : Option Addr, ∃ l122 : Nat, ∃ c122 : Nat, (v120 = (.slice A122 l122 c122) ∧ adp 3 [.int .i64] A122 l122 c122 σ121 (fun (xs123 : List Int) σ124 => 
    ∃ I127 : Nat → Bool → Int → List Int → Hp → Prop, (∃ n1280, I127 n1280 t106 0 xs108 σ124) ∧ ∀ n128 : Nat, ∀ t129 : Bool, ∀ n130 : Int, ∀ xs131 : List Int, ∀ σ126 : Hp, I127 n128 t129 n130 xs131 σ126 → ∀ _ : Nat → Value, bc (decide (n130 < ((List.length xs123 : Nat) : Int))) (cut (α := Bool → List Int → Hp → Prop) (fun t135 xs136 σ133 => 
    ∀ _ : Nat → Value, wk .i64 (n130 + 1) (fun n137 => bk σ133 n128 (fun m138 σ139 => I127 m138 t135 n137 xs136 σ139))) (fun J134 => 
    (0 ≤ n130 ∧ n130 < ((List.length xs123 : Nat) : Int) ∧ lat xs123 ((n130 : Int).toNat) (fun r140 => cut (α := Hp → Prop) (fun  σ142 => 
    ∀ _ : Nat → Value, (0 ≤ r140 ∧ r140 < ((List.length xs131 : Nat) : Int) ∧ lat xs131 ((r140 : Int).toNat) (fun r144 => 
    cl Try.prog (.func (.func 50) #[] #[]) #[(.pointer p5), (.int .i64 n107), (.int .i64 r140)] σ142 (fun v145 σ146 => 
    ∃ n147 : Int, (v145 = (.int .i64 n147) ∧ (Hp.Sub σ142 σ146 ∧ wk .i64 (r144 + n147) (fun n148 => cl Try.prog (.func (.func 48) #[] #[]) #[(.pointer p5), (.int .i64 n107)] σ146 (fun v149 σ150 => 
    ∃ n151 : Int, (v149 = (.int .i64 n151) ∧ (Hp.Sub σ146 σ150 ∧ wk .i64 (n148 + n151) (fun n152 => cut (α := Bool → Hp → Prop) (fun t156 σ154 => 
    ∀ _ : Nat → Value, bc t156 ((0 ≤ n107 ∧ n107 < ((List.length xs131 : Nat) : Int) ∧ lat xs131 ((n107 : Int).toNat) (fun _ => 
    J134 true (List.set xs131 ((n107 : Int).toNat) n152) σ154))) (J134 t129 xs131 σ154)) (fun J155 => (0 ≤ n107 ∧ 
    n107 < ((List.length xs131 : Nat) : Int) ∧ lat xs131 ((n107 : Int).toNat) (fun r158 => bc (decide (r158 < 0)) (J155 true σ150) ((0 ≤ n107 ∧ 
    n107 < ((List.length xs131 : Nat) : Int) ∧ lat xs131 ((n107 : Int).toNat) (fun r159 => J155 (decide (n152 < r159)) σ150))))))))))))))))) (fun J143 => 
    cut (α := Bool → Hp → Prop) (fun t163 σ161 => ∀ _ : Nat → Value, bc t163 (J134 t129 xs131 σ161) (J143 σ161)) (fun J162 => 
    (0 ≤ r140 ∧ r140 < ((List.length xs131 : Nat) : Int) ∧ lat xs131 ((r140 : Int).toNat) (fun r164 => bc (decide (r164 < 0)) (J162 true σ126) (cl Try.prog (.func (.func 46) #[] #[]) #[(.pointer p5), (.int .i64 r140)] σ126 (fun v165 σ166 => 
    ∃ t167 : Bool, (v165 = (.bool t167) ∧ J162 (!t167) σ166))))))))))) (J111 t129 xs131 σ126))))))))) (bk σ103 n96 (fun m168 σ169 => 
    I95 m168 t106 xs108 σ169))))) (J26 xs98 σ94)))))))))))))) (fun J9 => cut (α := Bool → Hp → Prop) (fun t173 σ171 => 
    ∀ _ : Nat → Value, bc t173 (rt σ171 R (.tuple #[(.slice none 0 0), (.int .i64 0), (.int .i64 1)])) (J9 σ171)) (fun J172 => 
    cl Try.prog (.func (.func 46) #[] #[]) #[(.pointer p5), (.int .i64 a3)] σ4 (fun v174 σ175 => ∃ t176 : Bool, (v174 = (.bool t176) ∧ 
    bc (!t176) (J172 true σ175) (cl Try.prog (.func (.func 46) #[] #[]) #[(.pointer p5), (.int .i64 a4)] σ175 (fun v177 σ178 => 
    ∃ t179 : Bool, (v177 = (.bool t179) ∧ J172 (!t179) σ178)))))))))))
def M_ground_Cable_an : MAn := (.seq (.txt []) (.seq (.txt []) (.seq (.seq (.txt []) (.cond (.seq (.txt []) .leaf) .leaf)) (.cut ⟨[true, false, true], 3, [.slot 13 (.hb 2 0)], [(3, true), (4, true)]⟩ (.cut ⟨[true, false, true], 3, [.slot 13 (.hb 2 0), .slot 44 (.sc (.bool))], [(3, true), (4, true)]⟩ (.txt [⟨[], false, []⟩, ⟨[], false, []⟩, ⟨[], false, []⟩, ⟨[], false, []⟩, ⟨[], true, []⟩]) (.cond (.seq (.txt []) .leaf) .leaf)) (.seq (.txt [⟨[], false, []⟩, ⟨[], false, []⟩, ⟨[], false, []⟩, ⟨[], false, []⟩, ⟨[], false, []⟩, ⟨[], false, []⟩, ⟨[], false, []⟩, ⟨[], false, [.adl 52 3 [.int .i64]]⟩]) (.seq (.plan [6] (.take 0 ⟨[], false, []⟩ (.take 1 ⟨[], false, []⟩ (.take 2 ⟨[], false, []⟩ (.take 3 ⟨[], false, []⟩ (.alt 4 true ⟨[], false, []⟩ (.take 5 ⟨[], false, []⟩ (.alt 6 false ⟨[], false, []⟩ .done .done)) .done)))))) (.cut ⟨[true, false, true, false, false, true], 6, [.slot 13 (.hb 2 0), .slot 14 (.hb 5 0), .modl 4 0 3 [.int .i64]], [(3, true), (4, true)]⟩ (.seq (.txt []) (.block (.loop ⟨[true, false, true, false, false, true], 6, [.slot 13 (.hb 2 0), .slot 14 (.hb 5 0), .slot 15 (.sc (.bool)), .modl 4 0 3 [.int .i64]], [(3, true), (4, true)]⟩ (.seq (.seq (.txt []) (.cond .leaf .leaf)) (.block (.seq (.txt []) (.seq (.txt []) (.block (.loop ⟨[true, false, true, false, false, true], 6, [.slot 13 (.hb 2 0), .slot 14 (.hb 5 0), .slot 15 (.sc (.bool)), .slot 66 (.sc (.int .i64)), .modl 4 0 3 [.int .i64]], [(3, true), (4, true), (65, true)]⟩ (.seq (.txt []) (.seq (.cond .leaf .leaf) (.cut ⟨[true, false, true, false, false, true], 6, [.slot 13 (.hb 2 0), .slot 14 (.hb 5 0), .slot 15 (.sc (.bool)), .modl 4 0 3 [.int .i64]], [(3, true), (4, true), (65, true), (66, true)]⟩ (.block (.seq (.txt []) (.seq (.seq (.txt []) (.cond .leaf .leaf)) (.seq (.txt [⟨[], false, []⟩, ⟨[], false, []⟩, ⟨[], false, [.adl 75 3 [.int .i64]]⟩]) (.block (.loop ⟨[true, false, true, false, false, true, true], 7, [.slot 13 (.hb 2 0), .slot 14 (.hb 5 0), .slot 15 (.sc (.bool)), .slot 75 (.hl 6 0), .slot 77 (.sc (.int .i64)), .modl 4 0 3 [.int .i64]], [(3, true), (4, true), (16, true), (65, true), (66, true), (76, true)]⟩ (.seq (.txt []) (.seq (.cond .leaf .leaf) (.cut ⟨[true, false, true, false, false, true, true], 7, [.slot 13 (.hb 2 0), .slot 14 (.hb 5 0), .slot 15 (.sc (.bool)), .slot 75 (.hl 6 0), .modl 4 0 3 [.int .i64]], [(3, true), (4, true), (16, true), (65, true), (66, true), (76, true), (77, true)]⟩ (.block (.seq (.txt []) (.cut ⟨[true, false, true, false, true, true, true], 7, [.slot 13 (.hb 2 0), .slot 14 (.hb 5 0), .slot 75 (.hl 6 0)], [(3, true), (4, true), (15, true), (16, true), (18, true), (65, true), (66, true), (76, true), (77, true)]⟩ (.cut ⟨[true, false, true, false, true, true, true], 7, [.slot 13 (.hb 2 0), .slot 14 (.hb 5 0), .slot 75 (.hl 6 0), .slot 91 (.sc (.bool))], [(3, true), (4, true), (15, true), (16, true), (18, true), (65, true), (66, true), (76, true), (77, true)]⟩ (.txt [⟨[], false, []⟩, ⟨[], false, []⟩, ⟨[], false, []⟩, ⟨[], false, []⟩, ⟨[], false, []⟩, ⟨[], true, []⟩]) (.cond .leaf .leaf)) (.seq (.plan [] (.take 0 ⟨[], false, []⟩ (.take 1 ⟨[], false, []⟩ (.take 2 ⟨[], false, []⟩ (.take 3 ⟨[], false, []⟩ (.take 4 ⟨[], false, []⟩ (.take 5 ⟨[], false, []⟩ (.take 6 ⟨[], false, []⟩ (.take 9 ⟨[], false, []⟩ (.take 10 ⟨[], false, []⟩ (.alt 7 true ⟨[], false, []⟩ (.take 8 ⟨[], false, []⟩ (.alt 11 true ⟨[], false, []⟩ (.take 12 ⟨[], false, []⟩ (.take 13 ⟨[], false, []⟩ .done)) .done)) .done))))))))))) (.cut ⟨[true, false, true, false, true, true, true], 7, [.slot 13 (.hb 2 0), .slot 14 (.hb 5 0), .slot 75 (.hl 6 0), .slot 117 (.sc (.bool))], [(3, true), (4, true), (15, true), (16, true), (19, true), (65, true), (66, true), (76, true), (77, true)]⟩ (.txt [⟨[], false, []⟩, ⟨[], false, []⟩, ⟨[], false, []⟩, ⟨[], false, []⟩, ⟨[], false, []⟩, ⟨[], true, []⟩]) (.cond (.txt []) .leaf)))))) (.txt [])))))))))) (.txt []))))))))))))) (.seq (.seq (.txt []) (.cond (.seq (.txt []) .leaf) .leaf)) (.seq (.txt []) (.cut ⟨[true, false, false, false, false, false, false], 7, [.slot 10 (.hl 6 0), .slot 14 (.sc (.ptr)), .modl 6 0 3 [.int .i64]], [(3, true)]⟩ (.seq (.txt []) (.block (.loop ⟨[true, false, false, false, false, false, false, false], 8, [.slot 10 (.lst 6 3 [.int .i64]), .slot 13 (.sc (.ptr)), .slot 14 (.sc (.ptr)), .slot 20 (.sc (.ptr))], [(3, true), (4, true)]⟩ (.seq (.seq (.txt []) (.cond .leaf .leaf)) (.seq (.block (.seq (.txt [⟨[], false, []⟩, ⟨[], false, []⟩, ⟨[], false, [.adl 137 3 [.int .i64]]⟩]) (.seq (.txt [⟨[], false, []⟩, ⟨[], false, []⟩, ⟨[], false, []⟩, ⟨[], false, [.adl 138 3 [.int .i64]]⟩]) (.txt [])))) (.seq (.txt []) (.txt []))))))) (.seq (.plan [] (.take 0 ⟨[], false, []⟩ (.take 1 ⟨[], false, []⟩ (.take 2 ⟨[], false, []⟩ (.take 3 ⟨[], false, []⟩ (.take 4 ⟨[], false, []⟩ (.take 5 ⟨[], false, []⟩ (.take 6 ⟨[], false, []⟩ (.take 7 ⟨[], false, []⟩ .done))))))))) .leaf)))))))))))
set_option maxRecDepth 100000 in
theorem M_ground_Cable_ok (σ : Hp) (a0_Wide : Int) (a0_High : Int) (a0_Cells_A : Option Addr) (a0_Cells_n : Nat) (a0_Cells_c : Nat) (a0_Heights_A : Option Addr) (a0_Heights_n : Nat) (a0_Heights_c : Nat) (a1_A : Option Addr) (a1_n : Nat) (a1_c : Nat) (a2_A : Option Addr) (a2_n : Nat) (a2_c : Nat) (a3 : Int) (a4 : Int) (R : Value → Hp → Prop) (h : M_ground_Cable σ a0_Wide a0_High a0_Cells_A a0_Cells_n a0_Cells_c a0_Heights_A a0_Heights_n a0_Heights_c a1_A a1_n a1_c a2_A a2_n a2_c a3 a4 R) : FCalls Try.prog 15 #[(.agg #[(.int .i64 a0_Wide), (.int .i64 a0_High), (.slice a0_Cells_A a0_Cells_n a0_Cells_c), (.slice a0_Heights_A a0_Heights_n a0_Heights_c)]), (.slice a1_A a1_n a1_c), (.slice a2_A a2_n a2_c), (.int .i64 a3), (.int .i64 a4)] σ R :=
  fcalls_of_M mixed_M5 M_ground_Cable_an Try.func15 rfl (by kernel_rfl) (by kernel_rfl) (M := M_ground_Cable σ a0_Wide a0_High a0_Cells_A a0_Cells_n a0_Cells_c a0_Heights_A a0_Heights_n a0_Heights_c a1_A a1_n a1_c a2_A a2_n a2_c a3 a4 R) (by kernel_rfl) h
theorem M_ground_Cable_enter : enterB Try.prog 15 = true := by kernel_rfl

abbrev N_ref04_Cable : FuncId := 16
/-- waltzer/waltzerref04.Cable -/
def M_ref04_Cable (σ : Hp) (a0_Wide : Int) (a0_High : Int) (a0_Cells_A : Option Addr) (a0_Cells_n : Nat) (a0_Cells_c : Nat) (a0_Heights_A : Option Addr) (a0_Heights_n : Nat) (a0_Heights_c : Nat) (a1_A : Option Addr) (a1_n : Nat) (a1_c : Nat) (a2_A : Option Addr) (a2_n : Nat) (a2_c : Nat) (a3 : Int) (a4 : Int) (R : Value → Hp → Prop) : Prop :=
  cl Try.prog (.func (.func 18) #[] #[]) #[(.agg #[(.int .i64 a0_Wide), (.int .i64 a0_High), (.slice a0_Cells_A a0_Cells_n a0_Cells_c), (.slice a0_Heights_A a0_Heights_n a0_Heights_c)]), (.slice a1_A a1_n a1_c), (.slice a2_A a2_n a2_c)] σ (fun v1 σ2 => 
    ∃ n3 : Int, ∃ n4 : Int, (v1 = (.tuple #[(.int .i64 n3), (.int .i64 n4)]) ∧ bc (!decide (n4 = 0)) (rt σ2 R (.tuple #[(.slice none 0 0), (.int .i64 0), (.int .i64 n4)])) (cl Try.prog (.func (.func 19) #[] #[]) #[(.agg #[(.int .i64 a0_Wide), (.int .i64 a0_High), (.slice a0_Cells_A a0_Cells_n a0_Cells_c), (.slice a0_Heights_A a0_Heights_n a0_Heights_c)]), (.slice a1_A a1_n a1_c), (.slice a2_A a2_n a2_c)] σ2 (fun v5 σ6 => 
    ∃ A7 : Option Addr, ∃ l7 : Nat, ∃ c7 : Nat, (v5 = (.slice A7 l7 c7) ∧ adp 4 [.bool] A7 l7 c7 σ6 (fun (xs8 : List Bool) σ9 => 
    cut (α := Hp → Prop) (fun  σ11 => ∀ _ : Nat → Value, (0 ≤ ((List.length xs8 : Nat) : Int) ∧ ((List.length xs8 : Nat) : Int) ≤ ((List.length xs8 : Nat) : Int) ∧ 
    ((List.length xs8 : Nat) : Int) ≤ (1000000000 : Int) ∧ cut (α := List Int → Hp → Prop) (fun xs16 σ14 => 
    ∀ _ : Nat → Value, exl 3 [.int .i64] ([a4] : List Int) σ14 (fun A17 l17 c17 σ18 => cl Try.prog (.func (.func 21) #[] #[]) #[(.agg #[(.int .i64 a0_Wide), (.int .i64 a0_High), (.slice a0_Cells_A a0_Cells_n a0_Cells_c), (.slice a0_Heights_A a0_Heights_n a0_Heights_c)]), (.slice A17 l17 c17)] σ18 (fun v19 σ20 => 
    ∃ n21 : Int, (v19 = (.int .i64 n21) ∧ (0 ≤ a4 ∧ a4 < ((List.length xs16 : Nat) : Int) ∧ lat xs16 ((a4 : Int).toNat) (fun _ => 
    cut (α := List Int → Hp → Prop) (fun xs26 σ24 => ∀ _ : Nat → Value, (0 ≤ a3 ∧ a3 < ((List.length xs26 : Nat) : Int) ∧ 
    lat xs26 ((a3 : Int).toNat) (fun r27 => bc (decide (r27 < 0)) (rt σ24 R (.tuple #[(.slice none 0 0), (.int .i64 0), (.int .i64 3)])) (cut (α := List Int → Hp → Prop) (fun xs31 σ29 => 
    ∀ _ : Nat → Value, (0 ≤ a3 ∧ a3 < ((List.length xs26 : Nat) : Int) ∧ lat xs26 ((a3 : Int).toNat) (fun r32 => 
    exl 3 [.int .i64] xs31 σ29 (fun A33 l33 c33 σ34 => rt σ34 R (.tuple #[(.slice A33 l33 c33), (.int .i64 r32), (.int .i64 0)]))))) (fun J30 => 
    ∃ I37 : Nat → List Int → Int → Hp → Prop, (∃ n380, I37 n380 ([a3] : List Int) a3 σ24) ∧ ∀ n38 : Nat, ∀ xs39 : List Int, ∀ n40 : Int, ∀ σ36 : Hp, I37 n38 xs39 n40 σ36 → ∀ _ : Nat → Value, bc (!decide (n40 = a4)) (cl Try.prog (.func (.func 34) #[] #[]) #[(.agg #[(.int .i64 a0_Wide), (.int .i64 a0_High), (.slice a0_Cells_A a0_Cells_n a0_Cells_c), (.slice a0_Heights_A a0_Heights_n a0_Heights_c)]), (.int .i64 n40)] σ36 (fun v41 σ42 => 
    ∃ A43 : Option Addr, ∃ l43 : Nat, ∃ c43 : Nat, (v41 = (.slice A43 l43 c43) ∧ adp 3 [.int .i64] A43 l43 c43 σ42 (fun (xs44 : List Int) σ45 => 
    cut (α := Int → Hp → Prop) (fun n49 σ47 => ∀ _ : Nat → Value, roomy (List.length xs39 + List.length ([n49] : List Int)) (bk σ47 n38 (fun m50 σ51 => 
    I37 m50 (xs39 ++ ([n49] : List Int)) n49 σ51))) (fun J48 => ∃ I54 : Nat → Int → Int → Hp → Prop, (∃ n550, I54 n550 n40 0 σ45) ∧ 
    ∀ n55 : Nat, ∀ n56 : Int, ∀ n57 : Int, ∀ σ53 : Hp, I54 n55 n56 n57 σ53 → ∀ _ : Nat → Value, bc (decide (n57 < ((List.length xs44 : Nat) : Int))) (cut (α := Int → Hp → Prop) (fun n61 σ59 => 
    ∀ _ : Nat → Value, wk .i64 (n57 + 1) (fun n62 => bk σ59 n55 (fun m63 σ64 => I54 m63 n61 n62 σ64))) (fun J60 => 
    cut (α := Bool → Hp → Prop) (fun t68 σ66 => ∀ _ : Nat → Value, bc t68 ((0 ≤ n57 ∧ n57 < ((List.length xs44 : Nat) : Int) ∧ 
    lat xs44 ((n57 : Int).toNat) (fun r69 => J48 r69 σ66))) (J60 n56 σ66)) (fun J67 => (0 ≤ n57 ∧ n57 < ((List.length xs44 : Nat) : Int) ∧ 
    lat xs44 ((n57 : Int).toNat) (fun r70 => (0 ≤ r70 ∧ r70 < ((List.length xs26 : Nat) : Int) ∧ lat xs26 ((r70 : Int).toNat) (fun r71 => 
    bc (decide ((0 : Int) ≤ r71)) ((0 ≤ n57 ∧ n57 < ((List.length xs44 : Nat) : Int) ∧ lat xs44 ((n57 : Int).toNat) (fun r72 => 
    (0 ≤ r72 ∧ r72 < ((List.length xs26 : Nat) : Int) ∧ lat xs26 ((r72 : Int).toNat) (fun r73 => (0 ≤ n57 ∧ 
    n57 < ((List.length xs44 : Nat) : Int) ∧ lat xs44 ((n57 : Int).toNat) (fun r74 => (0 ≤ n57 ∧ n57 < ((List.length xs44 : Nat) : Int) ∧ 
    lat xs44 ((n57 : Int).toNat) (fun r75 => (0 ≤ n56 ∧ n56 < ((List.length xs26 : Nat) : Int) ∧ lat xs26 ((n56 : Int).toNat) (fun r76 => 
    (((exl 3 [.int .i64] ([n56, r74] : List Int) σ53 (fun A77 l77 c77 σ78 => cl Try.prog (.func (.func 21) #[] #[]) #[(.agg #[(.int .i64 a0_Wide), (.int .i64 a0_High), (.slice a0_Cells_A a0_Cells_n a0_Cells_c), (.slice a0_Heights_A a0_Heights_n a0_Heights_c)]), (.slice A77 l77 c77)] σ78 (fun v79 σ80 => 
    ∃ n81 : Int, (v79 = (.int .i64 n81) ∧ (Hp.Sub σ78 σ80 ∧ wk .i64 (r73 + n81) (fun n82 => exl 3 [.int .i64] ([r75] : List Int) σ80 (fun A83 l83 c83 σ84 => 
    cl Try.prog (.func (.func 21) #[] #[]) #[(.agg #[(.int .i64 a0_Wide), (.int .i64 a0_High), (.slice a0_Cells_A a0_Cells_n a0_Cells_c), (.slice a0_Heights_A a0_Heights_n a0_Heights_c)]), (.slice A83 l83 c83)] σ84 (fun v85 σ86 => 
    ∃ n87 : Int, (v85 = (.int .i64 n87) ∧ (Hp.Sub σ84 σ86 ∧ wk .i64 (n82 - n87) (fun n88 => J67 (decide (n88 = r76)) σ86))))))))))) ∧ 
    (exl 3 [.int .i64] ([n56, r74] : List Int) σ53 (fun A89 l89 c89 σ90 => cl Try.prog (.func (.func 21) #[] #[]) #[(.agg #[(.int .i64 a0_Wide), (.int .i64 a0_High), (.slice a0_Cells_A a0_Cells_n a0_Cells_c), (.slice a0_Heights_A a0_Heights_n a0_Heights_c)]), (.slice A89 l89 c89)] σ90 (fun v91 σ92 => 
    ∃ n93 : Int, (v91 = (.int .i64 n93) ∧ (Hp.Sub σ90 σ92 ∧ wk .i64 (r73 + n93) (fun n94 => exl 3 [.int .i64] ([r75] : List Int) σ92 (fun A95 l95 c95 σ96 => 
    cl Try.prog (.func (.func 21) #[] #[]) #[(.agg #[(.int .i64 a0_Wide), (.int .i64 a0_High), (.slice a0_Cells_A a0_Cells_n a0_Cells_c), (.slice a0_Heights_A a0_Heights_n a0_Heights_c)]), (.slice A95 l95 c95)] σ96 (fun v97 σ98 => 
    ∃ n99 : Int, (v97 = (.int .i64 n99) ∧ (Hp.Sub σ96 σ98 ∧ wk .i64 (n94 - n99) (fun n100 => J67 (decide (n100 = r76)) σ98)))))))))))) ∧ 
    (exl 3 [.int .i64] ([n56, r74] : List Int) σ53 (fun A101 l101 c101 σ102 => cl Try.prog (.func (.func 21) #[] #[]) #[(.agg #[(.int .i64 a0_Wide), (.int .i64 a0_High), (.slice a0_Cells_A a0_Cells_n a0_Cells_c), (.slice a0_Heights_A a0_Heights_n a0_Heights_c)]), (.slice A101 l101 c101)] σ102 (fun v103 σ104 => 
    ∃ n105 : Int, (v103 = (.int .i64 n105) ∧ (Hp.Sub σ102 σ104 ∧ wk .i64 (r73 + n105) (fun n106 => exl 3 [.int .i64] ([r75] : List Int) σ104 (fun A107 l107 c107 σ108 => 
    cl Try.prog (.func (.func 21) #[] #[]) #[(.agg #[(.int .i64 a0_Wide), (.int .i64 a0_High), (.slice a0_Cells_A a0_Cells_n a0_Cells_c), (.slice a0_Heights_A a0_Heights_n a0_Heights_c)]), (.slice A107 l107 c107)] σ108 (fun v109 σ110 => 
    ∃ n111 : Int, (v109 = (.int .i64 n111) ∧ (Hp.Sub σ108 σ110 ∧ wk .i64 (n106 - n111) (fun n112 => J67 (decide (n112 = r76)) σ110))))))))))))))))))))))) ((((J67 false σ53) ∧ 
    (J67 false σ53)) ∧ (J67 false σ53)))))))))) (J48 n56 σ53)))))) (J30 xs39 σ36)))))) (fun J25 => ∃ I115 : Nat → Int → List Int → Hp → Prop, (∃ n1160, I115 n1160 0 (List.set xs16 ((a4 : Int).toNat) n21) σ20) ∧ 
    ∀ n116 : Nat, ∀ n117 : Int, ∀ xs118 : List Int, ∀ σ114 : Hp, I115 n116 n117 xs118 σ114 → ∀ _ : Nat → Value, bc (decide (n117 < ((List.length xs8 : Nat) : Int))) (cut (α := List Int → Hp → Prop) (fun xs122 σ120 => 
    ∀ _ : Nat → Value, wk .i64 (n117 + 1) (fun n123 => bk σ120 n116 (fun m124 σ125 => I115 m124 n123 xs122 σ125))) (fun J121 => 
    ∃ I128 : Nat → Int → List Int → Hp → Prop, (∃ n1290, I128 n1290 0 xs118 σ114) ∧ ∀ n129 : Nat, ∀ n130 : Int, ∀ xs131 : List Int, ∀ σ127 : Hp, I128 n129 n130 xs131 σ127 → ∀ _ : Nat → Value, bc (decide (n130 < ((List.length xs8 : Nat) : Int))) (cut (α := List Int → Hp → Prop) (fun xs135 σ133 => 
    ∀ _ : Nat → Value, wk .i64 (n130 + 1) (fun n136 => bk σ133 n129 (fun m137 σ138 => I128 m137 n136 xs135 σ138))) (fun J134 => 
    cl Try.prog (.func (.func 34) #[] #[]) #[(.agg #[(.int .i64 a0_Wide), (.int .i64 a0_High), (.slice a0_Cells_A a0_Cells_n a0_Cells_c), (.slice a0_Heights_A a0_Heights_n a0_Heights_c)]), (.int .i64 n130)] σ127 (fun v139 σ140 => 
    ∃ A141 : Option Addr, ∃ l141 : Nat, ∃ c141 : Nat, (v139 = (.slice A141 l141 c141) ∧ adp 3 [.int .i64] A141 l141 c141 σ140 (fun (xs142 : List Int) σ143 => 
    ∃ I146 : Nat → Int → List Int → Hp → Prop, (∃ n1470, I146 n1470 0 xs131 σ143) ∧ ∀ n147 : Nat, ∀ n148 : Int, ∀ xs149 : List Int, ∀ σ145 : Hp, I146 n147 n148 xs149 σ145 → ∀ _ : Nat → Value, cut (α := Hp → Prop) (fun  σ151 => 
    ∀ _ : Nat → Value, cut (α := List Int → Hp → Prop) (fun xs156 σ154 => ∀ _ : Nat → Value, wk .i64 (n148 + 1) (fun n157 => 
    bk σ154 n147 (fun m158 σ159 => I146 m158 n157 xs156 σ159))) (fun J155 => (0 ≤ n148 ∧ n148 < ((List.length xs142 : Nat) : Int) ∧ 
    lat xs142 ((n148 : Int).toNat) (fun r160 => (0 ≤ r160 ∧ r160 < ((List.length xs149 : Nat) : Int) ∧ lat xs149 ((r160 : Int).toNat) (fun r161 => 
    bc (decide (r161 < 0)) (J155 xs149 σ151) (cut (α := Int → Hp → Prop) (fun n165 σ163 => ∀ _ : Nat → Value, 
    cut (α := Bool → Hp → Prop) (fun t169 σ167 => ∀ _ : Nat → Value, bc t169 ((0 ≤ n130 ∧ n130 < ((List.length xs149 : Nat) : Int) ∧ 
    lat xs149 ((n130 : Int).toNat) (fun _ => J155 (List.set xs149 ((n130 : Int).toNat) n165) σ167))) (J155 xs149 σ167)) (fun J168 => 
    (0 ≤ n130 ∧ n130 < ((List.length xs149 : Nat) : Int) ∧ lat xs149 ((n130 : Int).toNat) (fun r171 => bc (decide (r171 < 0)) (J168 true σ163) ((0 ≤ n130 ∧ 
    n130 < ((List.length xs149 : Nat) : Int) ∧ lat xs149 ((n130 : Int).toNat) (fun r172 => J168 (decide (n165 < r172)) σ163))))))) (fun J164 => 
    (0 ≤ n148 ∧ n148 < ((List.length xs142 : Nat) : Int) ∧ lat xs142 ((n148 : Int).toNat) (fun r173 => (0 ≤ r173 ∧ 
    r173 < ((List.length xs149 : Nat) : Int) ∧ lat xs149 ((r173 : Int).toNat) (fun r174 => (0 ≤ n148 ∧ n148 < ((List.length xs142 : Nat) : Int) ∧ 
    lat xs142 ((n148 : Int).toNat) (fun r175 => (0 ≤ n148 ∧ n148 < ((List.length xs142 : Nat) : Int) ∧ lat xs142 ((n148 : Int).toNat) (fun r176 => 
    (((exl 3 [.int .i64] ([n130, r175] : List Int) σ151 (fun A177 l177 c177 σ178 => cl Try.prog (.func (.func 21) #[] #[]) #[(.agg #[(.int .i64 a0_Wide), (.int .i64 a0_High), (.slice a0_Cells_A a0_Cells_n a0_Cells_c), (.slice a0_Heights_A a0_Heights_n a0_Heights_c)]), (.slice A177 l177 c177)] σ178 (fun v179 σ180 => 
    ∃ n181 : Int, (v179 = (.int .i64 n181) ∧ (Hp.Sub σ178 σ180 ∧ wk .i64 (r174 + n181) (fun n182 => exl 3 [.int .i64] ([r176] : List Int) σ180 (fun A183 l183 c183 σ184 => 
    cl Try.prog (.func (.func 21) #[] #[]) #[(.agg #[(.int .i64 a0_Wide), (.int .i64 a0_High), (.slice a0_Cells_A a0_Cells_n a0_Cells_c), (.slice a0_Heights_A a0_Heights_n a0_Heights_c)]), (.slice A183 l183 c183)] σ184 (fun v185 σ186 => 
    ∃ n187 : Int, (v185 = (.int .i64 n187) ∧ (Hp.Sub σ184 σ186 ∧ wk .i64 (n182 - n187) (fun n188 => J164 n188 σ186))))))))))) ∧ 
    (exl 3 [.int .i64] ([n130, r175] : List Int) σ151 (fun A189 l189 c189 σ190 => cl Try.prog (.func (.func 21) #[] #[]) #[(.agg #[(.int .i64 a0_Wide), (.int .i64 a0_High), (.slice a0_Cells_A a0_Cells_n a0_Cells_c), (.slice a0_Heights_A a0_Heights_n a0_Heights_c)]), (.slice A189 l189 c189)] σ190 (fun v191 σ192 => 
    ∃ n193 : Int, (v191 = (.int .i64 n193) ∧ (Hp.Sub σ190 σ192 ∧ wk .i64 (r174 + n193) (fun n194 => exl 3 [.int .i64] ([r176] : List Int) σ192 (fun A195 l195 c195 σ196 => 
    cl Try.prog (.func (.func 21) #[] #[]) #[(.agg #[(.int .i64 a0_Wide), (.int .i64 a0_High), (.slice a0_Cells_A a0_Cells_n a0_Cells_c), (.slice a0_Heights_A a0_Heights_n a0_Heights_c)]), (.slice A195 l195 c195)] σ196 (fun v197 σ198 => 
    ∃ n199 : Int, (v197 = (.int .i64 n199) ∧ (Hp.Sub σ196 σ198 ∧ wk .i64 (n194 - n199) (fun n200 => J164 n200 σ198)))))))))))) ∧ 
    (exl 3 [.int .i64] ([n130, r175] : List Int) σ151 (fun A201 l201 c201 σ202 => cl Try.prog (.func (.func 21) #[] #[]) #[(.agg #[(.int .i64 a0_Wide), (.int .i64 a0_High), (.slice a0_Cells_A a0_Cells_n a0_Cells_c), (.slice a0_Heights_A a0_Heights_n a0_Heights_c)]), (.slice A201 l201 c201)] σ202 (fun v203 σ204 => 
    ∃ n205 : Int, (v203 = (.int .i64 n205) ∧ (Hp.Sub σ202 σ204 ∧ wk .i64 (r174 + n205) (fun n206 => exl 3 [.int .i64] ([r176] : List Int) σ204 (fun A207 l207 c207 σ208 => 
    cl Try.prog (.func (.func 21) #[] #[]) #[(.agg #[(.int .i64 a0_Wide), (.int .i64 a0_High), (.slice a0_Cells_A a0_Cells_n a0_Cells_c), (.slice a0_Heights_A a0_Heights_n a0_Heights_c)]), (.slice A207 l207 c207)] σ208 (fun v209 σ210 => 
    ∃ n211 : Int, (v209 = (.int .i64 n211) ∧ (Hp.Sub σ208 σ210 ∧ wk .i64 (n206 - n211) (fun n212 => J164 n212 σ210)))))))))))))))))))))))))))) (fun J152 => 
    cut (α := Bool → Hp → Prop) (fun t216 σ214 => ∀ _ : Nat → Value, bc t216 (J152 σ214) (J134 xs149 σ214)) (fun J215 => 
    bc (decide (n148 < ((List.length xs142 : Nat) : Int))) ((0 ≤ n130 ∧ n130 < ((List.length xs8 : Nat) : Int) ∧ 
    lat xs8 ((n130 : Int).toNat) (fun r217 => J215 r217 σ145))) (J215 false σ145)))))))) (J121 xs131 σ127))) (J25 xs118 σ114)))))))) (fun J15 => 
    ∃ I220 : Nat → Int → List Int → Hp → Prop, (∃ n2210, I220 n2210 0 (List.replicate (((List.length xs8 : Nat) : Int) : Int).toNat 0 : List Int) σ11) ∧ 
    ∀ n221 : Nat, ∀ n222 : Int, ∀ xs223 : List Int, ∀ σ219 : Hp, I220 n221 n222 xs223 σ219 → ∀ _ : Nat → Value, bc (decide (n222 < ((List.length xs8 : Nat) : Int))) ((0 ≤ n222 ∧ 
    n222 < ((List.length xs223 : Nat) : Int) ∧ lat xs223 ((n222 : Int).toNat) (fun _ => wk .i64 (n222 + 1) (fun n225 => 
    bk σ219 n221 (fun m226 σ227 => I220 m226 n225 (List.set xs223 ((n222 : Int).toNat) (-1)) σ227))))) (J15 xs223 σ219)))) (fun J12 => 
    cut (α := Bool → Hp → Prop) (fun t231 σ229 => ∀ _ : Nat → Value, bc t231 (rt σ229 R (.tuple #[(.slice none 0 0), (.int .i64 0), (.int .i64 1)])) (J12 σ229)) (fun J230 => 
    wk .i64 (((List.length xs8 : Nat) : Int) - 1) (fun n232 => cl Try.prog (.func (.func 53) #[] #[]) #[(.int .i64 a3), (.int .i64 0), (.int .i64 n232)] σ9 (fun v233 σ234 => 
    ∃ t235 : Bool, (v233 = (.bool t235) ∧ bc (!t235) (bc true (bc true (J230 true σ234) ((0 ≤ a4 ∧ a4 < ((List.length xs8 : Nat) : Int) ∧ 
    lat xs8 ((a4 : Int).toNat) (fun r236 => J230 (!r236) σ234)))) ((0 ≤ a3 ∧ a3 < ((List.length xs8 : Nat) : Int) ∧ 
    lat xs8 ((a3 : Int).toNat) (fun r237 => bc (!r237) (J230 true σ234) ((0 ≤ a4 ∧ a4 < ((List.length xs8 : Nat) : Int) ∧ 
    lat xs8 ((a4 : Int).toNat) (fun r238 => J230 (!r238) σ234))))))) (wk .i64 (((List.length xs8 : Nat) : Int) - 1) (fun n239 => 
    cl Try.prog (.func (.func 53) #[] #[]) #[(.int .i64 a4), (.int .i64 0), (.int .i64 n239)] σ234 (fun v240 σ241 => 
    ∃ t242 : Bool, (v240 = (.bool t242) ∧ bc (!t242) (bc true (J230 true σ241) ((0 ≤ a4 ∧ a4 < ((List.length xs8 : Nat) : Int) ∧ 
    lat xs8 ((a4 : Int).toNat) (fun r243 => J230 (!r243) σ241)))) ((0 ≤ a3 ∧ a3 < ((List.length xs8 : Nat) : Int) ∧ 
    lat xs8 ((a3 : Int).toNat) (fun r244 => bc (!r244) (J230 true σ241) ((0 ≤ a4 ∧ a4 < ((List.length xs8 : Nat) : Int) ∧ 
    lat xs8 ((a4 : Int).toNat) (fun r245 => J230 (!r245) σ241)))))))))))))))))))))
def M_ref04_Cable_an : MAn := (.seq (.txt []) (.seq (.seq (.txt []) (.seq (.txt []) (.cond (.seq (.txt []) .leaf) .leaf))) (.seq (.txt [⟨[], false, []⟩, ⟨[], false, []⟩, ⟨[], false, []⟩, ⟨[], false, [.adl 39 4 [.bool]]⟩]) (.cut ⟨[true, true], 2, [.slot 5 (.hb 0 0), .slot 15 (.hl 1 0)], [(3, true), (4, true)]⟩ (.cut ⟨[true, true], 2, [.slot 5 (.hb 0 0), .slot 15 (.hl 1 0), .slot 67 (.sc (.bool))], [(3, true), (4, true)]⟩ (.txt [⟨[], false, []⟩, ⟨[], false, []⟩, ⟨[], false, []⟩, ⟨[], false, []⟩, ⟨[], false, []⟩, ⟨[], false, []⟩, ⟨[], true, []⟩, ⟨[], false, []⟩, ⟨[], false, []⟩, ⟨[], false, []⟩, ⟨[], false, []⟩, ⟨[], false, []⟩, ⟨[], false, []⟩, ⟨[], false, []⟩, ⟨[], true, []⟩, ⟨[], false, []⟩, ⟨[], false, []⟩, ⟨[], false, []⟩, ⟨[], false, []⟩, ⟨[], false, []⟩, ⟨[], false, []⟩, ⟨[], true, []⟩]) (.cond (.seq (.txt []) .leaf) .leaf)) (.seq (.txt []) (.cut ⟨[true, true, false], 3, [.slot 5 (.hb 0 0), .slot 15 (.hl 1 0), .slot 16 (.hl 2 0), .modl 2 0 3 [.int .i64]], [(3, true), (4, true)]⟩ (.seq (.txt []) (.block (.loop ⟨[true, true, false], 3, [.slot 5 (.hb 0 0), .slot 15 (.hl 1 0), .slot 16 (.hl 2 0), .slot 17 (.sc (.int .i64)), .modl 2 0 3 [.int .i64]], [(3, true), (4, true)]⟩ (.seq (.seq (.txt []) (.cond .leaf .leaf)) (.seq (.block (.txt [])) (.txt [])))))) (.seq (.txt []) (.cut ⟨[true, true, false, false], 4, [.slot 5 (.hb 0 0), .slot 16 (.hl 2 0), .modl 2 0 3 [.int .i64]], [(3, true), (4, true)]⟩ (.seq (.txt []) (.block (.loop ⟨[true, true, false, false], 4, [.slot 5 (.hb 0 0), .slot 15 (.hl 1 0), .slot 16 (.hl 2 0), .slot 89 (.sc (.int .i64)), .modl 2 0 3 [.int .i64]], [(3, true), (4, true), (88, true)]⟩ (.seq (.txt []) (.seq (.cond .leaf .leaf) (.cut ⟨[true, true, false, false], 4, [.slot 5 (.hb 0 0), .slot 15 (.hl 1 0), .slot 16 (.hl 2 0), .modl 2 0 3 [.int .i64]], [(3, true), (4, true), (88, true), (89, true)]⟩ (.block (.seq (.txt []) (.block (.loop ⟨[true, true, false, false], 4, [.slot 5 (.hb 0 0), .slot 15 (.hl 1 0), .slot 16 (.hl 2 0), .slot 18 (.sc (.int .i64)), .modl 2 0 3 [.int .i64]], [(3, true), (4, true), (88, true), (89, true)]⟩ (.seq (.seq (.txt []) (.cond .leaf .leaf)) (.cut ⟨[true, true, false, false], 4, [.slot 5 (.hb 0 0), .slot 15 (.hl 1 0), .slot 16 (.hl 2 0), .modl 2 0 3 [.int .i64]], [(3, true), (4, true), (18, true), (88, true), (89, true)]⟩ (.block (.seq (.txt [⟨[], false, []⟩, ⟨[], false, []⟩, ⟨[], false, [.adl 99 3 [.int .i64]]⟩]) (.seq (.txt []) (.block (.loop ⟨[true, true, false, false, true], 5, [.slot 5 (.hb 0 0), .slot 15 (.hl 1 0), .slot 16 (.hl 2 0), .slot 19 (.hl 4 0), .slot 20 (.sc (.int .i64)), .modl 2 0 3 [.int .i64]], [(3, true), (4, true), (18, true), (88, true), (89, true)]⟩ (.cut ⟨[true, true, true, false, true], 5, [.slot 5 (.hb 0 0), .slot 15 (.hl 1 0), .slot 16 (.hl 2 0), .slot 19 (.hl 4 0)], [(3, true), (4, true), (18, true), (20, true), (88, true), (89, true)]⟩ (.cut ⟨[true, true, true, false, true], 5, [.slot 5 (.hb 0 0), .slot 15 (.hl 1 0), .slot 16 (.hl 2 0), .slot 19 (.hl 4 0), .slot 109 (.sc (.bool))], [(3, true), (4, true), (18, true), (20, true), (88, true), (89, true)]⟩ (.txt [⟨[], false, []⟩, ⟨[], false, []⟩, ⟨[], false, []⟩, ⟨[], false, []⟩, ⟨[], true, []⟩]) (.cond .leaf .leaf)) (.cut ⟨[true, true, false, false, true], 5, [.slot 5 (.hb 0 0), .slot 15 (.hl 1 0), .slot 16 (.hl 2 0), .slot 19 (.hl 4 0), .modl 2 0 3 [.int .i64]], [(3, true), (4, true), (18, true), (20, true), (88, true), (89, true)]⟩ (.block (.seq (.seq (.txt []) (.cond .leaf .leaf)) (.cut ⟨[true, true, true, false, true], 5, [.slot 5 (.hb 0 0), .slot 15 (.hl 1 0), .slot 16 (.hl 2 0), .slot 19 (.hl 4 0), .slot 21 (.sc (.int .i64))], [(3, true), (4, true), (18, true), (20, true), (88, true), (89, true)]⟩ (.plan [] (.take 0 ⟨[], false, []⟩ (.take 1 ⟨[], false, []⟩ (.take 2 ⟨[], false, []⟩ (.take 3 ⟨[], false, []⟩ (.take 4 ⟨[], false, []⟩ (.take 5 ⟨[], false, []⟩ (.take 6 ⟨[], false, []⟩ (.take 7 ⟨[], false, []⟩ (.take 8 ⟨[], false, []⟩ (.take 9 ⟨[], false, []⟩ (.take 10 ⟨[], false, []⟩ (.take 11 ⟨[], false, []⟩ (.take 12 ⟨[], false, []⟩ (.take 16 ⟨[], false, []⟩ (.take 17 ⟨[], false, []⟩ (.take 18 ⟨[], false, []⟩ (.take 19 ⟨[], false, []⟩ (.take 20 ⟨[], false, []⟩ (.alt 13 true ⟨[], false, []⟩ (.alt 14 true ⟨[], false, []⟩ (.take 15 ⟨[], false, []⟩ (.alt 21 true ⟨[], false, []⟩ (.alt 22 true ⟨[], false, []⟩ (.take 23 ⟨[], false, []⟩ (.take 24 ⟨[], false, []⟩ .done)) .done) .done)) (.alt 21 true ⟨[], false, []⟩ (.alt 14 true ⟨[], false, []⟩ (.take 15 ⟨[], false, []⟩ (.alt 22 true ⟨[], false, []⟩ (.take 23 ⟨[], false, []⟩ (.take 24 ⟨[], false, []⟩ .done)) .done)) .done) .done)) (.alt 21 true ⟨[], false, []⟩ (.alt 13 true ⟨[], false, []⟩ (.alt 14 true ⟨[], false, []⟩ (.take 15 ⟨[], false, []⟩ (.alt 22 true ⟨[], false, []⟩ (.take 23 ⟨[], false, []⟩ (.take 24 ⟨[], false, []⟩ .done)) .done)) .done) .done) .done))))))))))))))))))))) (.cut ⟨[true, true, true, false, true], 5, [.slot 5 (.hb 0 0), .slot 15 (.hl 1 0), .slot 16 (.hl 2 0), .slot 19 (.hl 4 0), .slot 156 (.sc (.bool))], [(3, true), (4, true), (18, true), (20, true), (21, true), (88, true), (89, true)]⟩ (.txt [⟨[], false, []⟩, ⟨[], false, []⟩, ⟨[], false, []⟩, ⟨[], false, []⟩, ⟨[], false, []⟩, ⟨[], true, []⟩]) (.cond (.txt []) .leaf))))) (.txt [])))))))) (.txt []))))))) (.txt []))))))) (.seq (.seq (.txt []) (.cond (.seq (.txt []) .leaf) .leaf)) (.seq (.txt []) (.cut ⟨[true, true, true, false, false], 5, [.slot 16 (.hl 2 0), .slot 22 (.hl 4 0), .modl 4 0 3 [.int .i64]], [(3, true)]⟩ (.seq (.txt []) (.block (.loop ⟨[true, true, true, false, false], 5, [.slot 5 (.hb 0 0), .slot 16 (.hl 2 0), .slot 22 (.lst 4 3 [.int .i64]), .slot 23 (.sc (.int .i64))], [(3, true), (4, true)]⟩ (.seq (.seq (.txt []) (.cond .leaf .leaf)) (.block (.seq (.txt [⟨[], false, []⟩, ⟨[], false, []⟩, ⟨[], false, [.adl 175 3 [.int .i64]]⟩]) (.cut ⟨[true, true, true, false, true, true], 6, [.slot 5 (.hb 0 0), .slot 16 (.hl 2 0), .slot 22 (.hl 4 0), .slot 23 (.sc (.int .i64))], [(3, true), (4, true)]⟩ (.seq (.txt []) (.block (.loop ⟨[true, true, true, false, true, true], 6, [.slot 5 (.hb 0 0), .slot 16 (.hl 2 0), .slot 22 (.hl 4 0), .slot 23 (.sc (.int .i64)), .slot 24 (.hl 5 0), .slot 25 (.sc (.int .i64))], [(3, true), (4, true)]⟩ (.seq (.seq (.txt []) (.cond .leaf .leaf)) (.cut ⟨[true, true, true, false, true, true], 6, [.slot 5 (.hb 0 0), .slot 16 (.hl 2 0), .slot 22 (.hl 4 0), .slot 23 (.sc (.int .i64)), .slot 24 (.hl 5 0)], [(3, true), (4, true), (25, true)]⟩ (.block (.cut ⟨[true, true, true, false, true, true], 6, [.slot 5 (.hb 0 0), .slot 16 (.hl 2 0), .slot 22 (.hl 4 0), .slot 24 (.hl 5 0), .slot 220 (.sc (.bool))], [(3, true), (4, true), (23, true), (25, true)]⟩ (.plan [] (.take 0 ⟨[], false, []⟩ (.take 1 ⟨[], false, []⟩ (.take 2 ⟨[], false, []⟩ (.take 3 ⟨[], false, []⟩ (.take 4 ⟨[], false, []⟩ (.take 5 ⟨[], false, []⟩ (.take 6 ⟨[], false, []⟩ (.take 7 ⟨[], false, []⟩ (.take 8 ⟨[], true, []⟩ (.take 9 ⟨[], false, []⟩ (.take 10 ⟨[], false, []⟩ (.take 11 ⟨[], false, []⟩ (.take 12 ⟨[], false, []⟩ (.take 13 ⟨[], false, []⟩ (.take 14 ⟨[], false, []⟩ (.take 15 ⟨[], false, []⟩ (.take 16 ⟨[], false, []⟩ (.take 17 ⟨[], false, []⟩ (.take 18 ⟨[], false, []⟩ (.take 19 ⟨[], false, []⟩ (.take 20 ⟨[], false, []⟩ (.take 21 ⟨[], false, []⟩ (.take 25 ⟨[], false, []⟩ (.take 26 ⟨[], false, []⟩ (.take 27 ⟨[], false, []⟩ (.take 28 ⟨[], false, []⟩ (.take 29 ⟨[], false, []⟩ (.take 33 ⟨[], false, []⟩ (.take 34 ⟨[], false, []⟩ (.take 35 ⟨[], false, []⟩ (.take 36 ⟨[], false, []⟩ (.alt 22 true ⟨[], false, []⟩ (.alt 23 true ⟨[], false, []⟩ (.take 24 ⟨[], false, []⟩ (.alt 30 true ⟨[], false, []⟩ (.alt 31 true ⟨[], false, []⟩ (.take 32 ⟨[], false, []⟩ (.take 37 ⟨[], false, []⟩ (.take 38 ⟨[], false, []⟩ .done))) .done) .done)) (.alt 30 true ⟨[], false, []⟩ (.alt 23 true ⟨[], false, []⟩ (.take 24 ⟨[], false, []⟩ (.alt 31 true ⟨[], false, []⟩ (.take 32 ⟨[], false, []⟩ (.take 37 ⟨[], false, []⟩ (.take 38 ⟨[], false, []⟩ .done))) .done)) .done) .done)) (.alt 30 true ⟨[], false, []⟩ (.alt 22 true ⟨[], false, []⟩ (.alt 23 true ⟨[], false, []⟩ (.take 24 ⟨[], false, []⟩ (.alt 31 true ⟨[], false, []⟩ (.take 32 ⟨[], false, []⟩ (.take 37 ⟨[], false, []⟩ (.take 38 ⟨[], false, []⟩ .done))) .done)) .done) .done) .done)))))))))))))))))))))))))))))))))) (.cond (.seq (.txt []) .leaf) .leaf))) (.txt [])))))) (.txt [])))))))) (.seq (.plan [] (.take 0 ⟨[], false, []⟩ (.take 1 ⟨[], false, []⟩ (.take 2 ⟨[], false, []⟩ (.take 3 ⟨[], false, []⟩ (.take 4 ⟨[], false, []⟩ (.take 5 ⟨[], false, []⟩ (.take 6 ⟨[], false, []⟩ (.take 7 ⟨[], false, []⟩ .done))))))))) .leaf))))))))))))
set_option maxRecDepth 100000 in
theorem M_ref04_Cable_ok (σ : Hp) (a0_Wide : Int) (a0_High : Int) (a0_Cells_A : Option Addr) (a0_Cells_n : Nat) (a0_Cells_c : Nat) (a0_Heights_A : Option Addr) (a0_Heights_n : Nat) (a0_Heights_c : Nat) (a1_A : Option Addr) (a1_n : Nat) (a1_c : Nat) (a2_A : Option Addr) (a2_n : Nat) (a2_c : Nat) (a3 : Int) (a4 : Int) (R : Value → Hp → Prop) (h : M_ref04_Cable σ a0_Wide a0_High a0_Cells_A a0_Cells_n a0_Cells_c a0_Heights_A a0_Heights_n a0_Heights_c a1_A a1_n a1_c a2_A a2_n a2_c a3 a4 R) : FCalls Try.prog 16 #[(.agg #[(.int .i64 a0_Wide), (.int .i64 a0_High), (.slice a0_Cells_A a0_Cells_n a0_Cells_c), (.slice a0_Heights_A a0_Heights_n a0_Heights_c)]), (.slice a1_A a1_n a1_c), (.slice a2_A a2_n a2_c), (.int .i64 a3), (.int .i64 a4)] σ R :=
  fcalls_of_M mixed_M5 M_ref04_Cable_an Try.func16 rfl (by kernel_rfl) (by kernel_rfl) (M := M_ref04_Cable σ a0_Wide a0_High a0_Cells_A a0_Cells_n a0_Cells_c a0_Heights_A a0_Heights_n a0_Heights_c a1_A a1_n a1_c a2_A a2_n a2_c a3 a4 R) (by kernel_rfl) h
theorem M_ref04_Cable_enter : enterB Try.prog 16 = true := by kernel_rfl

end Go.Proofs.Ytmpkiaghkhhlhaa

/- M-forms, printed by wip/gen/genm.py out of the translation: each function as a proposition over its local objects, with the lemma that it is what the function does. -/
namespace Go.Proofs.Ytmpkiaghkhhlhaa
open Go.RowKit

theorem mixed_M6 : Try.prog.follows .mixedOrders = true := by kernel_rfl

abbrev N_slices_Repeat_int : FuncId := 47
/-- slices.Repeat[[]int,int] -/
def M_slices_Repeat_int (σ : Hp) (x_A : Option Addr) (x_n : Nat) (x_c : Nat) (count : Int) (R : Value → Hp → Prop) : Prop :=
  cut (α := Hp → Prop) (fun  σ2 => ∀ _ : Nat → Value, wk .u64 (((x_n : Nat) : Int)) (fun n4 => wk .u64 (count) (fun n5 => 
    cl Try.prog (.func (.func 86) #[] #[]) #[(.int .u64 n4), (.int .u64 n5)] σ2 (fun v6 σ7 => ∃ n8 : Int, ∃ n9 : Int, (v6 = (.tuple #[(.int .u64 n8), (.int .u64 n9)]) ∧ 
    cut (α := Hp → Prop) (fun  σ11 => ∀ _ : Nat → Value, wk .i64 (n9) (fun n13 => (0 ≤ n13 ∧ n13 ≤ n13 ∧ 
    n13 ≤ (1000000000 : Int) ∧ exl 3 [.int .i64] (List.replicate (n13 : Int).toNat 0 : List Int) σ11 (fun A14 l14 c14 σ15 => 
    cpy Try.prog #[22, 22] 3 #[(.slice A14 l14 c14), (.slice x_A x_n x_c)] σ15 (fun n16 σ17 => cut (α := Hp → Prop) (fun  σ19 => 
    ∀ _ : Nat → Value, rt σ19 R (.slice A14 l14 c14)) (fun J20 => ∃ I23 : Nat → Int → Hp → Prop, (∃ n240, I23 n240 n16 σ17) ∧ 
    ∀ n24 : Nat, ∀ n25 : Int, ∀ σ22 : Hp, I23 n24 n25 σ22 → ∀ _ : Nat → Value, bc (decide (n25 < ((l14 : Nat) : Int))) ((0 ≤ n25 ∧ 
    n25 ≤ ((l14 : Nat) : Int) ∧ (0 ≤ n25 ∧ n25 ≤ ((c14 : Nat) : Int) ∧ cpy Try.prog #[22, 22] 3 #[(.slice (if c14 = (n25 : Int).toNat then (A14 : Option Addr) else (A14 : Option Addr).map (fun x => 
    x.add ((n25 : Int).toNat * 1))) (l14 - (n25 : Int).toNat) (c14 - (n25 : Int).toNat)), (.slice A14 ((n25 : Int).toNat) c14)] σ22 (fun n26 σ27 => 
    wk .i64 (n25 + n26) (fun n28 => bk σ27 n24 (fun m29 σ30 => I23 m29 n28 σ30)))))) (J20 σ22))))))) (fun J12 => 
    cut (α := Bool → Hp → Prop) (fun t34 σ32 => ∀ _ : Nat → Value, bc t34 (False) (J12 σ32)) (fun J33 => 
    bc (decide ((0 : Int) < n8)) (J33 true σ7) (J33 (decide ((9223372036854775807 : Int) < n9)) σ7)))))))) (fun J3 => 
    bc (decide (count < 0)) (False) (J3 σ))
def M_slices_Repeat_int_an : MAn := (.seq (.txt []) (.cut ⟨[], 0, [], [(0, true), (1, true)]⟩ (.seq (.txt []) (.cond (.txt []) .leaf)) (.seq (.txt []) (.cut ⟨[], 0, [], [(0, true), (6, true)]⟩ (.cut ⟨[], 0, [.slot 26 (.sc (.bool))], [(0, true), (6, true)]⟩ (.txt [⟨[], false, []⟩, ⟨[], false, []⟩, ⟨[], true, []⟩]) (.cond (.txt []) .leaf)) (.seq (.txt []) (.seq (.txt []) (.cut ⟨[false], 1, [], [(7, true)]⟩ (.block (.loop ⟨[false], 1, [.slot 8 (.sc (.int .i64))], [(7, true)]⟩ (.seq (.seq (.txt []) (.cond .leaf .leaf)) (.block (.plan [7] (.take 0 ⟨[], false, []⟩ (.take 1 ⟨[], false, []⟩ (.take 2 ⟨[], false, []⟩ (.take 3 ⟨[], false, []⟩ (.take 4 ⟨[], false, []⟩ (.take 5 ⟨[], false, []⟩ (.take 6 ⟨[], false, []⟩ (.alt 7 false ⟨[], false, []⟩ (.take 8 ⟨[], false, []⟩ (.take 9 ⟨[], false, []⟩ .done)) .done))))))))))))) (.seq (.txt []) .leaf))))))))
set_option maxRecDepth 100000 in
theorem M_slices_Repeat_int_ok (σ : Hp) (x_A : Option Addr) (x_n : Nat) (x_c : Nat) (count : Int) (R : Value → Hp → Prop) (h : M_slices_Repeat_int σ x_A x_n x_c count R) : FCalls Try.prog 47 #[(.slice x_A x_n x_c), (.int .i64 count)] σ R :=
  fcalls_of_M mixed_M6 M_slices_Repeat_int_an Try.func47 rfl (by kernel_rfl) (by kernel_rfl) (M := M_slices_Repeat_int σ x_A x_n x_c count R) (by kernel_rfl) h
theorem M_slices_Repeat_int_enter : enterB Try.prog 47 = true := by kernel_rfl

abbrev N_slices_Repeat_api_Site : FuncId := 95
/-- slices.Repeat[[]waltzer/api.Site,waltzer/api.Site] -/
def M_slices_Repeat_api_Site (σ : Hp) (x_A : Option Addr) (x_n : Nat) (x_c : Nat) (count : Int) (R : Value → Hp → Prop) : Prop :=
  cut (α := Hp → Prop) (fun  σ2 => ∀ _ : Nat → Value, wk .u64 (((x_n : Nat) : Int)) (fun n4 => wk .u64 (count) (fun n5 => 
    cl Try.prog (.func (.func 86) #[] #[]) #[(.int .u64 n4), (.int .u64 n5)] σ2 (fun v6 σ7 => ∃ n8 : Int, ∃ n9 : Int, (v6 = (.tuple #[(.int .u64 n8), (.int .u64 n9)]) ∧ 
    cut (α := Hp → Prop) (fun  σ11 => ∀ _ : Nat → Value, wk .i64 (n9) (fun n13 => (0 ≤ n13 ∧ n13 ≤ n13 ∧ 
    n13 ≤ (1000000000 : Int) ∧ exl 50 [.int .i64, .bool] (List.replicate (n13 : Int).toNat (0, false) : List (Int × Bool)) σ11 (fun A14 l14 c14 σ15 => 
    cpy Try.prog #[26, 26] 3 #[(.slice A14 l14 c14), (.slice x_A x_n x_c)] σ15 (fun n16 σ17 => cut (α := Hp → Prop) (fun  σ19 => 
    ∀ _ : Nat → Value, rt σ19 R (.slice A14 l14 c14)) (fun J20 => ∃ I23 : Nat → Int → Hp → Prop, (∃ n240, I23 n240 n16 σ17) ∧ 
    ∀ n24 : Nat, ∀ n25 : Int, ∀ σ22 : Hp, I23 n24 n25 σ22 → ∀ _ : Nat → Value, bc (decide (n25 < ((l14 : Nat) : Int))) ((0 ≤ n25 ∧ 
    n25 ≤ ((l14 : Nat) : Int) ∧ (0 ≤ n25 ∧ n25 ≤ ((c14 : Nat) : Int) ∧ cpy Try.prog #[26, 26] 3 #[(.slice (if c14 = (n25 : Int).toNat then (A14 : Option Addr) else (A14 : Option Addr).map (fun x => 
    x.add ((n25 : Int).toNat * 2))) (l14 - (n25 : Int).toNat) (c14 - (n25 : Int).toNat)), (.slice A14 ((n25 : Int).toNat) c14)] σ22 (fun n26 σ27 => 
    wk .i64 (n25 + n26) (fun n28 => bk σ27 n24 (fun m29 σ30 => I23 m29 n28 σ30)))))) (J20 σ22))))))) (fun J12 => 
    cut (α := Bool → Hp → Prop) (fun t34 σ32 => ∀ _ : Nat → Value, bc t34 (False) (J12 σ32)) (fun J33 => 
    bc (decide ((0 : Int) < n8)) (J33 true σ7) (J33 (decide ((9223372036854775807 : Int) < n9)) σ7)))))))) (fun J3 => 
    bc (decide (count < 0)) (False) (J3 σ))
def M_slices_Repeat_api_Site_an : MAn := (.seq (.txt []) (.cut ⟨[], 0, [], [(0, true), (1, true)]⟩ (.seq (.txt []) (.cond (.txt []) .leaf)) (.seq (.txt []) (.cut ⟨[], 0, [], [(0, true), (6, true)]⟩ (.cut ⟨[], 0, [.slot 26 (.sc (.bool))], [(0, true), (6, true)]⟩ (.txt [⟨[], false, []⟩, ⟨[], false, []⟩, ⟨[], true, []⟩]) (.cond (.txt []) .leaf)) (.seq (.txt []) (.seq (.txt []) (.cut ⟨[false], 1, [], [(7, true)]⟩ (.block (.loop ⟨[false], 1, [.slot 8 (.sc (.int .i64))], [(7, true)]⟩ (.seq (.seq (.txt []) (.cond .leaf .leaf)) (.block (.plan [7] (.take 0 ⟨[], false, []⟩ (.take 1 ⟨[], false, []⟩ (.take 2 ⟨[], false, []⟩ (.take 3 ⟨[], false, []⟩ (.take 4 ⟨[], false, []⟩ (.take 5 ⟨[], false, []⟩ (.take 6 ⟨[], false, []⟩ (.alt 7 false ⟨[], false, []⟩ (.take 8 ⟨[], false, []⟩ (.take 9 ⟨[], false, []⟩ .done)) .done))))))))))))) (.seq (.txt []) .leaf))))))))
set_option maxRecDepth 100000 in
theorem M_slices_Repeat_api_Site_ok (σ : Hp) (x_A : Option Addr) (x_n : Nat) (x_c : Nat) (count : Int) (R : Value → Hp → Prop) (h : M_slices_Repeat_api_Site σ x_A x_n x_c count R) : FCalls Try.prog 95 #[(.slice x_A x_n x_c), (.int .i64 count)] σ R :=
  fcalls_of_M mixed_M6 M_slices_Repeat_api_Site_an Try.func95 rfl (by kernel_rfl) (by kernel_rfl) (M := M_slices_Repeat_api_Site σ x_A x_n x_c count R) (by kernel_rfl) h
theorem M_slices_Repeat_api_Site_enter : enterB Try.prog 95 = true := by kernel_rfl

end Go.Proofs.Ytmpkiaghkhhlhaa

