/- For all inputs the law GroundCables returns true, and what came in reads as it did. Part 12 of 13. -/
import Derived.Test.YtmpkiaghkhhlhaaCa11

/- M-forms, printed by wip/gen/genm.py out of the translation: each function as a proposition over its local objects, with the lemma that it is what the function does. -/
namespace Go.Proofs.Ytmpkiaghkhhlhaa
open Go.RowKit

theorem mixed_M3 : Try.prog.follows .mixedOrders = true := by kernel_rfl

abbrev N_ground_field_free : FuncId := 46
/-- (*waltzer/ground.field).free -/
def M_ground_field_free (σ : Hp) (f : Option Addr) (c : Int) (R : Value → Hp → Prop) : Prop :=
  dr f (fun b1 o2 => ldS σ b1 (o2 + 2) (fun A3 l3 _ => ix A3 l3 c 1 (fun b4 a5 => ldI σ .i64 b4 a5 (fun n6 => 
    bc (!decide (n6 = 1)) (dr f (fun b7 o8 => ldS σ b7 (o8 + 6) (fun A9 l9 _ => ix A9 l9 c 1 (fun b10 a11 => 
    ldI σ .i64 b10 a11 (fun n12 => rt σ R (.bool (decide (n12 < 0)))))))) (rt σ R (.bool false))))))
def M_ground_field_free_an : MAn := (.seq (.txt []) (.seq (.txt [⟨[], false, []⟩, ⟨[], false, []⟩, ⟨[], false, []⟩, ⟨[], false, []⟩, ⟨[], false, []⟩, ⟨[], false, []⟩, ⟨[], false, []⟩, ⟨[], false, []⟩, ⟨[], false, []⟩, ⟨[], true, []⟩]) .leaf))
set_option maxRecDepth 100000 in
theorem M_ground_field_free_ok (σ : Hp) (f : Option Addr) (c : Int) (R : Value → Hp → Prop) (h : M_ground_field_free σ f c R) : FCalls Try.prog 46 #[(.pointer f), (.int .i64 c)] σ R :=
  fcalls_of_M mixed_M3 M_ground_field_free_an Try.func46 rfl (by kernel_rfl) (by kernel_rfl) (M := M_ground_field_free σ f c R) (by kernel_rfl) h
theorem M_ground_field_free_enter : enterB Try.prog 46 = true := by kernel_rfl

abbrev N_ground_field_drain : FuncId := 48
/-- (*waltzer/ground.field).drain -/
def M_ground_field_drain (σ : Hp) (f : Option Addr) (c : Int) (R : Value → Hp → Prop) : Prop :=
  dr f (fun b1 o2 => ldS σ b1 (o2 + 2) (fun A3 l3 _ => ix A3 l3 c 1 (fun b4 a5 => ldI σ .i64 b4 a5 (fun n6 => 
    bc (decide (n6 = 2)) (rt σ R (.int .i64 3)) (rt σ R (.int .i64 0))))))
def M_ground_field_drain_an : MAn := (.seq (.txt []) (.seq (.seq (.txt []) (.cond (.seq (.txt []) .leaf) .leaf)) (.seq (.txt []) .leaf)))
set_option maxRecDepth 100000 in
theorem M_ground_field_drain_ok (σ : Hp) (f : Option Addr) (c : Int) (R : Value → Hp → Prop) (h : M_ground_field_drain σ f c R) : FCalls Try.prog 48 #[(.pointer f), (.int .i64 c)] σ R :=
  fcalls_of_M mixed_M3 M_ground_field_drain_an Try.func48 rfl (by kernel_rfl) (by kernel_rfl) (M := M_ground_field_drain σ f c R) (by kernel_rfl) h
theorem M_ground_field_drain_enter : enterB Try.prog 48 = true := by kernel_rfl

abbrev N_ground_field_beside : FuncId := 49
/-- (*waltzer/ground.field).beside -/
def M_ground_field_beside (σ : Hp) (a0 : Option Addr) (a1 : Int) (R : Value → Hp → Prop) : Prop :=
  dr a0 (fun b1 o2 => ldI σ .i64 b1 o2 (fun n3 => (n3 ≠ 0 ∧ dr a0 (fun b4 o5 => ldI σ .i64 b4 o5 (fun n6 => 
    (n6 ≠ 0 ∧ wk .i64 (Int.tdiv a1 n6) (fun n7 => cut (α := List Int → Hp → Prop) (fun xs11 σ9 => ∀ _ : Nat → Value, 
    cut (α := List Int → Hp → Prop) (fun xs15 σ13 => ∀ _ : Nat → Value, cut (α := List Int → Hp → Prop) (fun xs19 σ17 => 
    ∀ _ : Nat → Value, cut (α := List Int → Hp → Prop) (fun xs23 σ21 => ∀ _ : Nat → Value, exl 3 [.int .i64] xs23 σ21 (fun A24 l24 c24 σ25 => 
    rt σ25 R (.slice A24 l24 c24))) (fun J22 => dr a0 (fun b26 o27 => ldI σ17 .i64 b26 (o27 + 1) (fun n28 => 
    wk .i64 (n28 - 1) (fun n29 => bc (decide (n7 < n29)) (dr a0 (fun b30 o31 => ldI σ17 .i64 b30 o31 (fun n32 => 
    wk .i64 (a1 + n32) (fun n33 => roomy (List.length xs19 + List.length ([n33] : List Int)) (J22 (xs19 ++ ([n33] : List Int)) σ17))))) (J22 xs19 σ17)))))) (fun J18 => 
    dr a0 (fun b34 o35 => ldI σ13 .i64 b34 o35 (fun n36 => wk .i64 (n36 - 1) (fun n37 => bc (decide ((Int.tmod a1 n3) < n37)) (wk .i64 (a1 + 1) (fun n38 => 
    roomy (List.length xs15 + List.length ([n38] : List Int)) (J18 (xs15 ++ ([n38] : List Int)) σ13))) (J18 xs15 σ13)))))) (fun J14 => 
    bc (decide ((0 : Int) < (Int.tmod a1 n3))) (wk .i64 (a1 - 1) (fun n39 => roomy (List.length xs11 + List.length ([n39] : List Int)) (J14 (xs11 ++ ([n39] : List Int)) σ9))) (J14 xs11 σ9))) (fun J10 => 
    bc (decide ((0 : Int) < n7)) (dr a0 (fun b40 o41 => ldI σ .i64 b40 o41 (fun n42 => wk .i64 (a1 - n42) (fun n43 => 
    adp 3 [.int .i64] none 0 0 σ (fun (xs44 : List Int) σ45 => roomy (List.length xs44 + List.length ([n43] : List Int)) (J10 (xs44 ++ ([n43] : List Int)) σ45)))))) (adp 3 [.int .i64] none 0 0 σ (fun (xs46 : List Int) σ47 => 
    J10 xs46 σ47))))))))))
def M_ground_field_beside_an : MAn := (.seq (.txt []) (.seq (.plan [] (.take 0 ⟨[], false, []⟩ (.take 1 ⟨[], false, []⟩ (.take 2 ⟨[], false, []⟩ (.take 3 ⟨[], false, []⟩ (.take 4 ⟨[], false, []⟩ (.take 5 ⟨[], false, []⟩ (.take 6 ⟨[], false, []⟩ (.take 7 ⟨[], false, []⟩ (.take 8 ⟨[], false, []⟩ (.take 9 ⟨[], false, []⟩ (.take 10 ⟨[], false, []⟩ (.take 11 ⟨[], false, []⟩ (.take 12 ⟨[], false, []⟩ (.take 13 ⟨[], false, []⟩ (.take 14 ⟨[], false, []⟩ (.take 15 ⟨[], false, []⟩ .done))))))))))))))))) (.cut ⟨[], 1, [.slot 4 (.lst 0 3 [.int .i64])], [(0, true), (1, true), (5, true), (6, true)]⟩ (.seq (.txt []) (.cond (.txt []) .leaf)) (.cut ⟨[false], 1, [.slot 4 (.lst 0 3 [.int .i64])], [(0, true), (1, true), (5, true), (6, true)]⟩ (.seq (.txt []) (.cond (.txt []) .leaf)) (.cut ⟨[false], 1, [.slot 4 (.lst 0 3 [.int .i64])], [(0, true), (1, true), (6, true)]⟩ (.seq (.txt []) (.cond (.txt []) .leaf)) (.cut ⟨[false], 1, [.slot 4 (.lst 0 3 [.int .i64])], []⟩ (.seq (.txt []) (.cond (.txt []) .leaf)) (.seq (.txt []) .leaf)))))))
set_option maxRecDepth 100000 in
theorem M_ground_field_beside_ok (σ : Hp) (a0 : Option Addr) (a1 : Int) (R : Value → Hp → Prop) (h : M_ground_field_beside σ a0 a1 R) : FCalls Try.prog 49 #[(.pointer a0), (.int .i64 a1)] σ R :=
  fcalls_of_M mixed_M3 M_ground_field_beside_an Try.func49 rfl (by kernel_rfl) (by kernel_rfl) (M := M_ground_field_beside σ a0 a1 R) (by kernel_rfl) h
theorem M_ground_field_beside_enter : enterB Try.prog 49 = true := by kernel_rfl

abbrev N_ground_field_step : FuncId := 50
/-- (*waltzer/ground.field).step -/
def M_ground_field_step (σ : Hp) (f : Option Addr) (a : Int) (b : Int) (R : Value → Hp → Prop) : Prop :=
  dr f (fun b1 o2 => ldS σ b1 (o2 + 3) (fun A3 l3 _ => ix A3 l3 a 1 (fun b4 a5 => ldI σ .i64 b4 a5 (fun n6 => 
    dr f (fun b7 o8 => ldS σ b7 (o8 + 3) (fun A9 l9 _ => ix A9 l9 b 1 (fun b10 a11 => ldI σ .i64 b10 a11 (fun n12 => 
    wk .i64 (n6 - n12) (fun n13 => dr f (fun b14 o15 => ldS σ b14 (o15 + 3) (fun A16 l16 _ => ix A16 l16 b 1 (fun b17 a18 => 
    ldI σ .i64 b17 a18 (fun n19 => dr f (fun b20 o21 => ldS σ b20 (o21 + 3) (fun A22 l22 _ => ix A22 l22 a 1 (fun b23 a24 => 
    ldI σ .i64 b23 a24 (fun n25 => wk .i64 (n19 - n25) (fun n26 => wk .i64 (1 + (if n26 > n13 then n26 else n13)) (fun n27 => 
    rt σ R (.int .i64 n27))))))))))))))))))))
def M_ground_field_step_an : MAn := (.seq (.txt []) (.seq (.plan [] (.take 0 ⟨[], false, []⟩ (.take 1 ⟨[], false, []⟩ (.take 2 ⟨[], false, []⟩ (.take 3 ⟨[], false, []⟩ (.take 4 ⟨[], false, []⟩ (.take 5 ⟨[], false, []⟩ (.take 6 ⟨[], false, []⟩ (.take 7 ⟨[], false, []⟩ (.take 8 ⟨[], false, []⟩ (.take 9 ⟨[], false, []⟩ (.take 10 ⟨[], false, []⟩ (.take 11 ⟨[], false, []⟩ (.take 12 ⟨[], false, []⟩ (.take 13 ⟨[], false, []⟩ (.take 14 ⟨[], false, []⟩ (.take 15 ⟨[], false, []⟩ (.take 16 ⟨[], false, []⟩ (.take 17 ⟨[], false, []⟩ (.take 18 ⟨[], false, []⟩ (.take 19 ⟨[], false, []⟩ (.take 20 ⟨[], false, []⟩ (.take 21 ⟨[], false, []⟩ (.take 22 ⟨[], false, []⟩ (.take 23 ⟨[], false, []⟩ (.take 24 ⟨[], false, []⟩ (.take 25 ⟨[], false, []⟩ (.take 26 ⟨[], false, []⟩ (.take 27 ⟨[], false, []⟩ (.take 28 ⟨[], false, []⟩ (.take 29 ⟨[], false, []⟩ (.take 30 ⟨[], false, []⟩ (.take 31 ⟨[], false, []⟩ (.take 32 ⟨[], false, []⟩ (.take 33 ⟨[], false, []⟩ (.take 34 ⟨[], false, []⟩ (.take 35 ⟨[], false, []⟩ (.take 36 ⟨[], false, []⟩ .done)))))))))))))))))))))))))))))))))))))) .leaf))
set_option maxRecDepth 100000 in
theorem M_ground_field_step_ok (σ : Hp) (f : Option Addr) (a : Int) (b : Int) (R : Value → Hp → Prop) (h : M_ground_field_step σ f a b R) : FCalls Try.prog 50 #[(.pointer f), (.int .i64 a), (.int .i64 b)] σ R :=
  fcalls_of_M mixed_M3 M_ground_field_step_an Try.func50 rfl (by kernel_rfl) (by kernel_rfl) (M := M_ground_field_step σ f a b R) (by kernel_rfl) h
theorem M_ground_field_step_enter : enterB Try.prog 50 = true := by kernel_rfl

abbrev N_slices_IndexFunc_int : FuncId := 51
/-- slices.IndexFunc[[]int,int] -/
def M_slices_IndexFunc_int (σ : Hp) (s_A : Option Addr) (s_n : Nat) (_ : Nat) (f : Value) (R : Value → Hp → Prop) : Prop :=
  cut (α := Hp → Prop) (fun  σ2 => ∀ _ : Nat → Value, rt σ2 R (.int .i64 (-1))) (fun J3 => ∃ I6 : Nat → Int → Hp → Prop, (∃ n70, I6 n70 0 σ) ∧ 
    ∀ n7 : Nat, ∀ n8 : Int, ∀ σ5 : Hp, I6 n7 n8 σ5 → ∀ _ : Nat → Value, bc (decide (n8 < ((s_n : Nat) : Int))) (ix s_A s_n n8 1 (fun b9 a10 => 
    ldI σ5 .i64 b9 a10 (fun n11 => cl Try.prog f #[(.int .i64 n11)] σ5 (fun v12 σ13 => ∃ t14 : Bool, (v12 = (.bool t14) ∧ 
    bc t14 (rt σ13 R (.int .i64 n8)) (wk .i64 (n8 + 1) (fun n15 => bk σ13 n7 (fun m16 σ17 => I6 m16 n15 σ17)))))))) (J3 σ5))
def M_slices_IndexFunc_int_an : MAn := (.seq (.txt []) (.cut ⟨[], 0, [], []⟩ (.seq (.txt []) (.block (.loop ⟨[], 0, [.slot 8 (.sc (.int .i64))], [(0, true), (1, false), (7, true)]⟩ (.seq (.txt []) (.seq (.cond .leaf .leaf) (.seq (.block (.seq (.txt []) (.seq (.txt []) (.cond (.seq (.txt []) .leaf) .leaf)))) (.txt []))))))) (.seq (.txt []) .leaf)))
set_option maxRecDepth 100000 in
theorem M_slices_IndexFunc_int_ok (σ : Hp) (s_A : Option Addr) (s_n : Nat) (s_c : Nat) (f : Value) (R : Value → Hp → Prop) (h : M_slices_IndexFunc_int σ s_A s_n s_c f R) : FCalls Try.prog 51 #[(.slice s_A s_n s_c), f] σ R :=
  fcalls_of_M mixed_M3 M_slices_IndexFunc_int_an Try.func51 rfl (by kernel_rfl) (by kernel_rfl) (M := M_slices_IndexFunc_int σ s_A s_n s_c f R) (by kernel_rfl) h
theorem M_slices_IndexFunc_int_enter : enterB Try.prog 51 = true := by kernel_rfl

abbrev N_ground_Cable_1 : FuncId := 52
/-- waltzer/ground.Cable$1 -/
def M_ground_Cable_1 (σ : Hp) (c : Int) (cap0 : Option Addr) (cap1 : Option Addr) (cap2 : Option Addr) (R : Value → Hp → Prop) : Prop :=
  dr cap0 (fun b1 o2 => ldP σ b1 o2 (fun p3 => cl Try.prog (.func (.func 46) #[] #[]) #[(.pointer p3), (.int .i64 c)] σ (fun v4 σ5 => 
    ∃ t6 : Bool, (v4 = (.bool t6) ∧ bc t6 (dr cap1 (fun b7 o8 => ldS σ5 b7 o8 (fun A9 l9 _ => ix A9 l9 c 1 (fun b10 a11 => 
    ldI σ5 .i64 b10 a11 (fun n12 => bc (decide ((0 : Int) ≤ n12)) (dr cap1 (fun b13 o14 => ldS σ5 b13 o14 (fun A15 l15 _ => 
    ix A15 l15 c 1 (fun b16 a17 => ldI σ5 .i64 b16 a17 (fun n18 => dr cap0 (fun b19 o20 => ldP σ5 b19 o20 (fun p21 => 
    dr cap2 (fun b22 o23 => ldI σ5 .i64 b22 o23 (fun n24 => dr cap0 (fun b25 o26 => ldP σ5 b25 o26 (fun p27 => 
    dr cap2 (fun b28 o29 => ldI σ5 .i64 b28 o29 (fun n30 => dr cap1 (fun b31 o32 => ldS σ5 b31 o32 (fun A33 l33 _ => 
    dr cap2 (fun b34 o35 => ldI σ5 .i64 b34 o35 (fun n36 => ix A33 l33 n36 1 (fun b37 a38 => ldI σ5 .i64 b37 a38 (fun n39 => 
    cl Try.prog (.func (.func 50) #[] #[]) #[(.pointer p21), (.int .i64 n24), (.int .i64 c)] σ5 (fun v40 σ41 => 
    ∃ n42 : Int, (v40 = (.int .i64 n42) ∧ (Hp.Sub σ5 σ41 ∧ wk .i64 (n18 + n42) (fun n43 => cl Try.prog (.func (.func 48) #[] #[]) #[(.pointer p27), (.int .i64 n30)] σ41 (fun v44 σ45 => 
    ∃ n46 : Int, (v44 = (.int .i64 n46) ∧ (Hp.Sub σ41 σ45 ∧ wk .i64 (n43 + n46) (fun n47 => rt σ45 R (.bool (decide (n47 = n39)))))))))))))))))))))))))))))) (rt σ5 R (.bool false))))))) (bc false (dr cap1 (fun b48 o49 => 
    ldS σ5 b48 o49 (fun A50 l50 _ => ix A50 l50 c 1 (fun b51 a52 => ldI σ5 .i64 b51 a52 (fun n53 => dr cap0 (fun b54 o55 => 
    ldP σ5 b54 o55 (fun p56 => dr cap2 (fun b57 o58 => ldI σ5 .i64 b57 o58 (fun n59 => dr cap0 (fun b60 o61 => 
    ldP σ5 b60 o61 (fun p62 => dr cap2 (fun b63 o64 => ldI σ5 .i64 b63 o64 (fun n65 => dr cap1 (fun b66 o67 => 
    ldS σ5 b66 o67 (fun A68 l68 _ => dr cap2 (fun b69 o70 => ldI σ5 .i64 b69 o70 (fun n71 => ix A68 l68 n71 1 (fun b72 a73 => 
    ldI σ5 .i64 b72 a73 (fun n74 => cl Try.prog (.func (.func 50) #[] #[]) #[(.pointer p56), (.int .i64 n59), (.int .i64 c)] σ5 (fun v75 σ76 => 
    ∃ n77 : Int, (v75 = (.int .i64 n77) ∧ (Hp.Sub σ5 σ76 ∧ wk .i64 (n53 + n77) (fun n78 => cl Try.prog (.func (.func 48) #[] #[]) #[(.pointer p62), (.int .i64 n65)] σ76 (fun v79 σ80 => 
    ∃ n81 : Int, (v79 = (.int .i64 n81) ∧ (Hp.Sub σ76 σ80 ∧ wk .i64 (n78 + n81) (fun n82 => rt σ80 R (.bool (decide (n82 = n74)))))))))))))))))))))))))))))) (rt σ5 R (.bool false)))))))
def M_ground_Cable_1_an : MAn := (.seq (.txt []) (.seq (.plan [2] (.take 0 ⟨[], false, []⟩ (.take 1 ⟨[], false, []⟩ (.alt 2 false ⟨[], false, []⟩ (.take 3 ⟨[], true, []⟩ (.take 4 ⟨[], false, []⟩ (.take 5 ⟨[], false, []⟩ (.take 6 ⟨[], false, []⟩ (.take 7 ⟨[], false, []⟩ (.take 8 ⟨[], false, []⟩ (.take 9 ⟨[], false, []⟩ (.take 10 ⟨[], true, []⟩ (.take 11 ⟨[], false, []⟩ (.take 12 ⟨[], false, []⟩ (.take 13 ⟨[], false, []⟩ (.take 14 ⟨[], false, []⟩ (.take 15 ⟨[], false, []⟩ (.take 16 ⟨[], false, []⟩ (.take 17 ⟨[], false, []⟩ (.take 20 ⟨[], false, []⟩ (.take 21 ⟨[], false, []⟩ (.take 24 ⟨[], false, []⟩ (.take 25 ⟨[], false, []⟩ (.take 26 ⟨[], false, []⟩ (.take 27 ⟨[], false, []⟩ (.alt 18 true ⟨[], false, []⟩ (.take 19 ⟨[], false, []⟩ (.alt 22 true ⟨[], false, []⟩ (.take 23 ⟨[], false, []⟩ (.take 28 ⟨[], false, []⟩ (.take 29 ⟨[], false, []⟩ (.take 30 ⟨[], false, []⟩ .done)))) .done)) .done)))))))))))))))))))))) .done)))) .leaf))
set_option maxRecDepth 100000 in
theorem M_ground_Cable_1_ok (σ : Hp) (c : Int) (cap0 : Option Addr) (cap1 : Option Addr) (cap2 : Option Addr) (R : Value → Hp → Prop) (h : M_ground_Cable_1 σ c cap0 cap1 cap2 R) : FCalls Try.prog 52 #[(.int .i64 c), (.pointer cap0), (.pointer cap1), (.pointer cap2)] σ R :=
  fcalls_of_M mixed_M3 M_ground_Cable_1_an Try.func52 rfl (by kernel_rfl) (by kernel_rfl) (M := M_ground_Cable_1 σ c cap0 cap1 cap2 R) (by kernel_rfl) h
theorem M_ground_Cable_1_enter : enterB Try.prog 52 = true := by kernel_rfl

abbrev N_ref04_within : FuncId := 53
/-- waltzer/waltzerref04.within -/
def M_ref04_within (σ : Hp) (n : Int) (low : Int) (high : Int) (R : Value → Hp → Prop) : Prop :=
  bc (decide (low ≤ n)) (rt σ R (.bool (decide (n ≤ high)))) (rt σ R (.bool false))
def M_ref04_within_an : MAn := (.seq (.txt []) (.seq (.txt [⟨[], false, []⟩, ⟨[], false, []⟩, ⟨[], false, []⟩, ⟨[], true, []⟩]) .leaf))
set_option maxRecDepth 100000 in
theorem M_ref04_within_ok (σ : Hp) (n : Int) (low : Int) (high : Int) (R : Value → Hp → Prop) (h : M_ref04_within σ n low high R) : FCalls Try.prog 53 #[(.int .i64 n), (.int .i64 low), (.int .i64 high)] σ R :=
  fcalls_of_M mixed_M3 M_ref04_within_an Try.func53 rfl (by kernel_rfl) (by kernel_rfl) (M := M_ref04_within σ n low high R) (by kernel_rfl) h
theorem M_ref04_within_enter : enterB Try.prog 53 = true := by kernel_rfl

abbrev N_ref04_checkPitches : FuncId := 54
/-- waltzer/waltzerref04.checkPitches -/
def M_ref04_checkPitches (σ : Hp) (g_Wide : Int) (g_High : Int) (g_Cells_A : Option Addr) (g_Cells_n : Nat) (g_Cells_c : Nat) (g_Heights_A : Option Addr) (g_Heights_n : Nat) (g_Heights_c : Nat) (l_A : Option Addr) (l_n : Nat) (_ : Nat) (R : Value → Hp → Prop) : Prop :=
  cl Try.prog (.func (.func 87) #[] #[]) #[(.agg #[(.int .i64 g_Wide), (.int .i64 g_High), (.slice g_Cells_A g_Cells_n g_Cells_c), (.slice g_Heights_A g_Heights_n g_Heights_c)])] σ (fun v1 σ2 => 
    ∃ n3 : Int, (v1 = (.int .i64 n3) ∧ bc (!decide (n3 = 0)) (rt σ2 R (.tuple #[(.int .i64 0), (.int .i64 n3)])) (bc (decide ((8 : Int) < ((l_n : Nat) : Int))) (rt σ2 R (.tuple #[(.int .i64 0), (.int .i64 2)])) (cut (α := Hp → Prop) (fun  σ5 => 
    ∀ _ : Nat → Value, rt σ5 R (.tuple #[(.int .i64 0), (.int .i64 0)])) (fun J6 => ∃ I9 : Nat → Int → Hp → Prop, (∃ n100, I9 n100 0 σ2) ∧ 
    ∀ n10 : Nat, ∀ n11 : Int, ∀ σ8 : Hp, I9 n10 n11 σ8 → ∀ _ : Nat → Value, bc (decide (n11 < ((l_n : Nat) : Int))) (cut (α := Hp → Prop) (fun  σ13 => 
    ∀ _ : Nat → Value, wk .i64 (n11 + 1) (fun n15 => bk σ13 n10 (fun m16 σ17 => I9 m16 n15 σ17))) (fun J14 => 
    ix l_A l_n n11 5 (fun b18 a19 => ldI σ8 .i64 b18 a19 (fun n20 => ldI σ8 .i64 b18 (a19 + 1) (fun n21 => 
    ldI σ8 .i64 b18 (a19 + 2) (fun n22 => ldI σ8 .i64 b18 (a19 + 3) (fun n23 => ldI σ8 .i64 b18 (a19 + 4) (fun n24 => 
    cut (α := Bool → Hp → Prop) (fun t28 σ26 => ∀ _ : Nat → Value, bc t28 (rt σ26 R (.tuple #[(.int .i64 n11), (.int .i64 41)])) (J14 σ26)) (fun J27 => 
    cl Try.prog (.func (.func 53) #[] #[]) #[(.int .i64 n20), (.int .i64 1), (.int .i64 8)] σ8 (fun v29 σ30 => 
    ∃ t31 : Bool, (v29 = (.bool t31) ∧ bc (!t31) (bc true (bc true (bc true (J27 true σ30) (wk .i64 (((g_Cells_n : Nat) : Int) - 1) (fun n32 => 
    cl Try.prog (.func (.func 53) #[] #[]) #[(.int .i64 n24), (.int .i64 (-1)), (.int .i64 n32)] σ30 (fun v33 σ34 => 
    ∃ t35 : Bool, (v33 = (.bool t35) ∧ J27 (!t35) σ34))))) (cl Try.prog (.func (.func 53) #[] #[]) #[(.int .i64 n23), (.int .i64 0), (.int .i64 1000)] σ30 (fun v36 σ37 => 
    ∃ t38 : Bool, (v36 = (.bool t38) ∧ bc (!t38) (J27 true σ37) (wk .i64 (((g_Cells_n : Nat) : Int) - 1) (fun n39 => 
    cl Try.prog (.func (.func 53) #[] #[]) #[(.int .i64 n24), (.int .i64 (-1)), (.int .i64 n39)] σ37 (fun v40 σ41 => 
    ∃ t42 : Bool, (v40 = (.bool t42) ∧ J27 (!t42) σ41)))))))) (cl Try.prog (.func (.func 53) #[] #[]) #[(.int .i64 n22), (.int .i64 0), (.int .i64 100)] σ30 (fun v43 σ44 => 
    ∃ t45 : Bool, (v43 = (.bool t45) ∧ bc (!t45) (bc true (J27 true σ44) (wk .i64 (((g_Cells_n : Nat) : Int) - 1) (fun n46 => 
    cl Try.prog (.func (.func 53) #[] #[]) #[(.int .i64 n24), (.int .i64 (-1)), (.int .i64 n46)] σ44 (fun v47 σ48 => 
    ∃ t49 : Bool, (v47 = (.bool t49) ∧ J27 (!t49) σ48))))) (cl Try.prog (.func (.func 53) #[] #[]) #[(.int .i64 n23), (.int .i64 0), (.int .i64 1000)] σ44 (fun v50 σ51 => 
    ∃ t52 : Bool, (v50 = (.bool t52) ∧ bc (!t52) (J27 true σ51) (wk .i64 (((g_Cells_n : Nat) : Int) - 1) (fun n53 => 
    cl Try.prog (.func (.func 53) #[] #[]) #[(.int .i64 n24), (.int .i64 (-1)), (.int .i64 n53)] σ51 (fun v54 σ55 => 
    ∃ t56 : Bool, (v54 = (.bool t56) ∧ J27 (!t56) σ55))))))))))) (cl Try.prog (.func (.func 53) #[] #[]) #[(.int .i64 n21), (.int .i64 1), (.int .i64 8)] σ30 (fun v57 σ58 => 
    ∃ t59 : Bool, (v57 = (.bool t59) ∧ bc (!t59) (bc true (bc true (J27 true σ58) (wk .i64 (((g_Cells_n : Nat) : Int) - 1) (fun n60 => 
    cl Try.prog (.func (.func 53) #[] #[]) #[(.int .i64 n24), (.int .i64 (-1)), (.int .i64 n60)] σ58 (fun v61 σ62 => 
    ∃ t63 : Bool, (v61 = (.bool t63) ∧ J27 (!t63) σ62))))) (cl Try.prog (.func (.func 53) #[] #[]) #[(.int .i64 n23), (.int .i64 0), (.int .i64 1000)] σ58 (fun v64 σ65 => 
    ∃ t66 : Bool, (v64 = (.bool t66) ∧ bc (!t66) (J27 true σ65) (wk .i64 (((g_Cells_n : Nat) : Int) - 1) (fun n67 => 
    cl Try.prog (.func (.func 53) #[] #[]) #[(.int .i64 n24), (.int .i64 (-1)), (.int .i64 n67)] σ65 (fun v68 σ69 => 
    ∃ t70 : Bool, (v68 = (.bool t70) ∧ J27 (!t70) σ69)))))))) (cl Try.prog (.func (.func 53) #[] #[]) #[(.int .i64 n22), (.int .i64 0), (.int .i64 100)] σ58 (fun v71 σ72 => 
    ∃ t73 : Bool, (v71 = (.bool t73) ∧ bc (!t73) (bc true (J27 true σ72) (wk .i64 (((g_Cells_n : Nat) : Int) - 1) (fun n74 => 
    cl Try.prog (.func (.func 53) #[] #[]) #[(.int .i64 n24), (.int .i64 (-1)), (.int .i64 n74)] σ72 (fun v75 σ76 => 
    ∃ t77 : Bool, (v75 = (.bool t77) ∧ J27 (!t77) σ76))))) (cl Try.prog (.func (.func 53) #[] #[]) #[(.int .i64 n23), (.int .i64 0), (.int .i64 1000)] σ72 (fun v78 σ79 => 
    ∃ t80 : Bool, (v78 = (.bool t80) ∧ bc (!t80) (J27 true σ79) (wk .i64 (((g_Cells_n : Nat) : Int) - 1) (fun n81 => 
    cl Try.prog (.func (.func 53) #[] #[]) #[(.int .i64 n24), (.int .i64 (-1)), (.int .i64 n81)] σ79 (fun v82 σ83 => 
    ∃ t84 : Bool, (v82 = (.bool t84) ∧ J27 (!t84) σ83)))))))))))))))))))))))) (J6 σ8))))))
def M_ref04_checkPitches_an : MAn := (.seq (.txt []) (.seq (.seq (.txt []) (.seq (.txt []) (.cond (.seq (.txt []) .leaf) .leaf))) (.seq (.seq (.txt []) (.cond (.seq (.txt []) .leaf) .leaf)) (.cut ⟨[true], 1, [], []⟩ (.seq (.txt []) (.block (.loop ⟨[true], 1, [.slot 2 (.hb 0 0), .slot 7 (.sc (.int .i64))], [(1, true)]⟩ (.seq (.seq (.txt []) (.cond .leaf .leaf)) (.cut ⟨[true], 1, [.slot 2 (.hb 0 0)], [(1, true), (7, true)]⟩ (.block (.seq (.txt []) (.cut ⟨[true, true], 2, [.slot 2 (.hb 0 0), .slot 58 (.sc (.bool))], [(1, true), (7, true)]⟩ (.txt [⟨[], false, []⟩, ⟨[], false, []⟩, ⟨[], false, []⟩, ⟨[], false, []⟩, ⟨[], true, []⟩, ⟨[], false, []⟩, ⟨[], false, []⟩, ⟨[], false, []⟩, ⟨[], false, []⟩, ⟨[], false, []⟩, ⟨[], true, []⟩, ⟨[], false, []⟩, ⟨[], false, []⟩, ⟨[], false, []⟩, ⟨[], false, []⟩, ⟨[], false, []⟩, ⟨[], true, []⟩, ⟨[], false, []⟩, ⟨[], false, []⟩, ⟨[], false, []⟩, ⟨[], false, []⟩, ⟨[], false, []⟩, ⟨[], true, []⟩]) (.cond (.seq (.txt []) .leaf) .leaf)))) (.txt [])))))) (.seq (.txt []) .leaf)))))
set_option maxRecDepth 100000 in
theorem M_ref04_checkPitches_ok (σ : Hp) (g_Wide : Int) (g_High : Int) (g_Cells_A : Option Addr) (g_Cells_n : Nat) (g_Cells_c : Nat) (g_Heights_A : Option Addr) (g_Heights_n : Nat) (g_Heights_c : Nat) (l_A : Option Addr) (l_n : Nat) (l_c : Nat) (R : Value → Hp → Prop) (h : M_ref04_checkPitches σ g_Wide g_High g_Cells_A g_Cells_n g_Cells_c g_Heights_A g_Heights_n g_Heights_c l_A l_n l_c R) : FCalls Try.prog 54 #[(.agg #[(.int .i64 g_Wide), (.int .i64 g_High), (.slice g_Cells_A g_Cells_n g_Cells_c), (.slice g_Heights_A g_Heights_n g_Heights_c)]), (.slice l_A l_n l_c)] σ R :=
  fcalls_of_M mixed_M3 M_ref04_checkPitches_an Try.func54 rfl (by kernel_rfl) (by kernel_rfl) (M := M_ref04_checkPitches σ g_Wide g_High g_Cells_A g_Cells_n g_Cells_c g_Heights_A g_Heights_n g_Heights_c l_A l_n l_c R) (by kernel_rfl) h
theorem M_ref04_checkPitches_enter : enterB Try.prog 54 = true := by kernel_rfl

abbrev N_ref04_beside : FuncId := 55
/-- waltzer/waltzerref04.beside -/
def M_ref04_beside (σ : Hp) (g_Wide : Int) (g_High : Int) (g_Cells_A : Option Addr) (g_Cells_n : Nat) (g_Cells_c : Nat) (g_Heights_A : Option Addr) (g_Heights_n : Nat) (g_Heights_c : Nat) (p_Wide : Int) (p_High : Int) (p_Slope : Int) (p_Years : Int) (p_Wish : Int) (s_Cell : Int) (s_Turned : Bool) (full_A : Option Addr) (full_n : Nat) (_ : Nat) (R : Value → Hp → Prop) : Prop :=
  cl Try.prog (.func (.func 88) #[] #[]) #[(.agg #[(.int .i64 g_Wide), (.int .i64 g_High), (.slice g_Cells_A g_Cells_n g_Cells_c), (.slice g_Heights_A g_Heights_n g_Heights_c)]), (.agg #[(.int .i64 p_Wide), (.int .i64 p_High), (.int .i64 p_Slope), (.int .i64 p_Years), (.int .i64 p_Wish)]), (.agg #[(.int .i64 s_Cell), (.bool s_Turned)])] σ (fun v1 σ2 => 
    ∃ t3 : Bool, (v1 = (.bool t3) ∧ bc (!t3) (rt σ2 R (.bool false)) (cl Try.prog (.func (.func 78) #[] #[]) #[(.agg #[(.int .i64 g_Wide), (.int .i64 g_High), (.slice g_Cells_A g_Cells_n g_Cells_c), (.slice g_Heights_A g_Heights_n g_Heights_c)]), (.agg #[(.int .i64 p_Wide), (.int .i64 p_High), (.int .i64 p_Slope), (.int .i64 p_Years), (.int .i64 p_Wish)]), (.agg #[(.int .i64 s_Cell), (.bool s_Turned)])] σ2 (fun v4 σ5 => 
    ∃ A6 : Option Addr, ∃ l6 : Nat, ∃ c6 : Nat, ∃ t7 : Bool, (v4 = (.tuple #[(.slice A6 l6 c6), (.bool t7)]) ∧ 
    cut (α := Hp → Prop) (fun  σ9 => ∀ _ : Nat → Value, rt σ9 R (.bool true)) (fun J10 => ∃ I13 : Nat → Int → Hp → Prop, (∃ n140, I13 n140 0 σ5) ∧ 
    ∀ n14 : Nat, ∀ n15 : Int, ∀ σ12 : Hp, I13 n14 n15 σ12 → ∀ _ : Nat → Value, bc (decide (n15 < ((l6 : Nat) : Int))) (ix A6 l6 n15 1 (fun b16 a17 => 
    ldI σ12 .i64 b16 a17 (fun n18 => ix full_A full_n n18 1 (fun b19 a20 => ldB σ12 b19 a20 (fun t21 => bc t21 (rt σ12 R (.bool false)) (wk .i64 (n15 + 1) (fun n22 => 
    bk σ12 n14 (fun m23 σ24 => I13 m23 n22 σ24)))))))) (J10 σ12)))))))
def M_ref04_beside_an : MAn := (.seq (.txt []) (.seq (.seq (.txt []) (.cond (.seq (.txt []) .leaf) .leaf)) (.seq (.txt []) (.cut ⟨[true, true, true], 3, [], []⟩ (.seq (.txt []) (.block (.loop ⟨[true, true, true], 3, [.slot 11 (.sc (.int .i64))], [(3, true), (9, true)]⟩ (.seq (.seq (.txt []) (.cond .leaf .leaf)) (.seq (.block (.seq (.txt []) (.cond (.seq (.txt []) .leaf) .leaf))) (.txt [])))))) (.seq (.txt []) .leaf)))))
set_option maxRecDepth 100000 in
theorem M_ref04_beside_ok (σ : Hp) (g_Wide : Int) (g_High : Int) (g_Cells_A : Option Addr) (g_Cells_n : Nat) (g_Cells_c : Nat) (g_Heights_A : Option Addr) (g_Heights_n : Nat) (g_Heights_c : Nat) (p_Wide : Int) (p_High : Int) (p_Slope : Int) (p_Years : Int) (p_Wish : Int) (s_Cell : Int) (s_Turned : Bool) (full_A : Option Addr) (full_n : Nat) (full_c : Nat) (R : Value → Hp → Prop) (h : M_ref04_beside σ g_Wide g_High g_Cells_A g_Cells_n g_Cells_c g_Heights_A g_Heights_n g_Heights_c p_Wide p_High p_Slope p_Years p_Wish s_Cell s_Turned full_A full_n full_c R) : FCalls Try.prog 55 #[(.agg #[(.int .i64 g_Wide), (.int .i64 g_High), (.slice g_Cells_A g_Cells_n g_Cells_c), (.slice g_Heights_A g_Heights_n g_Heights_c)]), (.agg #[(.int .i64 p_Wide), (.int .i64 p_High), (.int .i64 p_Slope), (.int .i64 p_Years), (.int .i64 p_Wish)]), (.agg #[(.int .i64 s_Cell), (.bool s_Turned)]), (.slice full_A full_n full_c)] σ R :=
  fcalls_of_M mixed_M3 M_ref04_beside_an Try.func55 rfl (by kernel_rfl) (by kernel_rfl) (M := M_ref04_beside σ g_Wide g_High g_Cells_A g_Cells_n g_Cells_c g_Heights_A g_Heights_n g_Heights_c p_Wide p_High p_Slope p_Years p_Wish s_Cell s_Turned full_A full_n full_c R) (by kernel_rfl) h
theorem M_ref04_beside_enter : enterB Try.prog 55 = true := by kernel_rfl

abbrev N_ref04_taken : FuncId := 56
/-- waltzer/waltzerref04.taken -/
def M_ref04_taken (σ : Hp) (g_Wide : Int) (g_High : Int) (g_Cells_A : Option Addr) (g_Cells_n : Nat) (g_Cells_c : Nat) (g_Heights_A : Option Addr) (g_Heights_n : Nat) (g_Heights_c : Nat) (l_A : Option Addr) (l_n : Nat) (_ : Nat) (sites_A : Option Addr) (sites_n : Nat) (_ : Nat) (but : Int) (R : Value → Hp → Prop) : Prop :=
  (0 ≤ ((g_Cells_n : Nat) : Int) ∧ ((g_Cells_n : Nat) : Int) ≤ ((g_Cells_n : Nat) : Int) ∧ ((g_Cells_n : Nat) : Int) ≤ (1000000000 : Int) ∧ 
    cut (α := List Bool → Hp → Prop) (fun xs4 σ2 => ∀ _ : Nat → Value, exl 4 [.bool] xs4 σ2 (fun A5 l5 c5 σ6 => 
    rt σ6 R (.slice A5 l5 c5))) (fun J3 => ∃ I9 : Nat → Int → List Bool → Hp → Prop, (∃ n100, I9 n100 0 (List.replicate (((g_Cells_n : Nat) : Int) : Int).toNat false : List Bool) σ) ∧ 
    ∀ n10 : Nat, ∀ n11 : Int, ∀ xs12 : List Bool, ∀ σ8 : Hp, I9 n10 n11 xs12 σ8 → ∀ _ : Nat → Value, bc (decide (n11 < ((sites_n : Nat) : Int))) (cut (α := List Bool → Hp → Prop) (fun xs16 σ14 => 
    ∀ _ : Nat → Value, wk .i64 (n11 + 1) (fun n17 => bk σ14 n10 (fun m18 σ19 => I9 m18 n17 xs16 σ19))) (fun J15 => 
    cut (α := Hp → Prop) (fun  σ21 => ∀ _ : Nat → Value, ix l_A l_n n11 5 (fun b23 a24 => ldI σ21 .i64 b23 a24 (fun n25 => 
    ldI σ21 .i64 b23 (a24 + 1) (fun n26 => ldI σ21 .i64 b23 (a24 + 2) (fun n27 => ldI σ21 .i64 b23 (a24 + 3) (fun n28 => 
    ldI σ21 .i64 b23 (a24 + 4) (fun n29 => ix sites_A sites_n n11 2 (fun b30 a31 => ldI σ21 .i64 b30 a31 (fun n32 => 
    ldB σ21 b30 (a31 + 1) (fun t33 => cl Try.prog (.func (.func 78) #[] #[]) #[(.agg #[(.int .i64 g_Wide), (.int .i64 g_High), (.slice g_Cells_A g_Cells_n g_Cells_c), (.slice g_Heights_A g_Heights_n g_Heights_c)]), (.agg #[(.int .i64 n25), (.int .i64 n26), (.int .i64 n27), (.int .i64 n28), (.int .i64 n29)]), (.agg #[(.int .i64 n32), (.bool t33)])] σ21 (fun v34 σ35 => 
    ∃ A36 : Option Addr, ∃ l36 : Nat, ∃ c36 : Nat, ∃ t37 : Bool, (v34 = (.tuple #[(.slice A36 l36 c36), (.bool t37)]) ∧ 
    ∃ I40 : Nat → Int → List Bool → Hp → Prop, (∃ n410, I40 n410 0 xs12 σ35) ∧ ∀ n41 : Nat, ∀ n42 : Int, ∀ xs43 : List Bool, ∀ σ39 : Hp, I40 n41 n42 xs43 σ39 → ∀ _ : Nat → Value, bc (decide (n42 < ((l36 : Nat) : Int))) (ix A36 l36 n42 1 (fun b44 a45 => 
    ldI σ39 .i64 b44 a45 (fun n46 => (0 ≤ n46 ∧ n46 < ((List.length xs43 : Nat) : Int) ∧ lat xs43 ((n46 : Int).toNat) (fun _ => 
    wk .i64 (n42 + 1) (fun n48 => bk σ39 n41 (fun m49 σ50 => I40 m49 n48 (List.set xs43 ((n46 : Int).toNat) true) σ50))))))) (J15 xs43 σ39))))))))))))) (fun J22 => 
    cut (α := Bool → Hp → Prop) (fun t54 σ52 => ∀ _ : Nat → Value, bc t54 (J15 xs12 σ52) (J22 σ52)) (fun J53 => 
    bc (decide (n11 = but)) (J53 true σ8) (ix sites_A sites_n n11 2 (fun b55 a56 => ldI σ8 .i64 b55 a56 (fun n57 => 
    J53 (decide (n57 < 0)) σ8))))))) (J3 xs12 σ8)))
def M_ref04_taken_an : MAn := (.seq (.txt []) (.seq (.txt []) (.cut ⟨[true, false], 2, [.slot 9 (.hl 1 0), .modl 1 0 4 [.bool]], []⟩ (.seq (.txt []) (.block (.loop ⟨[true, false], 2, [.slot 4 (.hb 0 0), .slot 9 (.hl 1 0), .slot 10 (.sc (.int .i64)), .modl 1 0 4 [.bool]], [(1, true), (2, true), (3, true)]⟩ (.seq (.seq (.txt []) (.cond .leaf .leaf)) (.cut ⟨[true, false], 2, [.slot 4 (.hb 0 0), .slot 9 (.hl 1 0), .modl 1 0 4 [.bool]], [(1, true), (2, true), (3, true), (10, true)]⟩ (.block (.cut ⟨[true, true], 2, [.slot 4 (.hb 0 0), .slot 9 (.hl 1 0)], [(1, true), (2, true), (3, true), (10, true)]⟩ (.cut ⟨[true, true], 2, [.slot 4 (.hb 0 0), .slot 9 (.hl 1 0), .slot 34 (.sc (.bool))], [(1, true), (2, true), (3, true), (10, true)]⟩ (.txt [⟨[], false, []⟩, ⟨[], false, []⟩, ⟨[], false, []⟩, ⟨[], true, []⟩]) (.cond .leaf .leaf)) (.seq (.plan [9] (.take 0 ⟨[], false, []⟩ (.take 1 ⟨[], false, []⟩ (.take 2 ⟨[], false, []⟩ (.take 3 ⟨[], false, []⟩ (.take 4 ⟨[], false, []⟩ (.take 5 ⟨[], false, []⟩ (.take 6 ⟨[], false, []⟩ (.take 7 ⟨[], false, []⟩ (.take 8 ⟨[], false, []⟩ (.alt 9 false ⟨[], false, []⟩ (.take 10 ⟨[], false, []⟩ (.take 11 ⟨[], false, []⟩ (.take 12 ⟨[], false, []⟩ (.take 13 ⟨[], false, []⟩ (.take 14 ⟨[], false, []⟩ .done))))) .done))))))))))) (.seq (.txt []) (.block (.loop ⟨[true, false], 2, [.slot 4 (.hb 0 0), .slot 9 (.hl 1 0), .slot 13 (.sc (.int .i64)), .modl 1 0 4 [.bool]], [(1, true), (2, true), (3, true), (10, true), (11, true)]⟩ (.seq (.seq (.txt []) (.cond .leaf .leaf)) (.seq (.block (.txt [])) (.txt []))))))))) (.txt [])))))) (.seq (.txt []) .leaf))))
set_option maxRecDepth 100000 in
theorem M_ref04_taken_ok (σ : Hp) (g_Wide : Int) (g_High : Int) (g_Cells_A : Option Addr) (g_Cells_n : Nat) (g_Cells_c : Nat) (g_Heights_A : Option Addr) (g_Heights_n : Nat) (g_Heights_c : Nat) (l_A : Option Addr) (l_n : Nat) (l_c : Nat) (sites_A : Option Addr) (sites_n : Nat) (sites_c : Nat) (but : Int) (R : Value → Hp → Prop) (h : M_ref04_taken σ g_Wide g_High g_Cells_A g_Cells_n g_Cells_c g_Heights_A g_Heights_n g_Heights_c l_A l_n l_c sites_A sites_n sites_c but R) : FCalls Try.prog 56 #[(.agg #[(.int .i64 g_Wide), (.int .i64 g_High), (.slice g_Cells_A g_Cells_n g_Cells_c), (.slice g_Heights_A g_Heights_n g_Heights_c)]), (.slice l_A l_n l_c), (.slice sites_A sites_n sites_c), (.int .i64 but)] σ R :=
  fcalls_of_M mixed_M3 M_ref04_taken_an Try.func56 rfl (by kernel_rfl) (by kernel_rfl) (M := M_ref04_taken σ g_Wide g_High g_Cells_A g_Cells_n g_Cells_c g_Heights_A g_Heights_n g_Heights_c l_A l_n l_c sites_A sites_n sites_c but R) (by kernel_rfl) h
theorem M_ref04_taken_enter : enterB Try.prog 56 = true := by kernel_rfl

abbrev N_ground_newField : FuncId := 57
/-- waltzer/ground.newField -/
def M_ground_newField (σ : Hp) (g_Wide : Int) (g_High : Int) (g_Cells_A : Option Addr) (g_Cells_n : Nat) (g_Cells_c : Nat) (g_Heights_A : Option Addr) (g_Heights_n : Nat) (g_Heights_c : Nat) (l_A : Option Addr) (l_n : Nat) (l_c : Nat) (sites_A : Option Addr) (sites_n : Nat) (_ : Nat) (R : Value → Hp → Prop) : Prop :=
  cl Try.prog (.func (.func 62) #[] #[]) #[(.agg #[(.int .i64 g_Wide), (.int .i64 g_High), (.slice g_Cells_A g_Cells_n g_Cells_c), (.slice g_Heights_A g_Heights_n g_Heights_c)]), (.slice l_A l_n l_c)] σ (fun v1 σ2 => 
    ∃ p3 : Option Addr, ∃ n4 : Int, ∃ n5 : Int, (v1 = (.tuple #[(.pointer p3), (.int .i64 n4), (.int .i64 n5)]) ∧ 
    bc (!decide (n5 = 0)) (rt σ2 R (.tuple #[(.pointer none), (.int .i64 n4), (.int .i64 n5)])) (bc (!decide (((sites_n : Nat) : Int) = ((l_n : Nat) : Int))) (rt σ2 R (.tuple #[(.pointer none), (.int .i64 ((sites_n : Nat) : Int)), (.int .i64 41)])) (cut (α := Option Addr → Hp → Prop) (fun p9 σ7 => 
    ∀ _ : Nat → Value, rt σ7 R (.tuple #[(.pointer p9), (.int .i64 0), (.int .i64 0)])) (fun J8 => ∃ I12 : Nat → Option Addr → Int → Hp → Prop, (∃ n130, I12 n130 p3 0 σ2) ∧ 
    ∀ n13 : Nat, ∀ p14 : Option Addr, ∀ n15 : Int, ∀ σ11 : Hp, I12 n13 p14 n15 σ11 → ∀ _ : Nat → Value, bc (decide (n15 < ((sites_n : Nat) : Int))) (cut (α := Option Addr → Hp → Prop) (fun p19 σ17 => 
    ∀ _ : Nat → Value, wk .i64 (n15 + 1) (fun n20 => bk σ17 n13 (fun m21 σ22 => I12 m21 p19 n20 σ22))) (fun J18 => 
    ix sites_A sites_n n15 2 (fun b23 a24 => ldI σ11 .i64 b23 a24 (fun n25 => ldB σ11 b23 (a24 + 1) (fun t26 => 
    bc (decide (n25 = (-1)) && (t26 == false)) (J18 p14 σ11) (cl Try.prog (.func (.func 89) #[] #[]) #[(.pointer p14), (.int .i64 n15), (.agg #[(.int .i64 n25), (.bool t26)])] σ11 (fun v27 σ28 => 
    ∃ t29 : Bool, (v27 = (.bool t29) ∧ bc (!t29) (rt σ28 R (.tuple #[(.pointer none), (.int .i64 n15), (.int .i64 41)])) (cl Try.prog (.func (.func 65) #[] #[]) #[(.pointer p14), (.int .i64 n15), (.agg #[(.int .i64 n25), (.bool t26)])] σ28 (fun _ σ31 => 
    J18 p14 σ31)))))))))) (J8 p14 σ11))))))
def M_ground_newField_an : MAn := (.seq (.txt []) (.seq (.txt []) (.seq (.seq (.txt []) (.cond (.seq (.txt []) .leaf) .leaf)) (.seq (.seq (.txt []) (.cond (.seq (.txt []) .leaf) .leaf)) (.cut ⟨[true], 1, [.slot 6 (.sc (.ptr))], []⟩ (.seq (.txt []) (.block (.loop ⟨[true], 1, [.slot 6 (.sc (.ptr)), .slot 31 (.sc (.int .i64))], [(29, true), (30, true)]⟩ (.seq (.txt []) (.seq (.cond .leaf .leaf) (.cut ⟨[true], 1, [.slot 6 (.sc (.ptr))], [(29, true), (30, true), (31, true)]⟩ (.block (.seq (.txt []) (.seq (.seq (.txt []) (.cond .leaf .leaf)) (.seq (.seq (.txt []) (.cond (.seq (.txt []) .leaf) .leaf)) (.txt []))))) (.txt []))))))) (.seq (.txt []) .leaf))))))
set_option maxRecDepth 100000 in
theorem M_ground_newField_ok (σ : Hp) (g_Wide : Int) (g_High : Int) (g_Cells_A : Option Addr) (g_Cells_n : Nat) (g_Cells_c : Nat) (g_Heights_A : Option Addr) (g_Heights_n : Nat) (g_Heights_c : Nat) (l_A : Option Addr) (l_n : Nat) (l_c : Nat) (sites_A : Option Addr) (sites_n : Nat) (sites_c : Nat) (R : Value → Hp → Prop) (h : M_ground_newField σ g_Wide g_High g_Cells_A g_Cells_n g_Cells_c g_Heights_A g_Heights_n g_Heights_c l_A l_n l_c sites_A sites_n sites_c R) : FCalls Try.prog 57 #[(.agg #[(.int .i64 g_Wide), (.int .i64 g_High), (.slice g_Cells_A g_Cells_n g_Cells_c), (.slice g_Heights_A g_Heights_n g_Heights_c)]), (.slice l_A l_n l_c), (.slice sites_A sites_n sites_c)] σ R :=
  fcalls_of_M mixed_M3 M_ground_newField_an Try.func57 rfl (by kernel_rfl) (by kernel_rfl) (M := M_ground_newField σ g_Wide g_High g_Cells_A g_Cells_n g_Cells_c g_Heights_A g_Heights_n g_Heights_c l_A l_n l_c sites_A sites_n sites_c R) (by kernel_rfl) h
theorem M_ground_newField_enter : enterB Try.prog 57 = true := by kernel_rfl

abbrev N_ground_within : FuncId := 58
/-- waltzer/ground.within -/
def M_ground_within (σ : Hp) (n : Int) (low : Int) (high : Int) (R : Value → Hp → Prop) : Prop :=
  bc (decide (low ≤ n)) (rt σ R (.bool (decide (n ≤ high)))) (rt σ R (.bool false))
def M_ground_within_an : MAn := (.seq (.txt []) (.seq (.txt [⟨[], false, []⟩, ⟨[], false, []⟩, ⟨[], false, []⟩, ⟨[], true, []⟩]) .leaf))
set_option maxRecDepth 100000 in
theorem M_ground_within_ok (σ : Hp) (n : Int) (low : Int) (high : Int) (R : Value → Hp → Prop) (h : M_ground_within σ n low high R) : FCalls Try.prog 58 #[(.int .i64 n), (.int .i64 low), (.int .i64 high)] σ R :=
  fcalls_of_M mixed_M3 M_ground_within_an Try.func58 rfl (by kernel_rfl) (by kernel_rfl) (M := M_ground_within σ n low high R) (by kernel_rfl) h
theorem M_ground_within_enter : enterB Try.prog 58 = true := by kernel_rfl

abbrev N_ground_field_take : FuncId := 59
/-- (*waltzer/ground.field).take -/
def M_ground_field_take (σ : Hp) (f : Option Addr) (pitch : Int) (R : Value → Hp → Prop) : Prop :=
  dr f (fun b1 o2 => ldS σ b1 (o2 + 5) (fun A3 l3 _ => ix A3 l3 pitch 2 (fun b4 a5 => st σ b4 a5 (.int .i64 (-1)) (fun σ6 => 
    st σ6 b4 (a5 + 1) (.bool false) (fun σ7 => dr f (fun b8 o9 => ldS σ7 b8 (o9 + 6) (fun A10 l10 _ => 
    ∃ I14 : Nat → Int → Hp → Prop, (∃ n150, I14 n150 0 σ7) ∧ ∀ n15 : Nat, ∀ n16 : Int, ∀ σ13 : Hp, I14 n15 n16 σ13 → ∀ _ : Nat → Value, bc (decide (n16 < ((l10 : Nat) : Int))) (cut (α := Hp → Prop) (fun  σ18 => 
    ∀ _ : Nat → Value, wk .i64 (n16 + 1) (fun n20 => bk σ18 n15 (fun m21 σ22 => I14 m21 n20 σ22))) (fun J19 => 
    ix A10 l10 n16 1 (fun b23 a24 => ldI σ13 .i64 b23 a24 (fun n25 => bc (decide (n25 = pitch)) (dr f (fun b26 o27 => 
    ldS σ13 b26 (o27 + 6) (fun A28 l28 _ => ix A28 l28 n16 1 (fun b29 a30 => st σ13 b29 a30 (.int .i64 (-1)) (fun σ31 => 
    J19 σ31))))) (J19 σ13))))) (rt σ13 R (.tuple #[])))))))))
def M_ground_field_take_an : MAn := (.seq (.txt []) (.seq (.txt []) (.block (.loop ⟨[], 0, [.slot 18 (.sc (.int .i64))], [(0, true), (1, true), (16, true), (17, true)]⟩ (.seq (.txt []) (.seq (.cond .leaf .leaf) (.cut ⟨[], 0, [], [(0, true), (1, true), (16, true), (17, true), (18, true)]⟩ (.block (.seq (.txt []) (.seq (.txt []) (.cond (.txt []) .leaf)))) (.txt []))))))))
set_option maxRecDepth 100000 in
theorem M_ground_field_take_ok (σ : Hp) (f : Option Addr) (pitch : Int) (R : Value → Hp → Prop) (h : M_ground_field_take σ f pitch R) : FCalls Try.prog 59 #[(.pointer f), (.int .i64 pitch)] σ R :=
  fcalls_of_M mixed_M3 M_ground_field_take_an Try.func59 rfl (by kernel_rfl) (by kernel_rfl) (M := M_ground_field_take σ f pitch R) (by kernel_rfl) h
theorem M_ground_field_take_enter : enterB Try.prog 59 = true := by kernel_rfl

abbrev N_ground_field_where : FuncId := 60
/-- (*waltzer/ground.field).where -/
def M_ground_field_where (σ : Hp) (f : Option Addr) (pitch : Int) (R : Value → Hp → Prop) : Prop :=
  bx σ (.cells #[(.pointer f)] 67) (fun b1 σ2 => bx σ2 (.cells #[(.int .i64 pitch)] 3) (fun b3 σ4 => rt σ4 R (.func (.func 90) #[] #[(.pointer (some ⟨b1, 0, none⟩)), (.pointer (some ⟨b3, 0, none⟩))])))
def M_ground_field_where_an : MAn := (.seq (.txt []) (.seq (.txt []) .leaf))
set_option maxRecDepth 100000 in
theorem M_ground_field_where_ok (σ : Hp) (f : Option Addr) (pitch : Int) (R : Value → Hp → Prop) (h : M_ground_field_where σ f pitch R) : FCalls Try.prog 60 #[(.pointer f), (.int .i64 pitch)] σ R :=
  fcalls_of_M mixed_M3 M_ground_field_where_an Try.func60 rfl (by kernel_rfl) (by kernel_rfl) (M := M_ground_field_where σ f pitch R) (by kernel_rfl) h
theorem M_ground_field_where_enter : enterB Try.prog 60 = true := by kernel_rfl

abbrev N_ref04_places : FuncId := 61
/-- waltzer/waltzerref04.places -/
def M_ref04_places (σ : Hp) (g_Wide : Int) (g_High : Int) (g_Cells_A : Option Addr) (g_Cells_n : Nat) (g_Cells_c : Nat) (g_Heights_A : Option Addr) (g_Heights_n : Nat) (g_Heights_c : Nat) (p_Wide : Int) (p_High : Int) (p_Slope : Int) (p_Years : Int) (p_Wish : Int) (full_A : Option Addr) (full_n : Nat) (full_c : Nat) (R : Value → Hp → Prop) : Prop :=
  cut (α := Option Addr → Nat → Nat → Hp → Prop) (fun A4 l4 c4 σ2 => ∀ _ : Nat → Value, rt σ2 R (.slice A4 l4 c4)) (fun J3 => 
    ∃ I7 : Nat → Option Addr → Nat → Nat → Int → Hp → Prop, (∃ n80, I7 n80 none 0 0 0 σ) ∧ ∀ n8 : Nat, ∀ A9 : Option Addr, ∀ l9 : Nat, ∀ c9 : Nat, ∀ n10 : Int, ∀ σ6 : Hp, I7 n8 A9 l9 c9 n10 σ6 → ∀ _ : Nat → Value, bc (decide (n10 < ((g_Cells_n : Nat) : Int))) (cut (α := Option Addr → Nat → Nat → Hp → Prop) (fun A14 l14 c14 σ12 => 
    ∀ _ : Nat → Value, wk .i64 (n10 + 1) (fun n15 => bk σ12 n8 (fun m16 σ17 => I7 m16 A14 l14 c14 n15 σ17))) (fun J13 => 
    cut (α := Option Addr → Nat → Nat → Hp → Prop) (fun A21 l21 c21 σ19 => ∀ _ : Nat → Value, cl Try.prog (.func (.func 55) #[] #[]) #[(.agg #[(.int .i64 g_Wide), (.int .i64 g_High), (.slice g_Cells_A g_Cells_n g_Cells_c), (.slice g_Heights_A g_Heights_n g_Heights_c)]), (.agg #[(.int .i64 p_Wide), (.int .i64 p_High), (.int .i64 p_Slope), (.int .i64 p_Years), (.int .i64 p_Wish)]), (.agg #[(.int .i64 n10), (.bool true)]), (.slice full_A full_n full_c)] σ19 (fun v22 σ23 => 
    ∃ t24 : Bool, (v22 = (.bool t24) ∧ bc t24 (adp 50 [.int .i64, .bool] A21 l21 c21 σ23 (fun (xs25 : List (Int × Bool)) σ26 => 
    roomy (List.length xs25 + List.length ([(n10, true)] : List (Int × Bool))) (exl 50 [.int .i64, .bool] (xs25 ++ ([(n10, true)] : List (Int × Bool))) σ26 (fun A27 l27 c27 σ28 => 
    J13 A27 l27 c27 σ28)))) (J13 A21 l21 c21 σ23)))) (fun J20 => cl Try.prog (.func (.func 55) #[] #[]) #[(.agg #[(.int .i64 g_Wide), (.int .i64 g_High), (.slice g_Cells_A g_Cells_n g_Cells_c), (.slice g_Heights_A g_Heights_n g_Heights_c)]), (.agg #[(.int .i64 p_Wide), (.int .i64 p_High), (.int .i64 p_Slope), (.int .i64 p_Years), (.int .i64 p_Wish)]), (.agg #[(.int .i64 n10), (.bool false)]), (.slice full_A full_n full_c)] σ6 (fun v29 σ30 => 
    ∃ t31 : Bool, (v29 = (.bool t31) ∧ bc t31 (adp 50 [.int .i64, .bool] A9 l9 c9 σ30 (fun (xs32 : List (Int × Bool)) σ33 => 
    roomy (List.length xs32 + List.length ([(n10, false)] : List (Int × Bool))) (exl 50 [.int .i64, .bool] (xs32 ++ ([(n10, false)] : List (Int × Bool))) σ33 (fun A34 l34 c34 σ35 => 
    J20 A34 l34 c34 σ35)))) (J20 A9 l9 c9 σ30)))))) (J3 A9 l9 c9 σ6))
def M_ref04_places_an : MAn := (.seq (.txt []) (.seq (.txt []) (.cut ⟨[true, true], 2, [.slot 7 (.sc (.slc))], []⟩ (.seq (.txt []) (.block (.loop ⟨[true, true], 2, [.slot 3 (.hb 0 0), .slot 4 (.hb 1 0), .slot 7 (.sc (.slc)), .slot 8 (.sc (.int .i64))], [(2, true)]⟩ (.seq (.seq (.txt []) (.cond .leaf .leaf)) (.cut ⟨[true, true], 2, [.slot 3 (.hb 0 0), .slot 4 (.hb 1 0), .slot 7 (.sc (.slc))], [(2, true), (8, true)]⟩ (.block (.cut ⟨[true, true], 2, [.slot 3 (.hb 0 0), .slot 4 (.hb 1 0), .slot 7 (.sc (.slc))], [(2, true), (8, true)]⟩ (.seq (.txt []) (.seq (.txt []) (.cond (.txt []) .leaf))) (.seq (.txt []) (.seq (.txt []) (.cond (.txt []) .leaf))))) (.txt [])))))) (.seq (.txt []) .leaf))))
set_option maxRecDepth 100000 in
theorem M_ref04_places_ok (σ : Hp) (g_Wide : Int) (g_High : Int) (g_Cells_A : Option Addr) (g_Cells_n : Nat) (g_Cells_c : Nat) (g_Heights_A : Option Addr) (g_Heights_n : Nat) (g_Heights_c : Nat) (p_Wide : Int) (p_High : Int) (p_Slope : Int) (p_Years : Int) (p_Wish : Int) (full_A : Option Addr) (full_n : Nat) (full_c : Nat) (R : Value → Hp → Prop) (h : M_ref04_places σ g_Wide g_High g_Cells_A g_Cells_n g_Cells_c g_Heights_A g_Heights_n g_Heights_c p_Wide p_High p_Slope p_Years p_Wish full_A full_n full_c R) : FCalls Try.prog 61 #[(.agg #[(.int .i64 g_Wide), (.int .i64 g_High), (.slice g_Cells_A g_Cells_n g_Cells_c), (.slice g_Heights_A g_Heights_n g_Heights_c)]), (.agg #[(.int .i64 p_Wide), (.int .i64 p_High), (.int .i64 p_Slope), (.int .i64 p_Years), (.int .i64 p_Wish)]), (.slice full_A full_n full_c)] σ R :=
  fcalls_of_M mixed_M3 M_ref04_places_an Try.func61 rfl (by kernel_rfl) (by kernel_rfl) (M := M_ref04_places σ g_Wide g_High g_Cells_A g_Cells_n g_Cells_c g_Heights_A g_Heights_n g_Heights_c p_Wide p_High p_Slope p_Years p_Wish full_A full_n full_c R) (by kernel_rfl) h
theorem M_ref04_places_enter : enterB Try.prog 61 = true := by kernel_rfl

abbrev N_ground_empty : FuncId := 62
/-- waltzer/ground.empty -/
def M_ground_empty (σ : Hp) (g_Wide : Int) (g_High : Int) (g_Cells_A : Option Addr) (g_Cells_n : Nat) (g_Cells_c : Nat) (g_Heights_A : Option Addr) (g_Heights_n : Nat) (g_Heights_c : Nat) (l_A : Option Addr) (l_n : Nat) (l_c : Nat) (R : Value → Hp → Prop) : Prop :=
  cl Try.prog (.func (.func 91) #[] #[]) #[(.agg #[(.int .i64 g_Wide), (.int .i64 g_High), (.slice g_Cells_A g_Cells_n g_Cells_c), (.slice g_Heights_A g_Heights_n g_Heights_c)])] σ (fun v1 σ2 => 
    ∃ t3 : Bool, (v1 = (.bool t3) ∧ bc (!t3) (rt σ2 R (.tuple #[(.pointer none), (.int .i64 0), (.int .i64 40)])) (bc (decide ((8 : Int) < ((l_n : Nat) : Int))) (rt σ2 R (.tuple #[(.pointer none), (.int .i64 0), (.int .i64 2)])) (bx σ2 (.cells #[(.int .i64 g_Wide), (.int .i64 g_High), (.slice g_Cells_A g_Cells_n g_Cells_c), (.slice g_Heights_A g_Heights_n g_Heights_c)] 24) (fun b4 σ5 => 
    cl Try.prog (.func (.func 92) #[] #[]) #[(.slice l_A l_n l_c), (.func (.func 93) #[] #[(.pointer (some ⟨b4, 0, none⟩))])] σ5 (fun v6 σ7 => 
    ∃ n8 : Int, (v6 = (.int .i64 n8) ∧ bc (decide ((0 : Int) ≤ n8)) (rt σ7 R (.tuple #[(.pointer none), (.int .i64 n8), (.int .i64 41)])) (ldI σ7 .i64 b4 0 (fun n9 => 
    ldI σ7 .i64 b4 1 (fun n10 => ldS σ7 b4 2 (fun A11 l11 c11 => ldS σ7 b4 3 (fun A12 l12 c12 => ldS σ7 b4 2 (fun _ l13 _ => 
    (((exl 50 [.int .i64, .bool] ([((-1), false)] : List (Int × Bool)) σ7 (fun A14 l14 c14 σ15 => cl Try.prog (.func (.func 95) #[] #[]) #[(.slice A14 l14 c14), (.int .i64 ((l_n : Nat) : Int))] σ15 (fun v16 σ17 => 
    ∃ A18 : Option Addr, ∃ l18 : Nat, ∃ c18 : Nat, (v16 = (.slice A18 l18 c18) ∧ (Hp.Sub σ15 σ17 ∧ exl 3 [.int .i64] ([(-1)] : List Int) σ17 (fun A19 l19 c19 σ20 => 
    cl Try.prog (.func (.func 47) #[] #[]) #[(.slice A19 l19 c19), (.int .i64 ((l13 : Nat) : Int))] σ20 (fun v21 σ22 => 
    ∃ A23 : Option Addr, ∃ l23 : Nat, ∃ c23 : Nat, (v21 = (.slice A23 l23 c23) ∧ (Hp.Sub σ20 σ22 ∧ adp 3 [.int .i64] A23 l23 c23 σ22 (fun (xs24 : List Int) σ25 => 
    exl 3 [.int .i64] xs24 σ25 (fun A26 l26 c26 σ27 => bx σ27 (.cells #[(.int .i64 n9), (.int .i64 n10), (.slice A11 l11 c11), (.slice A12 l12 c12), (.slice l_A l_n l_c), (.slice A18 l18 c18), (.slice A26 l26 c26)] 73) (fun b28 σ29 => 
    rt σ29 R (.tuple #[(.pointer (some ⟨b28, 0, none⟩)), (.int .i64 0), (.int .i64 0)]))))))))))))) ∧ (exl 50 [.int .i64, .bool] ([((-1), false)] : List (Int × Bool)) σ7 (fun A30 l30 c30 σ31 => 
    cl Try.prog (.func (.func 95) #[] #[]) #[(.slice A30 l30 c30), (.int .i64 ((l_n : Nat) : Int))] σ31 (fun v32 σ33 => 
    ∃ A34 : Option Addr, ∃ l34 : Nat, ∃ c34 : Nat, (v32 = (.slice A34 l34 c34) ∧ (Hp.Sub σ31 σ33 ∧ exl 3 [.int .i64] ([(-1)] : List Int) σ33 (fun A35 l35 c35 σ36 => 
    cl Try.prog (.func (.func 47) #[] #[]) #[(.slice A35 l35 c35), (.int .i64 ((l13 : Nat) : Int))] σ36 (fun v37 σ38 => 
    ∃ A39 : Option Addr, ∃ l39 : Nat, ∃ c39 : Nat, (v37 = (.slice A39 l39 c39) ∧ (Hp.Sub σ36 σ38 ∧ adp 3 [.int .i64] A39 l39 c39 σ38 (fun (xs40 : List Int) σ41 => 
    exl 3 [.int .i64] xs40 σ41 (fun A42 l42 c42 σ43 => bx σ43 (.cells #[(.int .i64 n9), (.int .i64 n10), (.slice A11 l11 c11), (.slice A12 l12 c12), (.slice l_A l_n l_c), (.slice A34 l34 c34), (.slice A42 l42 c42)] 73) (fun b44 σ45 => 
    rt σ45 R (.tuple #[(.pointer (some ⟨b44, 0, none⟩)), (.int .i64 0), (.int .i64 0)])))))))))))))) ∧ (exl 50 [.int .i64, .bool] ([((-1), false)] : List (Int × Bool)) σ7 (fun A46 l46 c46 σ47 => 
    cl Try.prog (.func (.func 95) #[] #[]) #[(.slice A46 l46 c46), (.int .i64 ((l_n : Nat) : Int))] σ47 (fun v48 σ49 => 
    ∃ A50 : Option Addr, ∃ l50 : Nat, ∃ c50 : Nat, (v48 = (.slice A50 l50 c50) ∧ (Hp.Sub σ47 σ49 ∧ exl 3 [.int .i64] ([(-1)] : List Int) σ49 (fun A51 l51 c51 σ52 => 
    cl Try.prog (.func (.func 47) #[] #[]) #[(.slice A51 l51 c51), (.int .i64 ((l13 : Nat) : Int))] σ52 (fun v53 σ54 => 
    ∃ A55 : Option Addr, ∃ l55 : Nat, ∃ c55 : Nat, (v53 = (.slice A55 l55 c55) ∧ (Hp.Sub σ52 σ54 ∧ adp 3 [.int .i64] A55 l55 c55 σ54 (fun (xs56 : List Int) σ57 => 
    exl 3 [.int .i64] xs56 σ57 (fun A58 l58 c58 σ59 => bx σ59 (.cells #[(.int .i64 n9), (.int .i64 n10), (.slice A11 l11 c11), (.slice A12 l12 c12), (.slice l_A l_n l_c), (.slice A50 l50 c50), (.slice A58 l58 c58)] 73) (fun b60 σ61 => 
    rt σ61 R (.tuple #[(.pointer (some ⟨b60, 0, none⟩)), (.int .i64 0), (.int .i64 0)])))))))))))))))))))))))))))
def M_ground_empty_an : MAn := (.seq (.txt []) (.seq (.seq (.txt []) (.cond (.seq (.txt []) .leaf) .leaf)) (.seq (.seq (.txt []) (.cond (.seq (.txt []) .leaf) .leaf)) (.seq (.seq (.txt []) (.seq (.txt []) (.cond (.seq (.txt []) .leaf) .leaf))) (.seq (.plan [] (.take 0 ⟨[], false, []⟩ (.take 1 ⟨[], false, []⟩ (.take 2 ⟨[], false, []⟩ (.take 4 ⟨[], false, []⟩ (.take 5 ⟨[], false, []⟩ (.take 8 ⟨[], false, []⟩ (.take 9 ⟨[], false, []⟩ (.take 10 ⟨[], false, []⟩ (.alt 3 true ⟨[], false, []⟩ (.alt 6 true ⟨[], false, []⟩ (.alt 7 true ⟨[], false, []⟩ (.alt 11 true ⟨[], false, [.adl 31 3 [.int .i64]]⟩ (.take 12 ⟨[], false, []⟩ (.alt 13 true ⟨[], false, []⟩ (.take 14 ⟨[], false, []⟩ (.take 15 ⟨[], false, []⟩ (.take 16 ⟨[], false, []⟩ .done))) .done)) .done) .done) (.alt 7 true ⟨[], false, []⟩ (.alt 6 true ⟨[], false, []⟩ (.alt 11 true ⟨[], false, [.adl 31 3 [.int .i64]]⟩ (.take 12 ⟨[], false, []⟩ (.alt 13 true ⟨[], false, []⟩ (.take 14 ⟨[], false, []⟩ (.take 15 ⟨[], false, []⟩ (.take 16 ⟨[], false, []⟩ .done))) .done)) .done) .done) .done)) (.alt 7 true ⟨[], false, []⟩ (.alt 3 true ⟨[], false, []⟩ (.alt 6 true ⟨[], false, []⟩ (.alt 11 true ⟨[], false, [.adl 31 3 [.int .i64]]⟩ (.take 12 ⟨[], false, []⟩ (.alt 13 true ⟨[], false, []⟩ (.take 14 ⟨[], false, []⟩ (.take 15 ⟨[], false, []⟩ (.take 16 ⟨[], false, []⟩ .done))) .done)) .done) .done) .done) .done))))))))))) .leaf)))))
set_option maxRecDepth 100000 in
theorem M_ground_empty_ok (σ : Hp) (g_Wide : Int) (g_High : Int) (g_Cells_A : Option Addr) (g_Cells_n : Nat) (g_Cells_c : Nat) (g_Heights_A : Option Addr) (g_Heights_n : Nat) (g_Heights_c : Nat) (l_A : Option Addr) (l_n : Nat) (l_c : Nat) (R : Value → Hp → Prop) (h : M_ground_empty σ g_Wide g_High g_Cells_A g_Cells_n g_Cells_c g_Heights_A g_Heights_n g_Heights_c l_A l_n l_c R) : FCalls Try.prog 62 #[(.agg #[(.int .i64 g_Wide), (.int .i64 g_High), (.slice g_Cells_A g_Cells_n g_Cells_c), (.slice g_Heights_A g_Heights_n g_Heights_c)]), (.slice l_A l_n l_c)] σ R :=
  fcalls_of_M mixed_M3 M_ground_empty_an Try.func62 rfl (by kernel_rfl) (by kernel_rfl) (M := M_ground_empty σ g_Wide g_High g_Cells_A g_Cells_n g_Cells_c g_Heights_A g_Heights_n g_Heights_c l_A l_n l_c R) (by kernel_rfl) h
theorem M_ground_empty_enter : enterB Try.prog 62 = true := by kernel_rfl

abbrev N_slices_SortStableFunc_int : FuncId := 63
/-- slices.SortStableFunc[[]int,int] -/
def M_slices_SortStableFunc_int (σ : Hp) (x_A : Option Addr) (x_n : Nat) (x_c : Nat) (cmp : Value) (R : Value → Hp → Prop) : Prop :=
  cl Try.prog (.func (.func 96) #[] #[]) #[(.slice x_A x_n x_c), (.int .i64 ((x_n : Nat) : Int)), cmp] σ (fun _ σ2 => 
    rt σ2 R (.tuple #[]))
def M_slices_SortStableFunc_int_an : MAn := (.txt [])
set_option maxRecDepth 100000 in
theorem M_slices_SortStableFunc_int_ok (σ : Hp) (x_A : Option Addr) (x_n : Nat) (x_c : Nat) (cmp : Value) (R : Value → Hp → Prop) (h : M_slices_SortStableFunc_int σ x_A x_n x_c cmp R) : FCalls Try.prog 63 #[(.slice x_A x_n x_c), cmp] σ R :=
  fcalls_of_M mixed_M3 M_slices_SortStableFunc_int_an Try.func63 rfl (by kernel_rfl) (by kernel_rfl) (M := M_slices_SortStableFunc_int σ x_A x_n x_c cmp R) (by kernel_rfl) h
theorem M_slices_SortStableFunc_int_enter : enterB Try.prog 63 = true := by kernel_rfl

abbrev N_ground_Award_1 : FuncId := 64
/-- waltzer/ground.Award$1 -/
def M_ground_Award_1 (σ : Hp) (a : Int) (b : Int) (cap0 : Option Addr) (R : Value → Hp → Prop) : Prop :=
  dr cap0 (fun b1 o2 => ldS σ b1 o2 (fun A3 l3 _ => ix A3 l3 b 5 (fun b4 a5 => ldI σ .i64 b4 (a5 + 3) (fun n6 => 
    dr cap0 (fun b7 o8 => ldS σ b7 o8 (fun A9 l9 _ => ix A9 l9 a 5 (fun b10 a11 => ldI σ .i64 b10 (a11 + 3) (fun n12 => 
    wk .i64 (n6 - n12) (fun n13 => rt σ R (.int .i64 n13))))))))))
def M_ground_Award_1_an : MAn := (.seq (.txt []) (.seq (.plan [] (.take 0 ⟨[], false, []⟩ (.take 1 ⟨[], false, []⟩ (.take 2 ⟨[], false, []⟩ (.take 3 ⟨[], false, []⟩ (.take 4 ⟨[], false, []⟩ (.take 5 ⟨[], false, []⟩ (.take 6 ⟨[], false, []⟩ (.take 7 ⟨[], false, []⟩ (.take 8 ⟨[], false, []⟩ (.take 9 ⟨[], false, []⟩ (.take 10 ⟨[], false, []⟩ (.take 11 ⟨[], false, []⟩ .done))))))))))))) .leaf))
set_option maxRecDepth 100000 in
theorem M_ground_Award_1_ok (σ : Hp) (a : Int) (b : Int) (cap0 : Option Addr) (R : Value → Hp → Prop) (h : M_ground_Award_1 σ a b cap0 R) : FCalls Try.prog 64 #[(.int .i64 a), (.int .i64 b), (.pointer cap0)] σ R :=
  fcalls_of_M mixed_M3 M_ground_Award_1_an Try.func64 rfl (by kernel_rfl) (by kernel_rfl) (M := M_ground_Award_1 σ a b cap0 R) (by kernel_rfl) h
theorem M_ground_Award_1_enter : enterB Try.prog 64 = true := by kernel_rfl

abbrev N_ground_field_put : FuncId := 65
/-- (*waltzer/ground.field).put -/
def M_ground_field_put (σ : Hp) (f : Option Addr) (pitch : Int) (s_Cell : Int) (s_Turned : Bool) (R : Value → Hp → Prop) : Prop :=
  dr f (fun b1 o2 => ldS σ b1 (o2 + 5) (fun A3 l3 _ => ix A3 l3 pitch 2 (fun b4 a5 => st σ b4 a5 (.int .i64 s_Cell) (fun σ6 => 
    st σ6 b4 (a5 + 1) (.bool s_Turned) (fun σ7 => cl Try.prog (.func (.func 74) #[] #[]) #[(.pointer f), (.int .i64 pitch), (.agg #[(.int .i64 s_Cell), (.bool s_Turned)])] σ7 (fun v8 σ9 => 
    ∃ A10 : Option Addr, ∃ l10 : Nat, ∃ c10 : Nat, ∃ t11 : Bool, (v8 = (.tuple #[(.slice A10 l10 c10), (.bool t11)]) ∧ 
    ∃ I15 : Nat → Int → Hp → Prop, (∃ n160, I15 n160 0 σ9) ∧ ∀ n16 : Nat, ∀ n17 : Int, ∀ σ14 : Hp, I15 n16 n17 σ14 → ∀ _ : Nat → Value, bc (decide (n17 < ((l10 : Nat) : Int))) (ix A10 l10 n17 1 (fun b18 a19 => 
    ldI σ14 .i64 b18 a19 (fun n20 => dr f (fun b21 o22 => ldS σ14 b21 (o22 + 6) (fun A23 l23 _ => ix A23 l23 n20 1 (fun b24 a25 => 
    st σ14 b24 a25 (.int .i64 pitch) (fun σ26 => wk .i64 (n17 + 1) (fun n27 => bk σ26 n16 (fun m28 σ29 => 
    I15 m28 n27 σ29))))))))) (rt σ14 R (.tuple #[])))))))))
def M_ground_field_put_an : MAn := (.seq (.txt []) (.seq (.plan [7] (.take 0 ⟨[], false, []⟩ (.take 1 ⟨[], false, []⟩ (.take 2 ⟨[], false, []⟩ (.take 3 ⟨[], false, []⟩ (.take 4 ⟨[], false, []⟩ (.take 5 ⟨[], false, []⟩ (.take 6 ⟨[], false, []⟩ (.alt 7 false ⟨[], false, []⟩ .done .done))))))))) (.seq (.txt []) (.seq (.txt []) (.block (.loop ⟨[true], 1, [.slot 26 (.sc (.int .i64))], [(0, true), (1, true), (24, true), (25, true)]⟩ (.seq (.txt []) (.seq (.cond .leaf .leaf) (.seq (.block (.seq (.txt []) (.txt []))) (.txt []))))))))))
set_option maxRecDepth 100000 in
theorem M_ground_field_put_ok (σ : Hp) (f : Option Addr) (pitch : Int) (s_Cell : Int) (s_Turned : Bool) (R : Value → Hp → Prop) (h : M_ground_field_put σ f pitch s_Cell s_Turned R) : FCalls Try.prog 65 #[(.pointer f), (.int .i64 pitch), (.agg #[(.int .i64 s_Cell), (.bool s_Turned)])] σ R :=
  fcalls_of_M mixed_M3 M_ground_field_put_an Try.func65 rfl (by kernel_rfl) (by kernel_rfl) (M := M_ground_field_put σ f pitch s_Cell s_Turned R) (by kernel_rfl) h
theorem M_ground_field_put_enter : enterB Try.prog 65 = true := by kernel_rfl

abbrev N_ground_field_lay : FuncId := 66
/-- (*waltzer/ground.field).lay -/
def M_ground_field_lay (σ : Hp) (f : Option Addr) (pitch : Int) (R : Value → Hp → Prop) : Prop :=
  dr f (fun b1 o2 => ldS σ b1 (o2 + 4) (fun _ l3 _ => bc (decide (pitch = ((l3 : Nat) : Int))) (rt σ R (.bool true)) (cut (α := Option Addr → Hp → Prop) (fun p7 σ5 => 
    ∀ _ : Nat → Value, dr p7 (fun b8 o9 => st σ5 b8 o9 (.bool false) (fun σ10 => dr p7 (fun b11 o12 => ldB σ10 b11 o12 (fun t13 => 
    rt σ10 R (.bool t13)))))) (fun J6 => cl Try.prog (.func (.func 60) #[] #[]) #[(.pointer f), (.int .i64 pitch)] σ (fun v14 σ15 => 
    ∃ v16 : Value, (v14 = v16 ∧ bx σ15 (.cells #[(.pointer f)] 67) (fun b17 σ18 => bx σ18 (.cells #[(.int .i64 pitch)] 3) (fun b19 σ20 => 
    bx σ20 (.cells #[(.bool false)] 4) (fun b21 σ22 => rngM Try.prog v16 σ22 (fun l23 Rec24 ag25 σ26 R27 => 
    ∃ n31 : Int, ∃ t32 : Bool, (ag25 = #[(.agg #[(.int .i64 n31), (.bool t32)])] ∧ ∀ _ : Nat → Value, rgb l23 Rec24 σ26 (fun σ33 => 
    ldP σ33 b17 0 (fun p34 => ldI σ33 .i64 b19 0 (fun n35 => cl Try.prog (.func (.func 65) #[] #[]) #[(.pointer p34), (.int .i64 n35), (.agg #[(.int .i64 n31), (.bool t32)])] σ33 (fun _ σ37 => 
    ldP σ37 b17 0 (fun p38 => ldI σ37 .i64 b19 0 (fun n39 => wk .i64 (n39 + 1) (fun n40 => cl Try.prog (.func (.func 66) #[] #[]) #[(.pointer p38), (.int .i64 n40)] σ37 (fun v41 σ42 => 
    ∃ t43 : Bool, (v41 = (.bool t43) ∧ bc t43 (st σ42 b21 0 (.bool true) (fun σ44 => rgx l23 Rec24 R27 σ44 .ret)) (ldP σ42 b17 0 (fun p45 => 
    ldI σ42 .i64 b19 0 (fun n46 => cl Try.prog (.func (.func 59) #[] #[]) #[(.pointer p45), (.int .i64 n46)] σ42 (fun _ σ48 => 
    rgo l23 Rec24 R27 σ48))))))))))))))) (fun p28 σ29 => aft p28 (J6 (some ⟨b21, 0, none⟩) σ29) (ldB σ29 b21 0 (fun t49 => 
    rt σ29 R (.bool t49))) (fun i => exb i 0 (J6 (some ⟨b21, 0, none⟩) σ29) (False))))))))))))
def M_ground_field_lay_an : MAn := (.seq (.txt []) (.seq (.seq (.plan [] (.take 0 ⟨[], false, []⟩ (.take 1 ⟨[], false, []⟩ (.take 2 ⟨[], false, []⟩ (.take 3 ⟨[], false, []⟩ (.take 4 ⟨[], false, []⟩ (.take 5 ⟨[], false, []⟩ (.take 6 ⟨[], false, []⟩ .done)))))))) (.cond (.seq (.txt []) .leaf) .leaf)) (.cut ⟨[false, false, false], 3, [.slot 4 (.sc (.ptr))], []⟩ (.seq (.txt []) (.block (.rng [.exp 2, .exp 3, .exp 4] [(2, true), (3, true), (4, true)] [50] (.txt []) (.block (.seq (.txt []) (.seq (.seq (.txt []) (.cond (.seq (.txt []) .leaf) .leaf)) (.txt []))))))) (.seq (.txt []) .leaf))))
set_option maxRecDepth 100000 in
theorem M_ground_field_lay_ok (σ : Hp) (f : Option Addr) (pitch : Int) (R : Value → Hp → Prop) (h : M_ground_field_lay σ f pitch R) : FCalls Try.prog 66 #[(.pointer f), (.int .i64 pitch)] σ R :=
  fcalls_of_M mixed_M3 M_ground_field_lay_an Try.func66 rfl (by kernel_rfl) (by kernel_rfl) (M := M_ground_field_lay σ f pitch R) (by kernel_rfl) h
theorem M_ground_field_lay_enter : enterB Try.prog 66 = true := by kernel_rfl

abbrev N_ref04_lay : FuncId := 67
/-- waltzer/waltzerref04.lay -/
def M_ref04_lay (σ : Hp) (g_Wide : Int) (g_High : Int) (g_Cells_A : Option Addr) (g_Cells_n : Nat) (g_Cells_c : Nat) (g_Heights_A : Option Addr) (g_Heights_n : Nat) (g_Heights_c : Nat) (l_A : Option Addr) (l_n : Nat) (l_c : Nat) (begun_A : Option Addr) (begun_n : Nat) (begun_c : Nat) (R : Value → Hp → Prop) : Prop :=
  bc (decide (((begun_n : Nat) : Int) = ((l_n : Nat) : Int))) (rt σ R (.tuple #[(.slice begun_A begun_n begun_c), (.bool true)])) (ix l_A l_n ((begun_n : Nat) : Int) 5 (fun b1 a2 => 
    ldI σ .i64 b1 a2 (fun n3 => ldI σ .i64 b1 (a2 + 1) (fun n4 => ldI σ .i64 b1 (a2 + 2) (fun n5 => ldI σ .i64 b1 (a2 + 3) (fun n6 => 
    ldI σ .i64 b1 (a2 + 4) (fun n7 => cl Try.prog (.func (.func 56) #[] #[]) #[(.agg #[(.int .i64 g_Wide), (.int .i64 g_High), (.slice g_Cells_A g_Cells_n g_Cells_c), (.slice g_Heights_A g_Heights_n g_Heights_c)]), (.slice l_A l_n l_c), (.slice begun_A begun_n begun_c), (.int .i64 (-1))] σ (fun v8 σ9 => 
    ∃ A10 : Option Addr, ∃ l10 : Nat, ∃ c10 : Nat, (v8 = (.slice A10 l10 c10) ∧ (Hp.Sub σ σ9 ∧ adp 4 [.bool] A10 l10 c10 σ9 (fun (xs11 : List Bool) σ12 => 
    exl 4 [.bool] xs11 σ12 (fun A13 l13 c13 σ14 => cl Try.prog (.func (.func 61) #[] #[]) #[(.agg #[(.int .i64 g_Wide), (.int .i64 g_High), (.slice g_Cells_A g_Cells_n g_Cells_c), (.slice g_Heights_A g_Heights_n g_Heights_c)]), (.agg #[(.int .i64 n3), (.int .i64 n4), (.int .i64 n5), (.int .i64 n6), (.int .i64 n7)]), (.slice A13 l13 c13)] σ14 (fun v15 σ16 => 
    ∃ A17 : Option Addr, ∃ l17 : Nat, ∃ c17 : Nat, (v15 = (.slice A17 l17 c17) ∧ cut (α := Hp → Prop) (fun  σ19 => 
    ∀ _ : Nat → Value, rt σ19 R (.tuple #[(.slice none 0 0), (.bool false)])) (fun J20 => ∃ I23 : Nat → Int → Hp → Prop, (∃ n240, I23 n240 0 σ16) ∧ 
    ∀ n24 : Nat, ∀ n25 : Int, ∀ σ22 : Hp, I23 n24 n25 σ22 → ∀ _ : Nat → Value, bc (decide (n25 < ((l17 : Nat) : Int))) (cut (α := Option Addr → Nat → Nat → Bool → Hp → Prop) (fun A29 l29 c29 t30 σ27 => 
    ∀ _ : Nat → Value, bc t30 (rt σ27 R (.tuple #[(.slice A29 l29 c29), (.bool true)])) (wk .i64 (n25 + 1) (fun n31 => 
    bk σ27 n24 (fun m32 σ33 => I23 m32 n31 σ33)))) (fun J28 => ix A17 l17 n25 2 (fun b34 a35 => (((adp 50 [.int .i64, .bool] none 0 0 σ22 (fun (xs36 : List (Int × Bool)) σ37 => 
    ∃ ys38 : List (Int × Bool), RdS [.int .i64, .bool] σ37 begun_A begun_n ys38 ∧ roomy (List.length xs36 + List.length ys38) (ldI σ37 .i64 b34 a35 (fun n39 => 
    ldB σ37 b34 (a35 + 1) (fun t40 => roomy (List.length (xs36 ++ ys38) + List.length ([(n39, t40)] : List (Int × Bool))) (exl 50 [.int .i64, .bool] ((xs36 ++ ys38) ++ ([(n39, t40)] : List (Int × Bool))) σ37 (fun A41 l41 c41 σ42 => 
    cl Try.prog (.func (.func 67) #[] #[]) #[(.agg #[(.int .i64 g_Wide), (.int .i64 g_High), (.slice g_Cells_A g_Cells_n g_Cells_c), (.slice g_Heights_A g_Heights_n g_Heights_c)]), (.slice l_A l_n l_c), (.slice A41 l41 c41)] σ42 (fun v43 σ44 => 
    ∃ A45 : Option Addr, ∃ l45 : Nat, ∃ c45 : Nat, ∃ t46 : Bool, (v43 = (.tuple #[(.slice A45 l45 c45), (.bool t46)]) ∧ 
    J28 A45 l45 c45 t46 σ44))))))))) ∧ (ldI σ22 .i64 b34 a35 (fun n47 => ldB σ22 b34 (a35 + 1) (fun t48 => 
    ((adp 50 [.int .i64, .bool] none 0 0 σ22 (fun (xs49 : List (Int × Bool)) σ50 => ∃ ys51 : List (Int × Bool), RdS [.int .i64, .bool] σ50 begun_A begun_n ys51 ∧ 
    roomy (List.length xs49 + List.length ys51) (roomy (List.length (xs49 ++ ys51) + List.length ([(n47, t48)] : List (Int × Bool))) (exl 50 [.int .i64, .bool] ((xs49 ++ ys51) ++ ([(n47, t48)] : List (Int × Bool))) σ50 (fun A52 l52 c52 σ53 => 
    cl Try.prog (.func (.func 67) #[] #[]) #[(.agg #[(.int .i64 g_Wide), (.int .i64 g_High), (.slice g_Cells_A g_Cells_n g_Cells_c), (.slice g_Heights_A g_Heights_n g_Heights_c)]), (.slice l_A l_n l_c), (.slice A52 l52 c52)] σ53 (fun v54 σ55 => 
    ∃ A56 : Option Addr, ∃ l56 : Nat, ∃ c56 : Nat, ∃ t57 : Bool, (v54 = (.tuple #[(.slice A56 l56 c56), (.bool t57)]) ∧ 
    J28 A56 l56 c56 t57 σ55))))))) ∧ (adp 50 [.int .i64, .bool] none 0 0 σ22 (fun (xs58 : List (Int × Bool)) σ59 => 
    ∃ ys60 : List (Int × Bool), RdS [.int .i64, .bool] σ59 begun_A begun_n ys60 ∧ roomy (List.length xs58 + List.length ys60) (roomy (List.length (xs58 ++ ys60) + List.length ([(n47, t48)] : List (Int × Bool))) (exl 50 [.int .i64, .bool] ((xs58 ++ ys60) ++ ([(n47, t48)] : List (Int × Bool))) σ59 (fun A61 l61 c61 σ62 => 
    cl Try.prog (.func (.func 67) #[] #[]) #[(.agg #[(.int .i64 g_Wide), (.int .i64 g_High), (.slice g_Cells_A g_Cells_n g_Cells_c), (.slice g_Heights_A g_Heights_n g_Heights_c)]), (.slice l_A l_n l_c), (.slice A61 l61 c61)] σ62 (fun v63 σ64 => 
    ∃ A65 : Option Addr, ∃ l65 : Nat, ∃ c65 : Nat, ∃ t66 : Bool, (v63 = (.tuple #[(.slice A65 l65 c65), (.bool t66)]) ∧ 
    J28 A65 l65 c65 t66 σ64)))))))))))) ∧ (adp 50 [.int .i64, .bool] none 0 0 σ22 (fun (xs67 : List (Int × Bool)) σ68 => 
    ∃ ys69 : List (Int × Bool), RdS [.int .i64, .bool] σ68 begun_A begun_n ys69 ∧ roomy (List.length xs67 + List.length ys69) (ldI σ68 .i64 b34 a35 (fun n70 => 
    ldB σ68 b34 (a35 + 1) (fun t71 => ((roomy (List.length (xs67 ++ ys69) + List.length ([(n70, t71)] : List (Int × Bool))) (exl 50 [.int .i64, .bool] ((xs67 ++ ys69) ++ ([(n70, t71)] : List (Int × Bool))) σ68 (fun A72 l72 c72 σ73 => 
    cl Try.prog (.func (.func 67) #[] #[]) #[(.agg #[(.int .i64 g_Wide), (.int .i64 g_High), (.slice g_Cells_A g_Cells_n g_Cells_c), (.slice g_Heights_A g_Heights_n g_Heights_c)]), (.slice l_A l_n l_c), (.slice A72 l72 c72)] σ73 (fun v74 σ75 => 
    ∃ A76 : Option Addr, ∃ l76 : Nat, ∃ c76 : Nat, ∃ t77 : Bool, (v74 = (.tuple #[(.slice A76 l76 c76), (.bool t77)]) ∧ 
    J28 A76 l76 c76 t77 σ75))))) ∧ ((roomy (List.length (xs67 ++ ys69) + List.length ([(n70, t71)] : List (Int × Bool))) (exl 50 [.int .i64, .bool] ((xs67 ++ ys69) ++ ([(n70, t71)] : List (Int × Bool))) σ68 (fun A78 l78 c78 σ79 => 
    cl Try.prog (.func (.func 67) #[] #[]) #[(.agg #[(.int .i64 g_Wide), (.int .i64 g_High), (.slice g_Cells_A g_Cells_n g_Cells_c), (.slice g_Heights_A g_Heights_n g_Heights_c)]), (.slice l_A l_n l_c), (.slice A78 l78 c78)] σ79 (fun v80 σ81 => 
    ∃ A82 : Option Addr, ∃ l82 : Nat, ∃ c82 : Nat, ∃ t83 : Bool, (v80 = (.tuple #[(.slice A82 l82 c82), (.bool t83)]) ∧ 
    J28 A82 l82 c82 t83 σ81))))) ∧ (roomy (List.length (xs67 ++ ys69) + List.length ([(n70, t71)] : List (Int × Bool))) (exl 50 [.int .i64, .bool] ((xs67 ++ ys69) ++ ([(n70, t71)] : List (Int × Bool))) σ68 (fun A84 l84 c84 σ85 => 
    cl Try.prog (.func (.func 67) #[] #[]) #[(.agg #[(.int .i64 g_Wide), (.int .i64 g_High), (.slice g_Cells_A g_Cells_n g_Cells_c), (.slice g_Heights_A g_Heights_n g_Heights_c)]), (.slice l_A l_n l_c), (.slice A84 l84 c84)] σ85 (fun v86 σ87 => 
    ∃ A88 : Option Addr, ∃ l88 : Nat, ∃ c88 : Nat, ∃ t89 : Bool, (v86 = (.tuple #[(.slice A88 l88 c88), (.bool t89)]) ∧ 
    J28 A88 l88 c88 t89 σ87)))))))))))) ∧ (ldI σ22 .i64 b34 a35 (fun n90 => ldB σ22 b34 (a35 + 1) (fun t91 => 
    (((adp 50 [.int .i64, .bool] none 0 0 σ22 (fun (xs92 : List (Int × Bool)) σ93 => ∃ ys94 : List (Int × Bool), RdS [.int .i64, .bool] σ93 begun_A begun_n ys94 ∧ 
    roomy (List.length xs92 + List.length ys94) (roomy (List.length (xs92 ++ ys94) + List.length ([(n90, t91)] : List (Int × Bool))) (exl 50 [.int .i64, .bool] ((xs92 ++ ys94) ++ ([(n90, t91)] : List (Int × Bool))) σ93 (fun A95 l95 c95 σ96 => 
    cl Try.prog (.func (.func 67) #[] #[]) #[(.agg #[(.int .i64 g_Wide), (.int .i64 g_High), (.slice g_Cells_A g_Cells_n g_Cells_c), (.slice g_Heights_A g_Heights_n g_Heights_c)]), (.slice l_A l_n l_c), (.slice A95 l95 c95)] σ96 (fun v97 σ98 => 
    ∃ A99 : Option Addr, ∃ l99 : Nat, ∃ c99 : Nat, ∃ t100 : Bool, (v97 = (.tuple #[(.slice A99 l99 c99), (.bool t100)]) ∧ 
    J28 A99 l99 c99 t100 σ98))))))) ∧ (adp 50 [.int .i64, .bool] none 0 0 σ22 (fun (xs101 : List (Int × Bool)) σ102 => 
    ∃ ys103 : List (Int × Bool), RdS [.int .i64, .bool] σ102 begun_A begun_n ys103 ∧ roomy (List.length xs101 + List.length ys103) (roomy (List.length (xs101 ++ ys103) + List.length ([(n90, t91)] : List (Int × Bool))) (exl 50 [.int .i64, .bool] ((xs101 ++ ys103) ++ ([(n90, t91)] : List (Int × Bool))) σ102 (fun A104 l104 c104 σ105 => 
    cl Try.prog (.func (.func 67) #[] #[]) #[(.agg #[(.int .i64 g_Wide), (.int .i64 g_High), (.slice g_Cells_A g_Cells_n g_Cells_c), (.slice g_Heights_A g_Heights_n g_Heights_c)]), (.slice l_A l_n l_c), (.slice A104 l104 c104)] σ105 (fun v106 σ107 => 
    ∃ A108 : Option Addr, ∃ l108 : Nat, ∃ c108 : Nat, ∃ t109 : Bool, (v106 = (.tuple #[(.slice A108 l108 c108), (.bool t109)]) ∧ 
    J28 A108 l108 c108 t109 σ107)))))))) ∧ (adp 50 [.int .i64, .bool] none 0 0 σ22 (fun (xs110 : List (Int × Bool)) σ111 => 
    ∃ ys112 : List (Int × Bool), RdS [.int .i64, .bool] σ111 begun_A begun_n ys112 ∧ roomy (List.length xs110 + List.length ys112) (((roomy (List.length (xs110 ++ ys112) + List.length ([(n90, t91)] : List (Int × Bool))) (exl 50 [.int .i64, .bool] ((xs110 ++ ys112) ++ ([(n90, t91)] : List (Int × Bool))) σ111 (fun A113 l113 c113 σ114 => 
    cl Try.prog (.func (.func 67) #[] #[]) #[(.agg #[(.int .i64 g_Wide), (.int .i64 g_High), (.slice g_Cells_A g_Cells_n g_Cells_c), (.slice g_Heights_A g_Heights_n g_Heights_c)]), (.slice l_A l_n l_c), (.slice A113 l113 c113)] σ114 (fun v115 σ116 => 
    ∃ A117 : Option Addr, ∃ l117 : Nat, ∃ c117 : Nat, ∃ t118 : Bool, (v115 = (.tuple #[(.slice A117 l117 c117), (.bool t118)]) ∧ 
    J28 A117 l117 c117 t118 σ116))))) ∧ ((roomy (List.length (xs110 ++ ys112) + List.length ([(n90, t91)] : List (Int × Bool))) (exl 50 [.int .i64, .bool] ((xs110 ++ ys112) ++ ([(n90, t91)] : List (Int × Bool))) σ111 (fun A119 l119 c119 σ120 => 
    cl Try.prog (.func (.func 67) #[] #[]) #[(.agg #[(.int .i64 g_Wide), (.int .i64 g_High), (.slice g_Cells_A g_Cells_n g_Cells_c), (.slice g_Heights_A g_Heights_n g_Heights_c)]), (.slice l_A l_n l_c), (.slice A119 l119 c119)] σ120 (fun v121 σ122 => 
    ∃ A123 : Option Addr, ∃ l123 : Nat, ∃ c123 : Nat, ∃ t124 : Bool, (v121 = (.tuple #[(.slice A123 l123 c123), (.bool t124)]) ∧ 
    J28 A123 l123 c123 t124 σ122))))) ∧ (roomy (List.length (xs110 ++ ys112) + List.length ([(n90, t91)] : List (Int × Bool))) (exl 50 [.int .i64, .bool] ((xs110 ++ ys112) ++ ([(n90, t91)] : List (Int × Bool))) σ111 (fun A125 l125 c125 σ126 => 
    cl Try.prog (.func (.func 67) #[] #[]) #[(.agg #[(.int .i64 g_Wide), (.int .i64 g_High), (.slice g_Cells_A g_Cells_n g_Cells_c), (.slice g_Heights_A g_Heights_n g_Heights_c)]), (.slice l_A l_n l_c), (.slice A125 l125 c125)] σ126 (fun v127 σ128 => 
    ∃ A129 : Option Addr, ∃ l129 : Nat, ∃ c129 : Nat, ∃ t130 : Bool, (v127 = (.tuple #[(.slice A129 l129 c129), (.bool t130)]) ∧ 
    J28 A129 l129 c129 t130 σ128)))))))))) ∧ ((adp 50 [.int .i64, .bool] none 0 0 σ22 (fun (xs131 : List (Int × Bool)) σ132 => 
    ∃ ys133 : List (Int × Bool), RdS [.int .i64, .bool] σ132 begun_A begun_n ys133 ∧ roomy (List.length xs131 + List.length ys133) (roomy (List.length (xs131 ++ ys133) + List.length ([(n90, t91)] : List (Int × Bool))) (exl 50 [.int .i64, .bool] ((xs131 ++ ys133) ++ ([(n90, t91)] : List (Int × Bool))) σ132 (fun A134 l134 c134 σ135 => 
    cl Try.prog (.func (.func 67) #[] #[]) #[(.agg #[(.int .i64 g_Wide), (.int .i64 g_High), (.slice g_Cells_A g_Cells_n g_Cells_c), (.slice g_Heights_A g_Heights_n g_Heights_c)]), (.slice l_A l_n l_c), (.slice A134 l134 c134)] σ135 (fun v136 σ137 => 
    ∃ A138 : Option Addr, ∃ l138 : Nat, ∃ c138 : Nat, ∃ t139 : Bool, (v136 = (.tuple #[(.slice A138 l138 c138), (.bool t139)]) ∧ 
    J28 A138 l138 c138 t139 σ137))))))) ∧ (adp 50 [.int .i64, .bool] none 0 0 σ22 (fun (xs140 : List (Int × Bool)) σ141 => 
    ∃ ys142 : List (Int × Bool), RdS [.int .i64, .bool] σ141 begun_A begun_n ys142 ∧ roomy (List.length xs140 + List.length ys142) (((roomy (List.length (xs140 ++ ys142) + List.length ([(n90, t91)] : List (Int × Bool))) (exl 50 [.int .i64, .bool] ((xs140 ++ ys142) ++ ([(n90, t91)] : List (Int × Bool))) σ141 (fun A143 l143 c143 σ144 => 
    cl Try.prog (.func (.func 67) #[] #[]) #[(.agg #[(.int .i64 g_Wide), (.int .i64 g_High), (.slice g_Cells_A g_Cells_n g_Cells_c), (.slice g_Heights_A g_Heights_n g_Heights_c)]), (.slice l_A l_n l_c), (.slice A143 l143 c143)] σ144 (fun v145 σ146 => 
    ∃ A147 : Option Addr, ∃ l147 : Nat, ∃ c147 : Nat, ∃ t148 : Bool, (v145 = (.tuple #[(.slice A147 l147 c147), (.bool t148)]) ∧ 
    J28 A147 l147 c147 t148 σ146))))) ∧ (roomy (List.length (xs140 ++ ys142) + List.length ([(n90, t91)] : List (Int × Bool))) (exl 50 [.int .i64, .bool] ((xs140 ++ ys142) ++ ([(n90, t91)] : List (Int × Bool))) σ141 (fun A149 l149 c149 σ150 => 
    cl Try.prog (.func (.func 67) #[] #[]) #[(.agg #[(.int .i64 g_Wide), (.int .i64 g_High), (.slice g_Cells_A g_Cells_n g_Cells_c), (.slice g_Heights_A g_Heights_n g_Heights_c)]), (.slice l_A l_n l_c), (.slice A149 l149 c149)] σ150 (fun v151 σ152 => 
    ∃ A153 : Option Addr, ∃ l153 : Nat, ∃ c153 : Nat, ∃ t154 : Bool, (v151 = (.tuple #[(.slice A153 l153 c153), (.bool t154)]) ∧ 
    J28 A153 l153 c153 t154 σ152)))))))))))))))))) (J20 σ22))))))))))))))))
def M_ref04_lay_an : MAn := (.seq (.txt []) (.seq (.seq (.txt []) (.cond (.seq (.txt []) .leaf) .leaf)) (.seq (.plan [10] (.take 0 ⟨[], false, []⟩ (.take 1 ⟨[], false, []⟩ (.take 2 ⟨[], false, []⟩ (.take 3 ⟨[], false, []⟩ (.take 4 ⟨[], false, []⟩ (.take 5 ⟨[], false, []⟩ (.take 6 ⟨[], false, []⟩ (.take 7 ⟨[], false, []⟩ (.take 8 ⟨[], false, []⟩ (.alt 9 true ⟨[], false, [.adl 27 4 [.bool]]⟩ (.alt 10 false ⟨[], false, []⟩ (.take 11 ⟨[], false, []⟩ .done) .done) .done))))))))))) (.cut ⟨[true, false], 2, [], []⟩ (.seq (.txt []) (.block (.loop ⟨[true, false], 2, [.slot 3 (.hb 0 0), .slot 9 (.sc (.int .i64))], [(1, true), (2, true), (8, true)]⟩ (.seq (.seq (.txt []) (.cond .leaf .leaf)) (.seq (.block (.cut ⟨[true, false], 2, [.slot 3 (.hb 0 0), .slot 10 (.sc (.slc)), .slot 11 (.sc (.bool))], [(1, true), (2, true), (8, true), (9, true)]⟩ (.plan [3, 9, 10] (.take 1 ⟨[], false, []⟩ (.take 2 ⟨[], false, []⟩ (.take 4 ⟨[], false, []⟩ (.take 5 ⟨[], false, []⟩ (.take 6 ⟨[], false, []⟩ (.alt 0 true ⟨[], false, []⟩ (.alt 3 false ⟨[], false, []⟩ (.take 7 ⟨[], false, []⟩ (.alt 8 true ⟨[], false, []⟩ (.alt 9 false ⟨[], false, []⟩ (.alt 10 false ⟨[], false, []⟩ (.take 11 ⟨[], false, []⟩ (.take 12 ⟨[], false, []⟩ (.take 13 ⟨[], false, []⟩ (.take 14 ⟨[], false, []⟩ (.take 15 ⟨[], false, []⟩ .done))))) .done) .done) .done)) (.alt 7 true ⟨[], false, []⟩ (.alt 3 false ⟨[], false, []⟩ (.alt 8 true ⟨[], false, []⟩ (.alt 9 false ⟨[], false, []⟩ (.alt 10 false ⟨[], false, []⟩ (.take 11 ⟨[], false, []⟩ (.take 12 ⟨[], false, []⟩ (.take 13 ⟨[], false, []⟩ (.take 14 ⟨[], false, []⟩ (.take 15 ⟨[], false, []⟩ .done))))) .done) .done) .done) (.alt 8 true ⟨[], false, []⟩ (.alt 3 false ⟨[], false, []⟩ (.alt 9 false ⟨[], false, []⟩ (.alt 10 false ⟨[], false, []⟩ (.take 11 ⟨[], false, []⟩ (.take 12 ⟨[], false, []⟩ (.take 13 ⟨[], false, []⟩ (.take 14 ⟨[], false, []⟩ (.take 15 ⟨[], false, []⟩ .done))))) .done) .done) .done) .done)) .done)) (.alt 3 false ⟨[], false, []⟩ (.take 7 ⟨[], false, []⟩ (.alt 0 true ⟨[], false, []⟩ (.alt 8 true ⟨[], false, []⟩ (.alt 9 false ⟨[], false, []⟩ (.alt 10 false ⟨[], false, []⟩ (.take 11 ⟨[], false, []⟩ (.take 12 ⟨[], false, []⟩ (.take 13 ⟨[], false, []⟩ (.take 14 ⟨[], false, []⟩ (.take 15 ⟨[], false, []⟩ .done))))) .done) .done) .done) (.alt 8 true ⟨[], false, []⟩ (.alt 0 true ⟨[], false, []⟩ (.alt 9 false ⟨[], false, []⟩ (.alt 10 false ⟨[], false, []⟩ (.take 11 ⟨[], false, []⟩ (.take 12 ⟨[], false, []⟩ (.take 13 ⟨[], false, []⟩ (.take 14 ⟨[], false, []⟩ (.take 15 ⟨[], false, []⟩ .done))))) .done) .done) (.alt 9 false ⟨[], false, []⟩ (.take 0 ⟨[], false, []⟩ (.alt 10 false ⟨[], false, []⟩ (.take 11 ⟨[], false, []⟩ (.take 12 ⟨[], false, []⟩ (.take 13 ⟨[], false, []⟩ (.take 14 ⟨[], false, []⟩ (.take 15 ⟨[], false, []⟩ .done))))) .done)) .done)) .done))) (.alt 7 true ⟨[], false, []⟩ (.alt 0 true ⟨[], false, []⟩ (.alt 3 false ⟨[], false, []⟩ (.alt 8 true ⟨[], false, []⟩ (.alt 9 false ⟨[], false, []⟩ (.alt 10 false ⟨[], false, []⟩ (.take 11 ⟨[], false, []⟩ (.take 12 ⟨[], false, []⟩ (.take 13 ⟨[], false, []⟩ (.take 14 ⟨[], false, []⟩ (.take 15 ⟨[], false, []⟩ .done))))) .done) .done) .done) (.alt 8 true ⟨[], false, []⟩ (.alt 3 false ⟨[], false, []⟩ (.alt 9 false ⟨[], false, []⟩ (.alt 10 false ⟨[], false, []⟩ (.take 11 ⟨[], false, []⟩ (.take 12 ⟨[], false, []⟩ (.take 13 ⟨[], false, []⟩ (.take 14 ⟨[], false, []⟩ (.take 15 ⟨[], false, []⟩ .done))))) .done) .done) .done) .done)) (.alt 3 false ⟨[], false, []⟩ (.alt 0 true ⟨[], false, []⟩ (.alt 8 true ⟨[], false, []⟩ (.alt 9 false ⟨[], false, []⟩ (.alt 10 false ⟨[], false, []⟩ (.take 11 ⟨[], false, []⟩ (.take 12 ⟨[], false, []⟩ (.take 13 ⟨[], false, []⟩ (.take 14 ⟨[], false, []⟩ (.take 15 ⟨[], false, []⟩ .done))))) .done) .done) .done) (.alt 8 true ⟨[], false, []⟩ (.alt 0 true ⟨[], false, []⟩ (.alt 9 false ⟨[], false, []⟩ (.alt 10 false ⟨[], false, []⟩ (.take 11 ⟨[], false, []⟩ (.take 12 ⟨[], false, []⟩ (.take 13 ⟨[], false, []⟩ (.take 14 ⟨[], false, []⟩ (.take 15 ⟨[], false, []⟩ .done))))) .done) .done) (.alt 9 false ⟨[], false, []⟩ (.take 0 ⟨[], false, []⟩ (.alt 10 false ⟨[], false, []⟩ (.take 11 ⟨[], false, []⟩ (.take 12 ⟨[], false, []⟩ (.take 13 ⟨[], false, []⟩ (.take 14 ⟨[], false, []⟩ (.take 15 ⟨[], false, []⟩ .done))))) .done)) .done)) .done)) (.alt 8 true ⟨[], false, []⟩ (.alt 0 true ⟨[], false, []⟩ (.alt 3 false ⟨[], false, []⟩ (.alt 9 false ⟨[], false, []⟩ (.alt 10 false ⟨[], false, []⟩ (.take 11 ⟨[], false, []⟩ (.take 12 ⟨[], false, []⟩ (.take 13 ⟨[], false, []⟩ (.take 14 ⟨[], false, []⟩ (.take 15 ⟨[], false, []⟩ .done))))) .done) .done) .done) (.alt 3 false ⟨[], false, []⟩ (.alt 0 true ⟨[], false, []⟩ (.alt 9 false ⟨[], false, []⟩ (.alt 10 false ⟨[], false, []⟩ (.take 11 ⟨[], false, []⟩ (.take 12 ⟨[], false, []⟩ (.take 13 ⟨[], false, []⟩ (.take 14 ⟨[], false, []⟩ (.take 15 ⟨[], false, []⟩ .done))))) .done) .done) (.alt 9 false ⟨[], false, []⟩ (.take 0 ⟨[], false, []⟩ (.alt 10 false ⟨[], false, []⟩ (.take 11 ⟨[], false, []⟩ (.take 12 ⟨[], false, []⟩ (.take 13 ⟨[], false, []⟩ (.take 14 ⟨[], false, []⟩ (.take 15 ⟨[], false, []⟩ .done))))) .done)) .done)) .done)) .done))) .done))))))))) (.seq (.txt []) (.cond (.seq (.txt []) .leaf) .leaf)))) (.txt [])))))) (.seq (.txt []) .leaf)))))
set_option maxRecDepth 100000 in
theorem M_ref04_lay_ok (σ : Hp) (g_Wide : Int) (g_High : Int) (g_Cells_A : Option Addr) (g_Cells_n : Nat) (g_Cells_c : Nat) (g_Heights_A : Option Addr) (g_Heights_n : Nat) (g_Heights_c : Nat) (l_A : Option Addr) (l_n : Nat) (l_c : Nat) (begun_A : Option Addr) (begun_n : Nat) (begun_c : Nat) (R : Value → Hp → Prop) (h : M_ref04_lay σ g_Wide g_High g_Cells_A g_Cells_n g_Cells_c g_Heights_A g_Heights_n g_Heights_c l_A l_n l_c begun_A begun_n begun_c R) : FCalls Try.prog 67 #[(.agg #[(.int .i64 g_Wide), (.int .i64 g_High), (.slice g_Cells_A g_Cells_n g_Cells_c), (.slice g_Heights_A g_Heights_n g_Heights_c)]), (.slice l_A l_n l_c), (.slice begun_A begun_n begun_c)] σ R :=
  fcalls_of_M mixed_M3 M_ref04_lay_an Try.func67 rfl (by kernel_rfl) (by kernel_rfl) (M := M_ref04_lay σ g_Wide g_High g_Cells_A g_Cells_n g_Cells_c g_Heights_A g_Heights_n g_Heights_c l_A l_n l_c begun_A begun_n begun_c R) (by kernel_rfl) h
theorem M_ref04_lay_enter : enterB Try.prog 67 = true := by kernel_rfl

abbrev N_ground_field_some : FuncId := 68
/-- (*waltzer/ground.field).some -/
def M_ground_field_some (σ : Hp) (f : Option Addr) (is : Value) (R : Value → Hp → Prop) : Prop :=
  cut (α := Option Addr → Nat → Nat → Hp → Prop) (fun A4 l4 c4 σ2 => ∀ _ : Nat → Value, rt σ2 R (.slice A4 l4 c4)) (fun J3 => 
    dr f (fun b5 o6 => ldS σ b5 (o6 + 2) (fun _ l7 _ => ∃ I10 : Nat → Option Addr → Nat → Nat → Int → Hp → Prop, (∃ n110, I10 n110 none 0 0 0 σ) ∧ 
    ∀ n11 : Nat, ∀ A12 : Option Addr, ∀ l12 : Nat, ∀ c12 : Nat, ∀ n13 : Int, ∀ σ9 : Hp, I10 n11 A12 l12 c12 n13 σ9 → ∀ _ : Nat → Value, bc (decide (n13 < ((l7 : Nat) : Int))) (cut (α := Option Addr → Nat → Nat → Hp → Prop) (fun A17 l17 c17 σ15 => 
    ∀ _ : Nat → Value, wk .i64 (n13 + 1) (fun n18 => bk σ15 n11 (fun m19 σ20 => I10 m19 A17 l17 c17 n18 σ20))) (fun J16 => 
    cl Try.prog is #[(.int .i64 n13)] σ9 (fun v21 σ22 => ∃ t23 : Bool, (v21 = (.bool t23) ∧ bc t23 (adp 3 [.int .i64] A12 l12 c12 σ22 (fun (xs24 : List Int) σ25 => 
    roomy (List.length xs24 + List.length ([n13] : List Int)) (exl 3 [.int .i64] (xs24 ++ ([n13] : List Int)) σ25 (fun A26 l26 c26 σ27 => 
    J16 A26 l26 c26 σ27)))) (J16 A12 l12 c12 σ22))))) (J3 A12 l12 c12 σ9))))
def M_ground_field_some_an : MAn := (.seq (.txt []) (.cut ⟨[], 0, [.slot 4 (.sc (.slc))], []⟩ (.seq (.txt []) (.block (.loop ⟨[], 0, [.slot 4 (.sc (.slc)), .slot 12 (.sc (.int .i64))], [(1, false), (11, true)]⟩ (.seq (.txt []) (.seq (.cond .leaf .leaf) (.cut ⟨[], 0, [.slot 4 (.sc (.slc))], [(1, false), (11, true), (12, true)]⟩ (.block (.seq (.txt []) (.seq (.txt []) (.cond (.txt []) .leaf)))) (.txt []))))))) (.seq (.txt []) .leaf)))
set_option maxRecDepth 100000 in
theorem M_ground_field_some_ok (σ : Hp) (f : Option Addr) (is : Value) (R : Value → Hp → Prop) (h : M_ground_field_some σ f is R) : FCalls Try.prog 68 #[(.pointer f), is] σ R :=
  fcalls_of_M mixed_M3 M_ground_field_some_an Try.func68 rfl (by kernel_rfl) (by kernel_rfl) (M := M_ground_field_some σ f is R) (by kernel_rfl) h
theorem M_ground_field_some_enter : enterB Try.prog 68 = true := by kernel_rfl

abbrev N_ref04_numbers : FuncId := 69
/-- waltzer/waltzerref04.numbers -/
def M_ref04_numbers (σ : Hp) (l_A : Option Addr) (l_n : Nat) (_ : Nat) (R : Value → Hp → Prop) : Prop :=
  cut (α := Option Addr → Nat → Nat → Hp → Prop) (fun A4 l4 c4 σ2 => ∀ _ : Nat → Value, rt σ2 R (.slice A4 l4 c4)) (fun J3 => 
    ∃ I7 : Nat → Option Addr → Nat → Nat → Int → Hp → Prop, (∃ n80, I7 n80 none 0 0 0 σ) ∧ ∀ n8 : Nat, ∀ A9 : Option Addr, ∀ l9 : Nat, ∀ c9 : Nat, ∀ n10 : Int, ∀ σ6 : Hp, I7 n8 A9 l9 c9 n10 σ6 → ∀ _ : Nat → Value, bc (decide (n10 < ((l_n : Nat) : Int))) (cut (α := Option Addr → Nat → Nat → Hp → Prop) (fun A14 l14 c14 σ12 => 
    ∀ _ : Nat → Value, wk .i64 (n10 + 1) (fun n15 => bk σ12 n8 (fun m16 σ17 => I7 m16 A14 l14 c14 n15 σ17))) (fun J13 => 
    ix l_A l_n n10 1 (fun b18 a19 => ldB σ6 b18 a19 (fun t20 => bc t20 (adp 3 [.int .i64] A9 l9 c9 σ6 (fun (xs21 : List Int) σ22 => 
    roomy (List.length xs21 + List.length ([n10] : List Int)) (exl 3 [.int .i64] (xs21 ++ ([n10] : List Int)) σ22 (fun A23 l23 c23 σ24 => 
    J13 A23 l23 c23 σ24)))) (J13 A9 l9 c9 σ6))))) (J3 A9 l9 c9 σ6))
def M_ref04_numbers_an : MAn := (.seq (.txt []) (.seq (.txt []) (.cut ⟨[], 0, [.slot 3 (.sc (.slc))], []⟩ (.seq (.txt []) (.block (.loop ⟨[], 0, [.slot 3 (.sc (.slc)), .slot 4 (.sc (.int .i64))], [(0, true)]⟩ (.seq (.seq (.txt []) (.cond .leaf .leaf)) (.cut ⟨[], 0, [.slot 3 (.sc (.slc))], [(0, true), (4, true)]⟩ (.block (.seq (.txt []) (.cond (.txt []) .leaf))) (.txt [])))))) (.seq (.txt []) .leaf))))
set_option maxRecDepth 100000 in
theorem M_ref04_numbers_ok (σ : Hp) (l_A : Option Addr) (l_n : Nat) (l_c : Nat) (R : Value → Hp → Prop) (h : M_ref04_numbers σ l_A l_n l_c R) : FCalls Try.prog 69 #[(.slice l_A l_n l_c)] σ R :=
  fcalls_of_M mixed_M3 M_ref04_numbers_an Try.func69 rfl (by kernel_rfl) (by kernel_rfl) (M := M_ref04_numbers σ l_A l_n l_c R) (by kernel_rfl) h
theorem M_ref04_numbers_enter : enterB Try.prog 69 = true := by kernel_rfl

abbrev N_ground_field_far : FuncId := 70
/-- (*waltzer/ground.field).far -/
def M_ground_field_far (σ : Hp) (a0 : Option Addr) (a1 : Int) (R : Value → Hp → Prop) : Prop :=
  dr a0 (fun b1 o2 => ldS σ b1 (o2 + 2) (fun _ l3 _ => exl 3 [.int .i64] ([(-1)] : List Int) σ (fun A4 l4 c4 σ5 => 
    cl Try.prog (.func (.func 47) #[] #[]) #[(.slice A4 l4 c4), (.int .i64 ((l3 : Nat) : Int))] σ5 (fun v6 σ7 => 
    ∃ A8 : Option Addr, ∃ l8 : Nat, ∃ c8 : Nat, (v6 = (.slice A8 l8 c8) ∧ adp 3 [.int .i64] A8 l8 c8 σ7 (fun (xs9 : List Int) σ10 => 
    cut (α := Option Addr → Nat → Nat → List Int → Hp → Prop) (fun A14 l14 c14 xs15 σ12 => ∀ _ : Nat → Value, 
    cut (α := List Int → Hp → Prop) (fun xs19 σ17 => ∀ _ : Nat → Value, exl 3 [.int .i64] xs19 σ17 (fun A20 l20 c20 σ21 => 
    rt σ21 R (.slice A20 l20 c20))) (fun J18 => ∃ I24 : Nat → Option Addr → Nat → Nat → List Int → Hp → Prop, (∃ n250, I24 n250 A14 l14 c14 xs15 σ12) ∧ 
    ∀ n25 : Nat, ∀ A26 : Option Addr, ∀ l26 : Nat, ∀ c26 : Nat, ∀ xs27 : List Int, ∀ σ23 : Hp, I24 n25 A26 l26 c26 xs27 σ23 → ∀ _ : Nat → Value, bc (decide ((0 : Int) < ((l26 : Nat) : Int))) (cut (α := Option Addr → Nat → Nat → List Int → Hp → Prop) (fun A31 l31 c31 xs32 σ29 => 
    ∀ _ : Nat → Value, (0 ≤ (1 : Int) ∧ 1 ≤ ((l31 : Nat) : Int) ∧ bk σ29 n25 (fun m33 σ34 => I24 m33 (if c31 = (1 : Int).toNat then (A31 : Option Addr) else (A31 : Option Addr).map (fun x => 
    x.add ((1 : Int).toNat * 1))) (l31 - (1 : Int).toNat) (c31 - (1 : Int).toNat) xs32 σ34))) (fun J30 => 
    ix A26 l26 0 1 (fun b35 a36 => ldI σ23 .i64 b35 a36 (fun n37 => cl Try.prog (.func (.func 49) #[] #[]) #[(.pointer a0), (.int .i64 n37)] σ23 (fun v38 σ39 => 
    ∃ A40 : Option Addr, ∃ l40 : Nat, ∃ c40 : Nat, (v38 = (.slice A40 l40 c40) ∧ adp 3 [.int .i64] A40 l40 c40 σ39 (fun (xs41 : List Int) σ42 => 
    ∃ I45 : Nat → Option Addr → Nat → Nat → Int → List Int → Hp → Prop, (∃ n460, I45 n460 A26 l26 c26 0 xs27 σ42) ∧ 
    ∀ n46 : Nat, ∀ A47 : Option Addr, ∀ l47 : Nat, ∀ c47 : Nat, ∀ n48 : Int, ∀ xs49 : List Int, ∀ σ44 : Hp, I45 n46 A47 l47 c47 n48 xs49 σ44 → ∀ _ : Nat → Value, bc (decide (n48 < ((List.length xs41 : Nat) : Int))) (cut (α := Option Addr → Nat → Nat → List Int → Hp → Prop) (fun A53 l53 c53 xs54 σ51 => 
    ∀ _ : Nat → Value, wk .i64 (n48 + 1) (fun n55 => bk σ51 n46 (fun m56 σ57 => I45 m56 A53 l53 c53 n55 xs54 σ57))) (fun J52 => 
    (0 ≤ n48 ∧ n48 < ((List.length xs41 : Nat) : Int) ∧ lat xs41 ((n48 : Int).toNat) (fun r58 => cut (α := Bool → Hp → Prop) (fun t62 σ60 => 
    ∀ _ : Nat → Value, bc t62 (ix A47 l47 0 1 (fun b63 a64 => ldI σ60 .i64 b63 a64 (fun n65 => (0 ≤ n65 ∧ 
    n65 < ((List.length xs49 : Nat) : Int) ∧ lat xs49 ((n65 : Int).toNat) (fun r66 => wk .i64 (r66 + 1) (fun n67 => 
    (0 ≤ r58 ∧ r58 < ((List.length xs49 : Nat) : Int) ∧ lat xs49 ((r58 : Int).toNat) (fun _ => adp 3 [.int .i64] A47 l47 c47 σ60 (fun (xs69 : List Int) σ70 => 
    roomy (List.length xs69 + List.length ([r58] : List Int)) (exl 3 [.int .i64] (xs69 ++ ([r58] : List Int)) σ70 (fun A71 l71 c71 σ72 => 
    J52 A71 l71 c71 (List.set xs49 ((r58 : Int).toNat) n67) σ72))))))))))) (J52 A47 l47 c47 xs49 σ60)) (fun J61 => 
    cl Try.prog (.func (.func 46) #[] #[]) #[(.pointer a0), (.int .i64 r58)] σ44 (fun v73 σ74 => ∃ t75 : Bool, (v73 = (.bool t75) ∧ 
    bc t75 (bc (!decide (r58 = a1)) ((0 ≤ r58 ∧ r58 < ((List.length xs49 : Nat) : Int) ∧ lat xs49 ((r58 : Int).toNat) (fun r76 => 
    J61 (decide (r76 < 0)) σ74))) (J61 false σ74)) (bc false ((0 ≤ r58 ∧ r58 < ((List.length xs49 : Nat) : Int) ∧ 
    lat xs49 ((r58 : Int).toNat) (fun r77 => J61 (decide (r77 < 0)) σ74))) (J61 false σ74))))))))) (J30 A47 l47 c47 xs49 σ44)))))))) (J18 xs27 σ23))) (fun J13 => 
    dr a0 (fun b78 o79 => ldS σ10 b78 (o79 + 2) (fun A80 l80 _ => ∃ I83 : Nat → Option Addr → Nat → Nat → Int → List Int → Hp → Prop, (∃ n840, I83 n840 none 0 0 0 xs9 σ10) ∧ 
    ∀ n84 : Nat, ∀ A85 : Option Addr, ∀ l85 : Nat, ∀ c85 : Nat, ∀ n86 : Int, ∀ xs87 : List Int, ∀ σ82 : Hp, I83 n84 A85 l85 c85 n86 xs87 σ82 → ∀ _ : Nat → Value, bc (decide (n86 < ((l80 : Nat) : Int))) (cut (α := Option Addr → Nat → Nat → List Int → Hp → Prop) (fun A91 l91 c91 xs92 σ89 => 
    ∀ _ : Nat → Value, wk .i64 (n86 + 1) (fun n93 => bk σ89 n84 (fun m94 σ95 => I83 m94 A91 l91 c91 n93 xs92 σ95))) (fun J90 => 
    ix A80 l80 n86 1 (fun b96 a97 => ldI σ82 .i64 b96 a97 (fun n98 => cut (α := Bool → Hp → Prop) (fun t102 σ100 => 
    ∀ _ : Nat → Value, bc t102 ((0 ≤ n86 ∧ n86 < ((List.length xs87 : Nat) : Int) ∧ lat xs87 ((n86 : Int).toNat) (fun _ => 
    adp 3 [.int .i64] A85 l85 c85 σ100 (fun (xs104 : List Int) σ105 => roomy (List.length xs104 + List.length ([n86] : List Int)) (exl 3 [.int .i64] (xs104 ++ ([n86] : List Int)) σ105 (fun A106 l106 c106 σ107 => 
    J90 A106 l106 c106 (List.set xs87 ((n86 : Int).toNat) 0) σ107)))))) (J90 A85 l85 c85 xs87 σ100)) (fun J101 => 
    bc (decide (n98 = 3)) (J101 (!decide (n86 = a1)) σ82) (J101 false σ82)))))) (J13 A85 l85 c85 xs87 σ82))))))))))
def M_ground_field_far_an : MAn := (.seq (.txt []) (.seq (.txt [⟨[], false, []⟩, ⟨[], false, []⟩, ⟨[], false, []⟩, ⟨[], false, []⟩, ⟨[], false, []⟩, ⟨[], false, []⟩, ⟨[], false, []⟩, ⟨[], false, [.adl 18 3 [.int .i64]]⟩]) (.seq (.txt []) (.cut ⟨[false, false], 2, [.slot 5 (.hl 1 0), .slot 6 (.sc (.slc)), .modl 1 0 3 [.int .i64]], [(0, true), (1, true)]⟩ (.seq (.txt []) (.block (.loop ⟨[false, false], 2, [.slot 5 (.hl 1 0), .slot 6 (.sc (.slc)), .slot 25 (.sc (.int .i64)), .modl 1 0 3 [.int .i64]], [(0, true), (1, true), (23, true), (24, true)]⟩ (.seq (.txt []) (.seq (.cond .leaf .leaf) (.cut ⟨[false, false], 2, [.slot 5 (.hl 1 0), .slot 6 (.sc (.slc)), .modl 1 0 3 [.int .i64]], [(0, true), (1, true), (23, true), (24, true), (25, true)]⟩ (.block (.seq (.txt []) (.cut ⟨[false, true], 2, [.slot 5 (.hl 1 0), .slot 36 (.sc (.bool))], [(0, true), (1, true), (6, true), (7, true), (23, true), (24, true), (25, true)]⟩ (.txt [⟨[], false, []⟩, ⟨[], false, []⟩, ⟨[], true, []⟩]) (.cond (.seq (.txt []) (.txt [])) .leaf)))) (.txt []))))))) (.cut ⟨[false, false], 2, [.slot 5 (.hl 1 0), .modl 1 0 3 [.int .i64]], []⟩ (.block (.loop ⟨[false, false], 2, [.slot 5 (.hl 1 0), .slot 6 (.sc (.slc)), .modl 1 0 3 [.int .i64]], [(0, true), (1, true)]⟩ (.seq (.seq (.txt []) (.cond .leaf .leaf)) (.cut ⟨[false, false], 2, [.slot 5 (.hl 1 0), .slot 6 (.sc (.slc)), .modl 1 0 3 [.int .i64]], [(0, true), (1, true)]⟩ (.block (.seq (.txt [⟨[], false, []⟩, ⟨[], false, []⟩, ⟨[], false, []⟩, ⟨[], false, []⟩, ⟨[], false, [.adl 54 3 [.int .i64]]⟩]) (.block (.loop ⟨[false, false, true], 3, [.slot 5 (.hl 1 0), .slot 6 (.sc (.slc)), .slot 54 (.hl 2 0), .slot 56 (.sc (.int .i64)), .modl 1 0 3 [.int .i64]], [(0, true), (1, true), (55, true)]⟩ (.seq (.txt []) (.seq (.cond .leaf .leaf) (.cut ⟨[false, false, true], 3, [.slot 5 (.hl 1 0), .slot 6 (.sc (.slc)), .slot 54 (.hl 2 0), .modl 1 0 3 [.int .i64]], [(0, true), (1, true), (55, true), (56, true)]⟩ (.block (.seq (.txt []) (.cut ⟨[false, true, true], 3, [.slot 5 (.hl 1 0), .slot 54 (.hl 2 0), .slot 74 (.sc (.bool))], [(0, true), (1, true), (6, true), (10, true), (55, true), (56, true)]⟩ (.txt [⟨[], false, []⟩, ⟨[], false, []⟩, ⟨[], false, []⟩, ⟨[], true, []⟩, ⟨[], false, []⟩, ⟨[], false, []⟩, ⟨[], false, []⟩, ⟨[], false, []⟩, ⟨[], true, []⟩]) (.cond (.seq (.txt []) (.txt [])) .leaf)))) (.txt [])))))))) (.txt []))))) (.seq (.txt []) .leaf))))))
set_option maxRecDepth 100000 in
theorem M_ground_field_far_ok (σ : Hp) (a0 : Option Addr) (a1 : Int) (R : Value → Hp → Prop) (h : M_ground_field_far σ a0 a1 R) : FCalls Try.prog 70 #[(.pointer a0), (.int .i64 a1)] σ R :=
  fcalls_of_M mixed_M3 M_ground_field_far_an Try.func70 rfl (by kernel_rfl) (by kernel_rfl) (M := M_ground_field_far σ a0 a1 R) (by kernel_rfl) h
theorem M_ground_field_far_enter : enterB Try.prog 70 = true := by kernel_rfl

abbrev N_ref04_far : FuncId := 71
/-- waltzer/waltzerref04.far -/
def M_ref04_far (σ : Hp) (a0_Wide : Int) (a0_High : Int) (a0_Cells_A : Option Addr) (a0_Cells_n : Nat) (a0_Cells_c : Nat) (a0_Heights_A : Option Addr) (a0_Heights_n : Nat) (a0_Heights_c : Nat) (a1_A : Option Addr) (a1_n : Nat) (_ : Nat) (R : Value → Hp → Prop) : Prop :=
  (0 ≤ ((a1_n : Nat) : Int) ∧ ((a1_n : Nat) : Int) ≤ ((a1_n : Nat) : Int) ∧ ((a1_n : Nat) : Int) ≤ (1000000000 : Int) ∧ 
    cut (α := List Int → Hp → Prop) (fun xs4 σ2 => ∀ _ : Nat → Value, cut (α := List Int → Hp → Prop) (fun xs8 σ6 => 
    ∀ _ : Nat → Value, exl 3 [.int .i64] xs8 σ6 (fun A9 l9 c9 σ10 => rt σ10 R (.slice A9 l9 c9))) (fun J7 => 
    ∃ I13 : Nat → Int → List Int → Hp → Prop, (∃ n140, I13 n140 0 xs4 σ2) ∧ ∀ n14 : Nat, ∀ n15 : Int, ∀ xs16 : List Int, ∀ σ12 : Hp, I13 n14 n15 xs16 σ12 → ∀ _ : Nat → Value, bc (decide (n15 < ((List.length xs16 : Nat) : Int))) (cut (α := List Int → Hp → Prop) (fun xs20 σ18 => 
    ∀ _ : Nat → Value, wk .i64 (n15 + 1) (fun n21 => bk σ18 n14 (fun m22 σ23 => I13 m22 n21 xs20 σ23))) (fun J19 => 
    ∃ I26 : Nat → Int → List Int → Hp → Prop, (∃ n270, I26 n270 0 xs16 σ12) ∧ ∀ n27 : Nat, ∀ n28 : Int, ∀ xs29 : List Int, ∀ σ25 : Hp, I26 n27 n28 xs29 σ25 → ∀ _ : Nat → Value, bc (decide (n28 < ((List.length xs29 : Nat) : Int))) (cut (α := List Int → Hp → Prop) (fun xs33 σ31 => 
    ∀ _ : Nat → Value, wk .i64 (n28 + 1) (fun n34 => bk σ31 n27 (fun m35 σ36 => I26 m35 n34 xs33 σ36))) (fun J32 => 
    cl Try.prog (.func (.func 34) #[] #[]) #[(.agg #[(.int .i64 a0_Wide), (.int .i64 a0_High), (.slice a0_Cells_A a0_Cells_n a0_Cells_c), (.slice a0_Heights_A a0_Heights_n a0_Heights_c)]), (.int .i64 n28)] σ25 (fun v37 σ38 => 
    ∃ A39 : Option Addr, ∃ l39 : Nat, ∃ c39 : Nat, (v37 = (.slice A39 l39 c39) ∧ adp 3 [.int .i64] A39 l39 c39 σ38 (fun (xs40 : List Int) σ41 => 
    ∃ I44 : Nat → Int → List Int → Hp → Prop, (∃ n450, I44 n450 0 xs29 σ41) ∧ ∀ n45 : Nat, ∀ n46 : Int, ∀ xs47 : List Int, ∀ σ43 : Hp, I44 n45 n46 xs47 σ43 → ∀ _ : Nat → Value, cut (α := Hp → Prop) (fun  σ49 => 
    ∀ _ : Nat → Value, cut (α := List Int → Hp → Prop) (fun xs54 σ52 => ∀ _ : Nat → Value, wk .i64 (n46 + 1) (fun n55 => 
    bk σ52 n45 (fun m56 σ57 => I44 m56 n55 xs54 σ57))) (fun J53 => (0 ≤ n46 ∧ n46 < ((List.length xs40 : Nat) : Int) ∧ 
    lat xs40 ((n46 : Int).toNat) (fun r58 => (0 ≤ r58 ∧ r58 < ((List.length xs47 : Nat) : Int) ∧ lat xs47 ((r58 : Int).toNat) (fun r59 => 
    bc (decide (r59 = n15)) (wk .i64 (n15 + 1) (fun n60 => (0 ≤ n28 ∧ n28 < ((List.length xs47 : Nat) : Int) ∧ 
    lat xs47 ((n28 : Int).toNat) (fun _ => J53 (List.set xs47 ((n28 : Int).toNat) n60) σ49)))) (J53 xs47 σ49))))))) (fun J50 => 
    cut (α := Bool → Hp → Prop) (fun t65 σ63 => ∀ _ : Nat → Value, bc t65 (J50 σ63) (J32 xs47 σ63)) (fun J64 => 
    bc (decide (n46 < ((List.length xs40 : Nat) : Int))) (ix a1_A a1_n n28 1 (fun b66 a67 => ldB σ43 b66 a67 (fun t68 => 
    bc t68 ((0 ≤ n28 ∧ n28 < ((List.length xs47 : Nat) : Int) ∧ lat xs47 ((n28 : Int).toNat) (fun r69 => 
    J64 (decide (r69 < 0)) σ43))) (J64 false σ43)))) (bc false ((0 ≤ n28 ∧ n28 < ((List.length xs47 : Nat) : Int) ∧ 
    lat xs47 ((n28 : Int).toNat) (fun r70 => J64 (decide (r70 < 0)) σ43))) (J64 false σ43))))))))) (J19 xs29 σ25))) (J7 xs16 σ12))) (fun J3 => 
    ∃ I73 : Nat → Int → List Int → Hp → Prop, (∃ n740, I73 n740 0 (List.replicate (((a1_n : Nat) : Int) : Int).toNat 0 : List Int) σ) ∧ 
    ∀ n74 : Nat, ∀ n75 : Int, ∀ xs76 : List Int, ∀ σ72 : Hp, I73 n74 n75 xs76 σ72 → ∀ _ : Nat → Value, bc (decide (n75 < ((List.length xs76 : Nat) : Int))) (cut (α := List Int → Hp → Prop) (fun xs80 σ78 => 
    ∀ _ : Nat → Value, wk .i64 (n75 + 1) (fun n81 => bk σ78 n74 (fun m82 σ83 => I73 m82 n81 xs80 σ83))) (fun J79 => 
    (0 ≤ n75 ∧ n75 < ((List.length xs76 : Nat) : Int) ∧ lat xs76 ((n75 : Int).toNat) (fun _ => cut (α := Bool → Hp → Prop) (fun t88 σ86 => 
    ∀ _ : Nat → Value, bc t88 ((0 ≤ n75 ∧ n75 < ((List.length (List.set xs76 ((n75 : Int).toNat) (-1)) : Nat) : Int) ∧ 
    lat (List.set xs76 ((n75 : Int).toNat) (-1)) ((n75 : Int).toNat) (fun _ => J79 (List.set (List.set xs76 ((n75 : Int).toNat) (-1)) ((n75 : Int).toNat) 0) σ86))) (J79 (List.set xs76 ((n75 : Int).toNat) (-1)) σ86)) (fun J87 => 
    ix a1_A a1_n n75 1 (fun b90 a91 => ldB σ72 b90 a91 (fun t92 => bc t92 (ix a0_Cells_A a0_Cells_n n75 1 (fun b93 a94 => 
    ldI σ72 .i64 b93 a94 (fun n95 => J87 (decide (n95 = 3)) σ72))) (J87 false σ72)))))))) (J3 xs76 σ72)))
def M_ref04_far_an : MAn := (.seq (.txt []) (.seq (.txt []) (.cut ⟨[true, false], 2, [.slot 2 (.hb 0 0), .slot 5 (.hl 1 0), .modl 1 0 3 [.int .i64]], [(1, true)]⟩ (.seq (.txt []) (.block (.loop ⟨[true, false], 2, [.slot 2 (.hb 0 0), .slot 5 (.hl 1 0), .slot 6 (.sc (.int .i64)), .modl 1 0 3 [.int .i64]], [(1, true)]⟩ (.seq (.seq (.txt []) (.cond .leaf .leaf)) (.cut ⟨[true, false], 2, [.slot 2 (.hb 0 0), .slot 5 (.hl 1 0), .modl 1 0 3 [.int .i64]], [(1, true), (6, true)]⟩ (.block (.seq (.txt []) (.cut ⟨[true, true], 2, [.slot 2 (.hb 0 0), .slot 5 (.hl 1 0), .slot 34 (.sc (.bool))], [(1, true), (6, true)]⟩ (.txt [⟨[], false, []⟩, ⟨[], false, []⟩, ⟨[], false, []⟩, ⟨[], false, []⟩, ⟨[], true, []⟩]) (.cond (.txt []) .leaf)))) (.txt [])))))) (.cut ⟨[true, false], 2, [.slot 5 (.hl 1 0), .modl 1 0 3 [.int .i64]], []⟩ (.seq (.txt []) (.block (.loop ⟨[true, false], 2, [.slot 2 (.hb 0 0), .slot 5 (.hl 1 0), .slot 7 (.sc (.int .i64)), .modl 1 0 3 [.int .i64]], [(1, true)]⟩ (.seq (.seq (.txt []) (.cond .leaf .leaf)) (.cut ⟨[true, false], 2, [.slot 2 (.hb 0 0), .slot 5 (.hl 1 0), .modl 1 0 3 [.int .i64]], [(1, true), (7, true)]⟩ (.block (.seq (.txt []) (.block (.loop ⟨[true, false], 2, [.slot 2 (.hb 0 0), .slot 5 (.hl 1 0), .slot 8 (.sc (.int .i64)), .modl 1 0 3 [.int .i64]], [(1, true), (7, true)]⟩ (.seq (.seq (.txt []) (.cond .leaf .leaf)) (.cut ⟨[true, false], 2, [.slot 2 (.hb 0 0), .slot 5 (.hl 1 0), .modl 1 0 3 [.int .i64]], [(1, true), (7, true), (8, true)]⟩ (.block (.seq (.txt [⟨[], false, []⟩, ⟨[], false, []⟩, ⟨[], false, [.adl 52 3 [.int .i64]]⟩]) (.seq (.txt []) (.block (.loop ⟨[true, false, true], 3, [.slot 2 (.hb 0 0), .slot 5 (.hl 1 0), .slot 9 (.hl 2 0), .slot 10 (.sc (.int .i64)), .modl 1 0 3 [.int .i64]], [(1, true), (7, true), (8, true)]⟩ (.cut ⟨[true, true, true], 3, [.slot 2 (.hb 0 0), .slot 5 (.hl 1 0), .slot 9 (.hl 2 0)], [(1, true), (7, true), (8, true), (10, true)]⟩ (.cut ⟨[true, true, true], 3, [.slot 2 (.hb 0 0), .slot 5 (.hl 1 0), .slot 9 (.hl 2 0), .slot 69 (.sc (.bool))], [(1, true), (7, true), (8, true), (10, true)]⟩ (.txt [⟨[], false, []⟩, ⟨[], false, []⟩, ⟨[], false, []⟩, ⟨[], false, []⟩, ⟨[], true, []⟩, ⟨[], false, []⟩, ⟨[], false, []⟩, ⟨[], false, []⟩, ⟨[], false, []⟩, ⟨[], false, []⟩, ⟨[], true, []⟩]) (.cond .leaf .leaf)) (.cut ⟨[true, false, true], 3, [.slot 2 (.hb 0 0), .slot 5 (.hl 1 0), .slot 9 (.hl 2 0), .modl 1 0 3 [.int .i64]], [(1, true), (7, true), (8, true), (10, true)]⟩ (.block (.seq (.txt []) (.cond (.txt []) .leaf))) (.txt [])))))))) (.txt []))))))) (.txt [])))))) (.seq (.txt []) .leaf)))))
set_option maxRecDepth 100000 in
theorem M_ref04_far_ok (σ : Hp) (a0_Wide : Int) (a0_High : Int) (a0_Cells_A : Option Addr) (a0_Cells_n : Nat) (a0_Cells_c : Nat) (a0_Heights_A : Option Addr) (a0_Heights_n : Nat) (a0_Heights_c : Nat) (a1_A : Option Addr) (a1_n : Nat) (a1_c : Nat) (R : Value → Hp → Prop) (h : M_ref04_far σ a0_Wide a0_High a0_Cells_A a0_Cells_n a0_Cells_c a0_Heights_A a0_Heights_n a0_Heights_c a1_A a1_n a1_c R) : FCalls Try.prog 71 #[(.agg #[(.int .i64 a0_Wide), (.int .i64 a0_High), (.slice a0_Cells_A a0_Cells_n a0_Cells_c), (.slice a0_Heights_A a0_Heights_n a0_Heights_c)]), (.slice a1_A a1_n a1_c)] σ R :=
  fcalls_of_M mixed_M3 M_ref04_far_an Try.func71 rfl (by kernel_rfl) (by kernel_rfl) (M := M_ref04_far σ a0_Wide a0_High a0_Cells_A a0_Cells_n a0_Cells_c a0_Heights_A a0_Heights_n a0_Heights_c a1_A a1_n a1_c R) (by kernel_rfl) h
theorem M_ref04_far_enter : enterB Try.prog 71 = true := by kernel_rfl

abbrev N_ground_field_trapped : FuncId := 72
/-- (*waltzer/ground.field).trapped -/
def M_ground_field_trapped (σ : Hp) (f : Option Addr) (blocked : Int) (R : Value → Hp → Prop) : Prop :=
  cl Try.prog (.func (.func 70) #[] #[]) #[(.pointer f), (.int .i64 blocked)] σ (fun v1 σ2 => ∃ A3 : Option Addr, ∃ l3 : Nat, ∃ c3 : Nat, (v1 = (.slice A3 l3 c3) ∧ 
    bx σ2 (.cells #[(.pointer f)] 67) (fun b4 σ5 => bx σ5 (.cells #[(.int .i64 blocked)] 3) (fun b6 σ7 => 
    bx σ7 (.cells #[(.slice A3 l3 c3)] 22) (fun b8 σ9 => cl Try.prog (.func (.func 68) #[] #[]) #[(.pointer f), (.func (.func 97) #[] #[(.pointer (some ⟨b4, 0, none⟩)), (.pointer (some ⟨b6, 0, none⟩)), (.pointer (some ⟨b8, 0, none⟩))])] σ9 (fun v10 σ11 => 
    ∃ A12 : Option Addr, ∃ l12 : Nat, ∃ c12 : Nat, (v10 = (.slice A12 l12 c12) ∧ rt σ11 R (.slice A12 l12 c12))))))))
def M_ground_field_trapped_an : MAn := (.seq (.txt []) (.seq (.txt []) (.seq (.txt []) .leaf)))
set_option maxRecDepth 100000 in
theorem M_ground_field_trapped_ok (σ : Hp) (f : Option Addr) (blocked : Int) (R : Value → Hp → Prop) (h : M_ground_field_trapped σ f blocked R) : FCalls Try.prog 72 #[(.pointer f), (.int .i64 blocked)] σ R :=
  fcalls_of_M mixed_M3 M_ground_field_trapped_an Try.func72 rfl (by kernel_rfl) (by kernel_rfl) (M := M_ground_field_trapped σ f blocked R) (by kernel_rfl) h
theorem M_ground_field_trapped_enter : enterB Try.prog 72 = true := by kernel_rfl

abbrev N_ref04_trapped : FuncId := 73
/-- waltzer/waltzerref04.trapped -/
def M_ref04_trapped (σ : Hp) (g_Wide : Int) (g_High : Int) (g_Cells_A : Option Addr) (g_Cells_n : Nat) (g_Cells_c : Nat) (g_Heights_A : Option Addr) (g_Heights_n : Nat) (g_Heights_c : Nat) (open_A : Option Addr) (open_n : Nat) (_ : Nat) (blocked : Int) (R : Value → Hp → Prop) : Prop :=
  adp 4 [.bool] none 0 0 σ (fun (xs1 : List Bool) σ2 => ∃ ys3 : List Bool, RdS [.bool] σ2 open_A open_n ys3 ∧ 
    roomy (List.length xs1 + List.length ys3) ((0 ≤ blocked ∧ blocked < ((List.length (xs1 ++ ys3) : Nat) : Int) ∧ 
    lat (xs1 ++ ys3) ((blocked : Int).toNat) (fun _ => exl 4 [.bool] (List.set (xs1 ++ ys3) ((blocked : Int).toNat) false) σ2 (fun A5 l5 c5 σ6 => 
    cl Try.prog (.func (.func 71) #[] #[]) #[(.agg #[(.int .i64 g_Wide), (.int .i64 g_High), (.slice g_Cells_A g_Cells_n g_Cells_c), (.slice g_Heights_A g_Heights_n g_Heights_c)]), (.slice A5 l5 c5)] σ6 (fun v7 σ8 => 
    ∃ A9 : Option Addr, ∃ l9 : Nat, ∃ c9 : Nat, (v7 = (.slice A9 l9 c9) ∧ adp 3 [.int .i64] A9 l9 c9 σ8 (fun (xs10 : List Int) σ11 => 
    adp 4 [.bool] A5 l5 c5 σ11 (fun (xs12 : List Bool) σ13 => (0 ≤ ((open_n : Nat) : Int) ∧ ((open_n : Nat) : Int) ≤ ((open_n : Nat) : Int) ∧ 
    ((open_n : Nat) : Int) ≤ (1000000000 : Int) ∧ cut (α := List Bool → Hp → Prop) (fun xs17 σ15 => ∀ _ : Nat → Value, 
    exl 4 [.bool] xs17 σ15 (fun A18 l18 c18 σ19 => rt σ19 R (.slice A18 l18 c18))) (fun J16 => ∃ I22 : Nat → Int → List Bool → Hp → Prop, (∃ n230, I22 n230 0 (List.replicate (((open_n : Nat) : Int) : Int).toNat false : List Bool) σ13) ∧ 
    ∀ n23 : Nat, ∀ n24 : Int, ∀ xs25 : List Bool, ∀ σ21 : Hp, I22 n23 n24 xs25 σ21 → ∀ _ : Nat → Value, bc (decide (n24 < ((List.length xs25 : Nat) : Int))) (cut (α := List Bool → Hp → Prop) (fun xs29 σ27 => 
    ∀ _ : Nat → Value, wk .i64 (n24 + 1) (fun n30 => bk σ27 n23 (fun m31 σ32 => I22 m31 n30 xs29 σ32))) (fun J28 => 
    (0 ≤ n24 ∧ n24 < ((List.length xs12 : Nat) : Int) ∧ lat xs12 ((n24 : Int).toNat) (fun r33 => bc r33 ((0 ≤ n24 ∧ 
    n24 < ((List.length xs10 : Nat) : Int) ∧ lat xs10 ((n24 : Int).toNat) (fun r34 => (0 ≤ n24 ∧ n24 < ((List.length xs25 : Nat) : Int) ∧ 
    lat xs25 ((n24 : Int).toNat) (fun _ => J28 (List.set xs25 ((n24 : Int).toNat) (decide (r34 < 0))) σ21))))) ((0 ≤ n24 ∧ 
    n24 < ((List.length xs25 : Nat) : Int) ∧ lat xs25 ((n24 : Int).toNat) (fun _ => J28 (List.set xs25 ((n24 : Int).toNat) false) σ21))))))) (J16 xs25 σ21))))))))))))
def M_ref04_trapped_an : MAn := (.seq (.txt []) (.seq (.txt []) (.seq (.txt []) (.seq (.txt [⟨[], false, []⟩, ⟨[], false, []⟩, ⟨[], false, [.adl 18 3 [.int .i64], .adl 7 4 [.bool]]⟩]) (.seq (.txt []) (.cut ⟨[true, false, true, true, false], 5, [.slot 9 (.hl 4 0), .modl 4 0 4 [.bool]], []⟩ (.seq (.txt []) (.block (.loop ⟨[true, false, true, true, false], 5, [.slot 7 (.hl 3 0), .slot 8 (.hl 2 0), .slot 9 (.hl 4 0), .slot 10 (.sc (.int .i64)), .modl 4 0 4 [.bool]], []⟩ (.seq (.seq (.txt []) (.cond .leaf .leaf)) (.cut ⟨[true, false, true, true, false], 5, [.slot 7 (.hl 3 0), .slot 8 (.hl 2 0), .slot 9 (.hl 4 0), .modl 4 0 4 [.bool]], [(10, true)]⟩ (.block (.txt [⟨[], false, []⟩, ⟨[], false, []⟩, ⟨[], false, []⟩, ⟨[], false, []⟩, ⟨[], false, []⟩, ⟨[], false, []⟩, ⟨[], true, []⟩])) (.txt [])))))) (.seq (.txt []) .leaf)))))))
set_option maxRecDepth 100000 in
theorem M_ref04_trapped_ok (σ : Hp) (g_Wide : Int) (g_High : Int) (g_Cells_A : Option Addr) (g_Cells_n : Nat) (g_Cells_c : Nat) (g_Heights_A : Option Addr) (g_Heights_n : Nat) (g_Heights_c : Nat) (open_A : Option Addr) (open_n : Nat) (open_c : Nat) (blocked : Int) (R : Value → Hp → Prop) (h : M_ref04_trapped σ g_Wide g_High g_Cells_A g_Cells_n g_Cells_c g_Heights_A g_Heights_n g_Heights_c open_A open_n open_c blocked R) : FCalls Try.prog 73 #[(.agg #[(.int .i64 g_Wide), (.int .i64 g_High), (.slice g_Cells_A g_Cells_n g_Cells_c), (.slice g_Heights_A g_Heights_n g_Heights_c)]), (.slice open_A open_n open_c), (.int .i64 blocked)] σ R :=
  fcalls_of_M mixed_M3 M_ref04_trapped_an Try.func73 rfl (by kernel_rfl) (by kernel_rfl) (M := M_ref04_trapped σ g_Wide g_High g_Cells_A g_Cells_n g_Cells_c g_Heights_A g_Heights_n g_Heights_c open_A open_n open_c blocked R) (by kernel_rfl) h
theorem M_ref04_trapped_enter : enterB Try.prog 73 = true := by kernel_rfl

abbrev N_ground_field_cells : FuncId := 74
/-- (*waltzer/ground.field).cells -/
def M_ground_field_cells (σ : Hp) (a0 : Option Addr) (a1 : Int) (a2_Cell : Int) (a2_Turned : Bool) (R : Value → Hp → Prop) : Prop :=
  dr a0 (fun b1 o2 => ldS σ b1 (o2 + 4) (fun A3 l3 _ => ix A3 l3 a1 5 (fun b4 a5 => ldI σ .i64 b4 a5 (fun n6 => 
    dr a0 (fun b7 o8 => ldS σ b7 (o8 + 4) (fun A9 l9 _ => ix A9 l9 a1 5 (fun b10 a11 => ldI σ .i64 b10 (a11 + 1) (fun n12 => 
    cut (α := Int → Int → Hp → Prop) (fun n16 n17 σ14 => ∀ _ : Nat → Value, cut (α := Hp → Prop) (fun  σ19 => 
    ∀ _ : Nat → Value, cut (α := Option Addr → Nat → Nat → Hp → Prop) (fun A24 l24 c24 σ22 => ∀ _ : Nat → Value, 
    rt σ22 R (.tuple #[(.slice A24 l24 c24), (.bool true)])) (fun J23 => ∃ I27 : Nat → Option Addr → Nat → Nat → Int → Hp → Prop, (∃ n280, I27 n280 none 0 0 0 σ19) ∧ 
    ∀ n28 : Nat, ∀ A29 : Option Addr, ∀ l29 : Nat, ∀ c29 : Nat, ∀ n30 : Int, ∀ σ26 : Hp, I27 n28 A29 l29 c29 n30 σ26 → ∀ _ : Nat → Value, bc (decide (n30 < n17)) (cut (α := Option Addr → Nat → Nat → Hp → Prop) (fun A34 l34 c34 σ32 => 
    ∀ _ : Nat → Value, wk .i64 (n30 + 1) (fun n35 => bk σ32 n28 (fun m36 σ37 => I27 m36 A34 l34 c34 n35 σ37))) (fun J33 => 
    ∃ I40 : Nat → Option Addr → Nat → Nat → Int → Hp → Prop, (∃ n410, I40 n410 A29 l29 c29 0 σ26) ∧ ∀ n41 : Nat, ∀ A42 : Option Addr, ∀ l42 : Nat, ∀ c42 : Nat, ∀ n43 : Int, ∀ σ39 : Hp, I40 n41 A42 l42 c42 n43 σ39 → ∀ _ : Nat → Value, bc (decide (n43 < n16)) (dr a0 (fun b44 o45 => 
    ldI σ39 .i64 b44 o45 (fun n46 => wk .i64 (n30 * n46) (fun n47 => wk .i64 (a2_Cell + n47) (fun n48 => 
    wk .i64 (n48 + n43) (fun n49 => adp 3 [.int .i64] A42 l42 c42 σ39 (fun (xs50 : List Int) σ51 => roomy (List.length xs50 + List.length ([n49] : List Int)) (wk .i64 (n43 + 1) (fun n52 => 
    bk σ51 n41 (fun m53 σ54 => exl 3 [.int .i64] (xs50 ++ ([n49] : List Int)) σ54 (fun A55 l55 c55 σ56 => 
    I40 m53 A55 l55 c55 n52 σ56))))))))))) (J33 A42 l42 c42 σ39))) (J23 A29 l29 c29 σ26))) (fun J20 => cut (α := Bool → Hp → Prop) (fun t60 σ58 => 
    ∀ _ : Nat → Value, bc t60 (rt σ58 R (.tuple #[(.slice none 0 0), (.bool false)])) (J20 σ58)) (fun J59 => 
    dr a0 (fun b61 o62 => ldS σ14 b61 (o62 + 2) (fun _ l63 _ => wk .i64 (((l63 : Nat) : Int) - 1) (fun n64 => 
    cl Try.prog (.func (.func 58) #[] #[]) #[(.int .i64 a2_Cell), (.int .i64 0), (.int .i64 n64)] σ14 (fun v65 σ66 => 
    ∃ t67 : Bool, (v65 = (.bool t67) ∧ bc (!t67) (bc true (J59 true σ66) (dr a0 (fun b68 o69 => ldI σ66 .i64 b68 o69 (fun n70 => 
    (n70 ≠ 0 ∧ wk .i64 (Int.tdiv a2_Cell n70) (fun n71 => wk .i64 (n71 + n17) (fun n72 => dr a0 (fun b73 o74 => 
    ldI σ66 .i64 b73 (o74 + 1) (fun n75 => J59 (decide (n75 < n72)) σ66))))))))) (dr a0 (fun b76 o77 => ldI σ66 .i64 b76 o77 (fun n78 => 
    (n78 ≠ 0 ∧ wk .i64 ((Int.tmod a2_Cell n78) + n16) (fun n79 => dr a0 (fun b80 o81 => ldI σ66 .i64 b80 o81 (fun n82 => 
    bc (decide (n82 < n79)) (J59 true σ66) (dr a0 (fun b83 o84 => ldI σ66 .i64 b83 o84 (fun n85 => (n85 ≠ 0 ∧ 
    wk .i64 (Int.tdiv a2_Cell n85) (fun n86 => wk .i64 (n86 + n17) (fun n87 => dr a0 (fun b88 o89 => ldI σ66 .i64 b88 (o89 + 1) (fun n90 => 
    J59 (decide (n90 < n87)) σ66))))))))))))))))))))))) (fun J15 => bc a2_Turned (J15 n12 n6 σ) (J15 n6 n12 σ))))))))))
def M_ground_field_cells_an : MAn := (.seq (.txt []) (.seq (.plan [] (.take 0 ⟨[], false, []⟩ (.take 1 ⟨[], false, []⟩ (.take 2 ⟨[], false, []⟩ (.take 3 ⟨[], false, []⟩ (.take 4 ⟨[], false, []⟩ (.take 5 ⟨[], false, []⟩ (.take 6 ⟨[], false, []⟩ (.take 7 ⟨[], false, []⟩ (.take 8 ⟨[], false, []⟩ (.take 9 ⟨[], false, []⟩ (.take 10 ⟨[], false, []⟩ (.take 11 ⟨[], false, []⟩ (.take 12 ⟨[], false, []⟩ (.take 13 ⟨[], false, []⟩ (.take 14 ⟨[], false, []⟩ (.take 15 ⟨[], false, []⟩ (.take 16 ⟨[], false, []⟩ (.take 17 ⟨[], false, []⟩ .done))))))))))))))))))) (.cut ⟨[true], 1, [.slot 5 (.hb 0 0), .slot 8 (.sc (.int .i64)), .slot 9 (.sc (.int .i64))], [(0, true)]⟩ (.seq (.txt []) (.cond (.txt []) .leaf)) (.cut ⟨[true], 1, [.slot 5 (.hb 0 0)], [(0, true), (8, true), (9, true)]⟩ (.cut ⟨[true], 1, [.slot 5 (.hb 0 0), .slot 79 (.sc (.bool))], [(0, true), (8, true), (9, true)]⟩ (.plan [9] (.take 0 ⟨[], false, []⟩ (.take 1 ⟨[], false, []⟩ (.take 2 ⟨[], false, []⟩ (.take 3 ⟨[], false, []⟩ (.take 4 ⟨[], false, []⟩ (.take 5 ⟨[], false, []⟩ (.take 6 ⟨[], false, []⟩ (.take 7 ⟨[], false, []⟩ (.take 8 ⟨[], false, []⟩ (.alt 9 false ⟨[], false, []⟩ (.take 10 ⟨[], false, []⟩ (.take 11 ⟨[], true, []⟩ (.take 12 ⟨[], false, []⟩ (.take 13 ⟨[], false, []⟩ (.take 14 ⟨[], false, []⟩ (.take 15 ⟨[], false, []⟩ (.take 16 ⟨[], false, []⟩ (.take 17 ⟨[], false, []⟩ (.take 18 ⟨[], false, []⟩ (.take 19 ⟨[], false, []⟩ (.take 20 ⟨[], false, []⟩ (.take 21 ⟨[], false, []⟩ (.take 22 ⟨[], false, []⟩ (.take 23 ⟨[], false, []⟩ (.take 24 ⟨[], false, []⟩ (.take 25 ⟨[], false, []⟩ (.take 26 ⟨[], false, []⟩ (.take 27 ⟨[], false, []⟩ (.take 28 ⟨[], false, []⟩ (.take 29 ⟨[], true, []⟩ (.take 30 ⟨[], false, []⟩ (.take 31 ⟨[], false, []⟩ (.take 32 ⟨[], false, []⟩ (.take 33 ⟨[], false, []⟩ (.take 34 ⟨[], false, []⟩ (.take 35 ⟨[], false, []⟩ (.take 36 ⟨[], false, []⟩ (.take 37 ⟨[], false, []⟩ (.take 38 ⟨[], false, []⟩ (.take 39 ⟨[], false, []⟩ (.take 40 ⟨[], false, []⟩ (.take 41 ⟨[], false, []⟩ (.take 42 ⟨[], false, []⟩ (.take 43 ⟨[], false, []⟩ (.take 44 ⟨[], false, []⟩ (.take 45 ⟨[], false, []⟩ (.take 46 ⟨[], false, []⟩ .done))))))))))))))))))))))))))))))))))))) .done))))))))))) (.cond (.seq (.txt []) .leaf) .leaf)) (.seq (.txt []) (.cut ⟨[true], 1, [.slot 10 (.sc (.slc))], []⟩ (.seq (.txt []) (.block (.loop ⟨[true], 1, [.slot 5 (.hb 0 0), .slot 10 (.sc (.slc)), .slot 81 (.sc (.int .i64))], [(0, true), (8, true), (80, true)]⟩ (.seq (.txt []) (.seq (.cond .leaf .leaf) (.cut ⟨[true], 1, [.slot 5 (.hb 0 0), .slot 10 (.sc (.slc))], [(0, true), (8, true), (80, true), (81, true)]⟩ (.block (.seq (.txt []) (.seq (.txt []) (.block (.loop ⟨[true], 1, [.slot 5 (.hb 0 0), .slot 10 (.sc (.slc)), .slot 85 (.sc (.int .i64))], [(0, true), (8, true), (11, true), (80, true), (81, true), (84, true)]⟩ (.seq (.txt []) (.seq (.cond .leaf .leaf) (.seq (.block (.seq (.txt []) (.plan [14] (.take 0 ⟨[], false, []⟩ (.take 1 ⟨[], false, []⟩ (.take 2 ⟨[], false, []⟩ (.take 3 ⟨[], false, []⟩ (.take 4 ⟨[], false, []⟩ (.take 5 ⟨[], false, []⟩ (.take 6 ⟨[], false, []⟩ (.take 7 ⟨[], false, []⟩ (.take 8 ⟨[], false, []⟩ (.take 9 ⟨[], false, []⟩ (.take 10 ⟨[], false, []⟩ (.take 11 ⟨[], false, []⟩ (.take 12 ⟨[], false, []⟩ (.alt 13 true ⟨[], false, []⟩ (.alt 14 false ⟨[], false, []⟩ (.take 15 ⟨[], false, []⟩ .done) .done) .done))))))))))))))))) (.txt []))))))))) (.txt []))))))) (.seq (.txt []) .leaf)))))))
set_option maxRecDepth 100000 in
theorem M_ground_field_cells_ok (σ : Hp) (a0 : Option Addr) (a1 : Int) (a2_Cell : Int) (a2_Turned : Bool) (R : Value → Hp → Prop) (h : M_ground_field_cells σ a0 a1 a2_Cell a2_Turned R) : FCalls Try.prog 74 #[(.pointer a0), (.int .i64 a1), (.agg #[(.int .i64 a2_Cell), (.bool a2_Turned)])] σ R :=
  fcalls_of_M mixed_M3 M_ground_field_cells_an Try.func74 rfl (by kernel_rfl) (by kernel_rfl) (M := M_ground_field_cells σ a0 a1 a2_Cell a2_Turned R) (by kernel_rfl) h
theorem M_ground_field_cells_enter : enterB Try.prog 74 = true := by kernel_rfl

abbrev N_ground_Lanes_1 : FuncId := 75
/-- waltzer/ground.Lanes$1 -/
def M_ground_Lanes_1 (σ : Hp) (c : Int) (cap0 : Option Addr) (cap1 : Option Addr) (cap2 : Option Addr) (R : Value → Hp → Prop) : Prop :=
  dr cap0 (fun b1 o2 => ldP σ b1 o2 (fun p3 => cl Try.prog (.func (.func 49) #[] #[]) #[(.pointer p3), (.int .i64 c)] σ (fun v4 σ5 => 
    ∃ A6 : Option Addr, ∃ l6 : Nat, ∃ c6 : Nat, (v4 = (.slice A6 l6 c6) ∧ adp 3 [.int .i64] A6 l6 c6 σ5 (fun (xs7 : List Int) σ8 => 
    exl 3 [.int .i64] xs7 σ8 (fun A9 l9 c9 σ10 => cl Try.prog (.func (.func 76) #[] #[]) #[(.slice A9 l9 c9), (.func (.func 77) #[] #[(.pointer cap0), (.pointer cap1), (.pointer cap2)])] σ10 (fun v11 σ12 => 
    ∃ t13 : Bool, (v11 = (.bool t13) ∧ rt σ12 R (.bool t13)))))))))
def M_ground_Lanes_1_an : MAn := (.seq (.txt []) (.seq (.txt [⟨[], false, []⟩, ⟨[], false, []⟩, ⟨[], false, [.adl 8 3 [.int .i64]]⟩]) .leaf))
set_option maxRecDepth 100000 in
theorem M_ground_Lanes_1_ok (σ : Hp) (c : Int) (cap0 : Option Addr) (cap1 : Option Addr) (cap2 : Option Addr) (R : Value → Hp → Prop) (h : M_ground_Lanes_1 σ c cap0 cap1 cap2 R) : FCalls Try.prog 75 #[(.int .i64 c), (.pointer cap0), (.pointer cap1), (.pointer cap2)] σ R :=
  fcalls_of_M mixed_M3 M_ground_Lanes_1_an Try.func75 rfl (by kernel_rfl) (by kernel_rfl) (M := M_ground_Lanes_1 σ c cap0 cap1 cap2 R) (by kernel_rfl) h
theorem M_ground_Lanes_1_enter : enterB Try.prog 75 = true := by kernel_rfl

abbrev N_slices_ContainsFunc_int : FuncId := 76
/-- slices.ContainsFunc[[]int,int] -/
def M_slices_ContainsFunc_int (σ : Hp) (s_A : Option Addr) (s_n : Nat) (s_c : Nat) (f : Value) (R : Value → Hp → Prop) : Prop :=
  cl Try.prog (.func (.func 51) #[] #[]) #[(.slice s_A s_n s_c), f] σ (fun v1 σ2 => ∃ n3 : Int, (v1 = (.int .i64 n3) ∧ 
    rt σ2 R (.bool (decide ((0 : Int) ≤ n3)))))
def M_slices_ContainsFunc_int_an : MAn := (.seq (.txt []) (.seq (.txt []) .leaf))
set_option maxRecDepth 100000 in
theorem M_slices_ContainsFunc_int_ok (σ : Hp) (s_A : Option Addr) (s_n : Nat) (s_c : Nat) (f : Value) (R : Value → Hp → Prop) (h : M_slices_ContainsFunc_int σ s_A s_n s_c f R) : FCalls Try.prog 76 #[(.slice s_A s_n s_c), f] σ R :=
  fcalls_of_M mixed_M3 M_slices_ContainsFunc_int_an Try.func76 rfl (by kernel_rfl) (by kernel_rfl) (M := M_slices_ContainsFunc_int σ s_A s_n s_c f R) (by kernel_rfl) h
theorem M_slices_ContainsFunc_int_enter : enterB Try.prog 76 = true := by kernel_rfl

abbrev N_ground_Lanes_1_1 : FuncId := 77
/-- waltzer/ground.Lanes$1$1 -/
def M_ground_Lanes_1_1 (σ : Hp) (k : Int) (cap0 : Option Addr) (cap1 : Option Addr) (cap2 : Option Addr) (R : Value → Hp → Prop) : Prop :=
  dr cap0 (fun b1 o2 => ldP σ b1 o2 (fun p3 => cl Try.prog (.func (.func 46) #[] #[]) #[(.pointer p3), (.int .i64 k)] σ (fun v4 σ5 => 
    ∃ t6 : Bool, (v4 = (.bool t6) ∧ bc t6 (dr cap1 (fun b7 o8 => ldS σ5 b7 o8 (fun A9 l9 _ => ix A9 l9 k 1 (fun b10 a11 => 
    ldI σ5 .i64 b10 a11 (fun n12 => dr cap2 (fun b13 o14 => ldI σ5 .i64 b13 o14 (fun n15 => cl Try.prog (.func (.func 58) #[] #[]) #[(.int .i64 n12), (.int .i64 0), (.int .i64 n15)] σ5 (fun v16 σ17 => 
    ∃ t18 : Bool, (v16 = (.bool t18) ∧ rt σ17 R (.bool t18)))))))))) (rt σ5 R (.bool false))))))
def M_ground_Lanes_1_1_an : MAn := (.seq (.txt []) (.seq (.plan [2, 9] (.take 0 ⟨[], false, []⟩ (.take 1 ⟨[], false, []⟩ (.alt 2 false ⟨[], false, []⟩ (.take 3 ⟨[], true, []⟩ (.take 4 ⟨[], false, []⟩ (.take 5 ⟨[], false, []⟩ (.take 6 ⟨[], false, []⟩ (.take 7 ⟨[], false, []⟩ (.take 8 ⟨[], false, []⟩ (.alt 9 false ⟨[], false, []⟩ (.take 10 ⟨[], false, []⟩ (.take 11 ⟨[], false, []⟩ .done)) .done))))))) .done)))) .leaf))
set_option maxRecDepth 100000 in
theorem M_ground_Lanes_1_1_ok (σ : Hp) (k : Int) (cap0 : Option Addr) (cap1 : Option Addr) (cap2 : Option Addr) (R : Value → Hp → Prop) (h : M_ground_Lanes_1_1 σ k cap0 cap1 cap2 R) : FCalls Try.prog 77 #[(.int .i64 k), (.pointer cap0), (.pointer cap1), (.pointer cap2)] σ R :=
  fcalls_of_M mixed_M3 M_ground_Lanes_1_1_an Try.func77 rfl (by kernel_rfl) (by kernel_rfl) (M := M_ground_Lanes_1_1 σ k cap0 cap1 cap2 R) (by kernel_rfl) h
theorem M_ground_Lanes_1_1_enter : enterB Try.prog 77 = true := by kernel_rfl

abbrev N_ref04_Cover : FuncId := 78
/-- waltzer/waltzerref04.Cover -/
def M_ref04_Cover (σ : Hp) (a0_Wide : Int) (a0_High : Int) (_ : Option Addr) (a0_Cells_n : Nat) (_ : Nat) (_ : Option Addr) (_ : Nat) (_ : Nat) (a1_Wide : Int) (a1_High : Int) (_ : Int) (_ : Int) (_ : Int) (a2_Cell : Int) (a2_Turned : Bool) (R : Value → Hp → Prop) : Prop :=
  wk .i64 (((a0_Cells_n : Nat) : Int) - 1) (fun n1 => cl Try.prog (.func (.func 53) #[] #[]) #[(.int .i64 a2_Cell), (.int .i64 0), (.int .i64 n1)] σ (fun v2 σ3 => 
    ∃ t4 : Bool, (v2 = (.bool t4) ∧ bc (!t4) (rt σ3 R (.tuple #[(.slice none 0 0), (.bool false)])) (cut (α := Int → Int → Hp → Prop) (fun n8 n9 σ6 => 
    ∀ _ : Nat → Value, (a0_Wide ≠ 0 ∧ (a0_Wide ≠ 0 ∧ wk .i64 (Int.tdiv a2_Cell a0_Wide) (fun n10 => cut (α := Hp → Prop) (fun  σ12 => 
    ∀ _ : Nat → Value, cut (α := Option Addr → Nat → Nat → Hp → Prop) (fun A17 l17 c17 σ15 => ∀ _ : Nat → Value, 
    rt σ15 R (.tuple #[(.slice A17 l17 c17), (.bool true)])) (fun J16 => ∃ I20 : Nat → Option Addr → Nat → Nat → Int → Hp → Prop, (∃ n210, I20 n210 none 0 0 n10 σ12) ∧ 
    ∀ n21 : Nat, ∀ A22 : Option Addr, ∀ l22 : Nat, ∀ c22 : Nat, ∀ n23 : Int, ∀ σ19 : Hp, I20 n21 A22 l22 c22 n23 σ19 → ∀ _ : Nat → Value, wk .i64 (n10 + n9) (fun n24 => 
    bc (decide (n23 < n24)) (cut (α := Option Addr → Nat → Nat → Hp → Prop) (fun A28 l28 c28 σ26 => ∀ _ : Nat → Value, 
    wk .i64 (n23 + 1) (fun n29 => bk σ26 n21 (fun m30 σ31 => I20 m30 A28 l28 c28 n29 σ31))) (fun J27 => ∃ I34 : Nat → Option Addr → Nat → Nat → Int → Hp → Prop, (∃ n350, I34 n350 A22 l22 c22 (Int.tmod a2_Cell a0_Wide) σ19) ∧ 
    ∀ n35 : Nat, ∀ A36 : Option Addr, ∀ l36 : Nat, ∀ c36 : Nat, ∀ n37 : Int, ∀ σ33 : Hp, I34 n35 A36 l36 c36 n37 σ33 → ∀ _ : Nat → Value, wk .i64 ((Int.tmod a2_Cell a0_Wide) + n8) (fun n38 => 
    bc (decide (n37 < n38)) (wk .i64 (n23 * a0_Wide) (fun n39 => wk .i64 (n39 + n37) (fun n40 => adp 3 [.int .i64] A36 l36 c36 σ33 (fun (xs41 : List Int) σ42 => 
    roomy (List.length xs41 + List.length ([n40] : List Int)) (wk .i64 (n37 + 1) (fun n43 => bk σ42 n35 (fun m44 σ45 => 
    exl 3 [.int .i64] (xs41 ++ ([n40] : List Int)) σ45 (fun A46 l46 c46 σ47 => I34 m44 A46 l46 c46 n43 σ47)))))))) (J27 A36 l36 c36 σ33)))) (J16 A22 l22 c22 σ19)))) (fun J13 => 
    cut (α := Bool → Hp → Prop) (fun t51 σ49 => ∀ _ : Nat → Value, bc t51 (rt σ49 R (.tuple #[(.slice none 0 0), (.bool false)])) (J13 σ49)) (fun J50 => 
    wk .i64 ((Int.tmod a2_Cell a0_Wide) + n8) (fun n52 => bc (decide (a0_Wide < n52)) (J50 true σ6) (wk .i64 (n10 + n9) (fun n53 => 
    J50 (decide (a0_High < n53)) σ6))))))))) (fun J7 => bc a2_Turned (J7 a1_High a1_Wide σ3) (J7 a1_Wide a1_High σ3))))))
def M_ref04_Cover_an : MAn := (.seq (.txt []) (.seq (.seq (.txt []) (.cond (.seq (.txt []) .leaf) .leaf)) (.seq (.plan [] (.take 0 ⟨[], false, []⟩ (.take 1 ⟨[], false, []⟩ (.take 2 ⟨[], false, []⟩ (.take 3 ⟨[], false, []⟩ (.take 4 ⟨[], false, []⟩ (.take 5 ⟨[], false, []⟩ .done))))))) (.cut ⟨[true, true, true], 3, [.slot 3 (.hb 0 0), .slot 5 (.hb 2 0), .slot 8 (.sc (.int .i64)), .slot 9 (.sc (.int .i64))], []⟩ (.seq (.txt []) (.cond (.plan [] (.take 0 ⟨[], false, []⟩ (.take 1 ⟨[], false, []⟩ (.take 2 ⟨[], false, []⟩ (.take 3 ⟨[], false, []⟩ (.take 4 ⟨[], false, []⟩ (.take 5 ⟨[], false, []⟩ .done))))))) .leaf)) (.seq (.plan [] (.take 0 ⟨[], false, []⟩ (.take 1 ⟨[], false, []⟩ (.take 2 ⟨[], false, []⟩ (.take 3 ⟨[], false, []⟩ (.take 4 ⟨[], false, []⟩ (.take 5 ⟨[], false, []⟩ (.take 6 ⟨[], false, []⟩ (.take 7 ⟨[], false, []⟩ (.take 8 ⟨[], false, []⟩ (.take 9 ⟨[], false, []⟩ (.take 10 ⟨[], false, []⟩ (.take 11 ⟨[], false, []⟩ .done))))))))))))) (.cut ⟨[true, true, true], 3, [.slot 3 (.hb 0 0)], [(8, true), (9, true), (10, true), (11, true)]⟩ (.cut ⟨[true, true, true], 3, [.slot 3 (.hb 0 0), .slot 56 (.sc (.bool))], [(8, true), (9, true), (10, true), (11, true)]⟩ (.txt [⟨[], false, []⟩, ⟨[], false, []⟩, ⟨[], false, []⟩, ⟨[], false, []⟩, ⟨[], false, []⟩, ⟨[], false, []⟩, ⟨[], true, []⟩]) (.cond (.seq (.txt []) .leaf) .leaf)) (.seq (.txt []) (.cut ⟨[true, true, true], 3, [.slot 12 (.sc (.slc))], []⟩ (.seq (.txt []) (.block (.loop ⟨[true, true, true], 3, [.slot 3 (.hb 0 0), .slot 12 (.sc (.slc)), .slot 13 (.sc (.int .i64))], [(8, true), (9, true), (10, true), (11, true)]⟩ (.seq (.seq (.txt []) (.cond .leaf .leaf)) (.cut ⟨[true, true, true], 3, [.slot 3 (.hb 0 0), .slot 12 (.sc (.slc))], [(8, true), (9, true), (10, true), (11, true), (13, true)]⟩ (.block (.seq (.txt []) (.block (.loop ⟨[true, true, true], 3, [.slot 3 (.hb 0 0), .slot 12 (.sc (.slc)), .slot 14 (.sc (.int .i64))], [(8, true), (9, true), (10, true), (11, true), (13, true)]⟩ (.seq (.seq (.txt []) (.cond .leaf .leaf)) (.seq (.block (.txt [])) (.txt []))))))) (.txt [])))))) (.seq (.txt []) .leaf)))))))))
set_option maxRecDepth 100000 in
theorem M_ref04_Cover_ok (σ : Hp) (a0_Wide : Int) (a0_High : Int) (a0_Cells_A : Option Addr) (a0_Cells_n : Nat) (a0_Cells_c : Nat) (a0_Heights_A : Option Addr) (a0_Heights_n : Nat) (a0_Heights_c : Nat) (a1_Wide : Int) (a1_High : Int) (a1_Slope : Int) (a1_Years : Int) (a1_Wish : Int) (a2_Cell : Int) (a2_Turned : Bool) (R : Value → Hp → Prop) (h : M_ref04_Cover σ a0_Wide a0_High a0_Cells_A a0_Cells_n a0_Cells_c a0_Heights_A a0_Heights_n a0_Heights_c a1_Wide a1_High a1_Slope a1_Years a1_Wish a2_Cell a2_Turned R) : FCalls Try.prog 78 #[(.agg #[(.int .i64 a0_Wide), (.int .i64 a0_High), (.slice a0_Cells_A a0_Cells_n a0_Cells_c), (.slice a0_Heights_A a0_Heights_n a0_Heights_c)]), (.agg #[(.int .i64 a1_Wide), (.int .i64 a1_High), (.int .i64 a1_Slope), (.int .i64 a1_Years), (.int .i64 a1_Wish)]), (.agg #[(.int .i64 a2_Cell), (.bool a2_Turned)])] σ R :=
  fcalls_of_M mixed_M3 M_ref04_Cover_an Try.func78 rfl (by kernel_rfl) (by kernel_rfl) (M := M_ref04_Cover σ a0_Wide a0_High a0_Cells_A a0_Cells_n a0_Cells_c a0_Heights_A a0_Heights_n a0_Heights_c a1_Wide a1_High a1_Slope a1_Years a1_Wish a2_Cell a2_Turned R) (by kernel_rfl) h
theorem M_ref04_Cover_enter : enterB Try.prog 78 = true := by kernel_rfl

abbrev N_ground_Leave_1 : FuncId := 79
/-- waltzer/ground.Leave$1 -/
def M_ground_Leave_1 (σ : Hp) (c : Int) (cap0 : Option Addr) (R : Value → Hp → Prop) : Prop :=
  dr cap0 (fun b1 o2 => ldS σ b1 o2 (fun A3 l3 _ => ix A3 l3 c 1 (fun b4 a5 => ldI σ .i64 b4 a5 (fun n6 => 
    rt σ R (.bool (decide ((0 : Int) ≤ n6)))))))
def M_ground_Leave_1_an : MAn := (.seq (.txt []) (.seq (.txt []) .leaf))
set_option maxRecDepth 100000 in
theorem M_ground_Leave_1_ok (σ : Hp) (c : Int) (cap0 : Option Addr) (R : Value → Hp → Prop) (h : M_ground_Leave_1 σ c cap0 R) : FCalls Try.prog 79 #[(.int .i64 c), (.pointer cap0)] σ R :=
  fcalls_of_M mixed_M3 M_ground_Leave_1_an Try.func79 rfl (by kernel_rfl) (by kernel_rfl) (M := M_ground_Leave_1 σ c cap0 R) (by kernel_rfl) h
theorem M_ground_Leave_1_enter : enterB Try.prog 79 = true := by kernel_rfl

abbrev N_ground_Leave_2 : FuncId := 80
/-- waltzer/ground.Leave$2 -/
def M_ground_Leave_2 (σ : Hp) (a : Int) (b : Int) (cap0 : Option Addr) (R : Value → Hp → Prop) : Prop :=
  dr cap0 (fun b1 o2 => ldS σ b1 o2 (fun A3 l3 _ => ix A3 l3 a 1 (fun b4 a5 => ldI σ .i64 b4 a5 (fun n6 => 
    dr cap0 (fun b7 o8 => ldS σ b7 o8 (fun A9 l9 _ => ix A9 l9 b 1 (fun b10 a11 => ldI σ .i64 b10 a11 (fun n12 => 
    wk .i64 (n6 - n12) (fun n13 => rt σ R (.int .i64 n13))))))))))
def M_ground_Leave_2_an : MAn := (.seq (.txt []) (.seq (.plan [] (.take 0 ⟨[], false, []⟩ (.take 1 ⟨[], false, []⟩ (.take 2 ⟨[], false, []⟩ (.take 3 ⟨[], false, []⟩ (.take 4 ⟨[], false, []⟩ (.take 5 ⟨[], false, []⟩ (.take 6 ⟨[], false, []⟩ (.take 7 ⟨[], false, []⟩ (.take 8 ⟨[], false, []⟩ (.take 9 ⟨[], false, []⟩ .done))))))))))) .leaf))
set_option maxRecDepth 100000 in
theorem M_ground_Leave_2_ok (σ : Hp) (a : Int) (b : Int) (cap0 : Option Addr) (R : Value → Hp → Prop) (h : M_ground_Leave_2 σ a b cap0 R) : FCalls Try.prog 80 #[(.int .i64 a), (.int .i64 b), (.pointer cap0)] σ R :=
  fcalls_of_M mixed_M3 M_ground_Leave_2_an Try.func80 rfl (by kernel_rfl) (by kernel_rfl) (M := M_ground_Leave_2 σ a b cap0 R) (by kernel_rfl) h
theorem M_ground_Leave_2_enter : enterB Try.prog 80 = true := by kernel_rfl

abbrev N_slices_Clone_int : FuncId := 81
/-- slices.Clone[[]int,int] -/
def M_slices_Clone_int (σ : Hp) (s_A : Option Addr) (s_n : Nat) (_ : Nat) (R : Value → Hp → Prop) : Prop :=
  bc ((s_A).isNone) (rt σ R (.slice none 0 0)) (∃ ys1 : List Int, RdS [.int .i64] σ s_A s_n ys1 ∧ roomy (List.length ([] : List Int) + List.length ys1) (exl 3 [.int .i64] (([] : List Int) ++ ys1) σ (fun A2 l2 c2 σ3 => 
    rt σ3 R (.slice A2 l2 c2))))
def M_slices_Clone_int_an : MAn := (.seq (.txt []) (.seq (.seq (.txt []) (.cond (.seq (.txt []) .leaf) .leaf)) (.seq (.txt []) .leaf)))
set_option maxRecDepth 100000 in
theorem M_slices_Clone_int_ok (σ : Hp) (s_A : Option Addr) (s_n : Nat) (s_c : Nat) (R : Value → Hp → Prop) (h : M_slices_Clone_int σ s_A s_n s_c R) : FCalls Try.prog 81 #[(.slice s_A s_n s_c)] σ R :=
  fcalls_of_M mixed_M3 M_slices_Clone_int_an Try.func81 rfl (by kernel_rfl) (by kernel_rfl) (M := M_slices_Clone_int σ s_A s_n s_c R) (by kernel_rfl) h
theorem M_slices_Clone_int_enter : enterB Try.prog 81 = true := by kernel_rfl

abbrev N_ground_Leave_3 : FuncId := 82
/-- waltzer/ground.Leave$3 -/
def M_ground_Leave_3 (σ : Hp) (k : Int) (cap0 : Option Addr) (cap1 : Option Addr) (cap2 : Option Addr) (R : Value → Hp → Prop) : Prop :=
  dr cap0 (fun b1 o2 => ldS σ b1 o2 (fun A3 l3 _ => ix A3 l3 k 1 (fun b4 a5 => ldI σ .i64 b4 a5 (fun n6 => 
    dr cap0 (fun b7 o8 => ldS σ b7 o8 (fun A9 l9 _ => dr cap1 (fun b10 o11 => ldI σ .i64 b10 o11 (fun n12 => 
    ix A9 l9 n12 1 (fun b13 a14 => ldI σ .i64 b13 a14 (fun n15 => wk .i64 (n15 - 1) (fun n16 => bc (decide (n6 = n16)) (dr cap2 (fun b17 o18 => 
    ldS σ b17 o18 (fun A19 l19 _ => ix A19 l19 k 1 (fun b20 a21 => ldI σ .i64 b20 a21 (fun n22 => rt σ R (.bool (decide (n22 < 4)))))))) (rt σ R (.bool false)))))))))))))
def M_ground_Leave_3_an : MAn := (.seq (.txt []) (.seq (.plan [] (.take 0 ⟨[], false, []⟩ (.take 1 ⟨[], false, []⟩ (.take 2 ⟨[], false, []⟩ (.take 3 ⟨[], false, []⟩ (.take 4 ⟨[], false, []⟩ (.take 5 ⟨[], false, []⟩ (.take 6 ⟨[], false, []⟩ (.take 7 ⟨[], false, []⟩ (.take 8 ⟨[], false, []⟩ (.take 9 ⟨[], false, []⟩ (.take 10 ⟨[], true, []⟩ (.take 11 ⟨[], false, []⟩ (.take 12 ⟨[], false, []⟩ (.take 13 ⟨[], false, []⟩ (.take 14 ⟨[], false, []⟩ (.take 15 ⟨[], false, []⟩ (.take 16 ⟨[], false, []⟩ (.take 17 ⟨[], false, []⟩ .done))))))))))))))))))) .leaf))
set_option maxRecDepth 100000 in
theorem M_ground_Leave_3_ok (σ : Hp) (k : Int) (cap0 : Option Addr) (cap1 : Option Addr) (cap2 : Option Addr) (R : Value → Hp → Prop) (h : M_ground_Leave_3 σ k cap0 cap1 cap2 R) : FCalls Try.prog 82 #[(.int .i64 k), (.pointer cap0), (.pointer cap1), (.pointer cap2)] σ R :=
  fcalls_of_M mixed_M3 M_ground_Leave_3_an Try.func82 rfl (by kernel_rfl) (by kernel_rfl) (M := M_ground_Leave_3 σ k cap0 cap1 cap2 R) (by kernel_rfl) h
theorem M_ground_Leave_3_enter : enterB Try.prog 82 = true := by kernel_rfl

abbrev N_ref04_sum : FuncId := 83
/-- waltzer/waltzerref04.sum -/
def M_ref04_sum (σ : Hp) (l_A : Option Addr) (l_n : Nat) (_ : Nat) (R : Value → Hp → Prop) : Prop :=
  cut (α := Int → Hp → Prop) (fun n4 σ2 => ∀ _ : Nat → Value, rt σ2 R (.int .i64 n4)) (fun J3 => ∃ I7 : Nat → Int → Int → Hp → Prop, (∃ n80, I7 n80 0 0 σ) ∧ 
    ∀ n8 : Nat, ∀ n9 : Int, ∀ n10 : Int, ∀ σ6 : Hp, I7 n8 n9 n10 σ6 → ∀ _ : Nat → Value, bc (decide (n10 < ((l_n : Nat) : Int))) (ix l_A l_n n10 1 (fun b11 a12 => 
    ldI σ6 .i64 b11 a12 (fun n13 => wk .i64 (n9 + n13) (fun n14 => wk .i64 (n10 + 1) (fun n15 => bk σ6 n8 (fun m16 σ17 => 
    I7 m16 n14 n15 σ17)))))) (J3 n9 σ6))
def M_ref04_sum_an : MAn := (.seq (.txt []) (.seq (.txt []) (.cut ⟨[], 0, [.slot 3 (.sc (.int .i64))], []⟩ (.seq (.txt []) (.block (.loop ⟨[], 0, [.slot 3 (.sc (.int .i64)), .slot 4 (.sc (.int .i64))], [(0, true)]⟩ (.seq (.seq (.txt []) (.cond .leaf .leaf)) (.seq (.block (.txt [])) (.txt [])))))) (.seq (.txt []) .leaf))))
set_option maxRecDepth 100000 in
theorem M_ref04_sum_ok (σ : Hp) (l_A : Option Addr) (l_n : Nat) (l_c : Nat) (R : Value → Hp → Prop) (h : M_ref04_sum σ l_A l_n l_c R) : FCalls Try.prog 83 #[(.slice l_A l_n l_c)] σ R :=
  fcalls_of_M mixed_M3 M_ref04_sum_an Try.func83 rfl (by kernel_rfl) (by kernel_rfl) (M := M_ref04_sum σ l_A l_n l_c R) (by kernel_rfl) h
theorem M_ref04_sum_enter : enterB Try.prog 83 = true := by kernel_rfl

abbrev N_ref04_goes : FuncId := 84
/-- waltzer/waltzerref04.goes -/
def M_ref04_goes (σ : Hp) (a0_Wide : Int) (a0_High : Int) (a0_Cells_A : Option Addr) (a0_Cells_n : Nat) (a0_Cells_c : Nat) (a0_Heights_A : Option Addr) (a0_Heights_n : Nat) (a0_Heights_c : Nat) (a1_A : Option Addr) (a1_n : Nat) (_ : Nat) (a2_A : Option Addr) (a2_n : Nat) (_ : Nat) (a3 : Int) (R : Value → Hp → Prop) : Prop :=
  ix a2_A a2_n a3 1 (fun b1 a2 => ldI σ .i64 b1 a2 (fun n3 => bc (decide (n3 = 0)) (rt σ R (.tuple #[])) (ix a0_Cells_A a0_Cells_n a3 1 (fun b4 a5 => 
    ldI σ .i64 b4 a5 (fun n6 => bc (decide (n6 = 3)) (ix a2_A a2_n a3 1 (fun b7 a8 => ldI σ .i64 b7 a8 (fun n9 => 
    wk .i64 (n9 - 1) (fun n10 => ix a2_A a2_n a3 1 (fun b11 a12 => st σ b11 a12 (.int .i64 n10) (fun σ13 => 
    rt σ13 R (.tuple #[]))))))) (cl Try.prog (.func (.func 34) #[] #[]) #[(.agg #[(.int .i64 a0_Wide), (.int .i64 a0_High), (.slice a0_Cells_A a0_Cells_n a0_Cells_c), (.slice a0_Heights_A a0_Heights_n a0_Heights_c)]), (.int .i64 a3)] σ (fun v14 σ15 => 
    ∃ A16 : Option Addr, ∃ l16 : Nat, ∃ c16 : Nat, (v14 = (.slice A16 l16 c16) ∧ adp 3 [.int .i64] A16 l16 c16 σ15 (fun (xs17 : List Int) σ18 => 
    ∃ I22 : Nat → Int → Hp → Prop, (∃ n230, I22 n230 0 σ18) ∧ ∀ n23 : Nat, ∀ n24 : Int, ∀ σ21 : Hp, I22 n23 n24 σ21 → ∀ _ : Nat → Value, bc (decide (n24 < ((List.length xs17 : Nat) : Int))) (cut (α := Hp → Prop) (fun  σ26 => 
    ∀ _ : Nat → Value, wk .i64 (n24 + 1) (fun n28 => bk σ26 n23 (fun m29 σ30 => I22 m29 n28 σ30))) (fun J27 => 
    cut (α := Bool → Hp → Prop) (fun t34 σ32 => ∀ _ : Nat → Value, bc t34 (ix a2_A a2_n a3 1 (fun b35 a36 => 
    ldI σ32 .i64 b35 a36 (fun n37 => wk .i64 (n37 - 1) (fun n38 => ix a2_A a2_n a3 1 (fun b39 a40 => st σ32 b39 a40 (.int .i64 n38) (fun σ41 => 
    (0 ≤ n24 ∧ n24 < ((List.length xs17 : Nat) : Int) ∧ lat xs17 ((n24 : Int).toNat) (fun r42 => ix a2_A a2_n r42 1 (fun b43 a44 => 
    ldI σ41 .i64 b43 a44 (fun n45 => wk .i64 (n45 + 1) (fun n46 => ix a2_A a2_n r42 1 (fun b47 a48 => st σ41 b47 a48 (.int .i64 n46) (fun σ49 => 
    rt σ49 R (.tuple #[])))))))))))))) (J27 σ32)) (fun J33 => (0 ≤ n24 ∧ n24 < ((List.length xs17 : Nat) : Int) ∧ 
    lat xs17 ((n24 : Int).toNat) (fun r50 => ix a1_A a1_n r50 1 (fun b51 a52 => ldI σ21 .i64 b51 a52 (fun n53 => 
    ix a1_A a1_n a3 1 (fun b54 a55 => ldI σ21 .i64 b54 a55 (fun n56 => wk .i64 (n56 - 1) (fun n57 => bc (decide (n53 = n57)) ((0 ≤ n24 ∧ 
    n24 < ((List.length xs17 : Nat) : Int) ∧ lat xs17 ((n24 : Int).toNat) (fun r58 => ix a2_A a2_n r58 1 (fun b59 a60 => 
    ldI σ21 .i64 b59 a60 (fun n61 => J33 (decide (n61 < 4)) σ21))))) (J33 false σ21))))))))))) (rt σ21 R (.tuple #[])))))))))))
def M_ref04_goes_an : MAn := (.seq (.txt []) (.seq (.seq (.txt []) (.cond .leaf .leaf)) (.seq (.seq (.txt []) (.cond (.seq (.txt []) .leaf) .leaf)) (.seq (.txt [⟨[], false, []⟩, ⟨[], false, []⟩, ⟨[], false, [.adl 29 3 [.int .i64]]⟩]) (.seq (.txt []) (.block (.loop ⟨[true, true], 2, [.slot 8 (.hl 1 0), .slot 9 (.sc (.int .i64))], [(1, true), (2, true), (3, true)]⟩ (.seq (.seq (.txt []) (.cond .leaf .leaf)) (.cut ⟨[true, true], 2, [.slot 8 (.hl 1 0)], [(1, true), (2, true), (3, true), (9, true)]⟩ (.block (.cut ⟨[true, true], 2, [.slot 8 (.hl 1 0), .slot 58 (.sc (.bool))], [(1, true), (2, true), (3, true), (9, true)]⟩ (.plan [] (.take 0 ⟨[], false, []⟩ (.take 1 ⟨[], false, []⟩ (.take 2 ⟨[], false, []⟩ (.take 3 ⟨[], false, []⟩ (.take 4 ⟨[], false, []⟩ (.take 5 ⟨[], false, []⟩ (.take 6 ⟨[], false, []⟩ (.take 7 ⟨[], false, []⟩ (.take 8 ⟨[], false, []⟩ (.take 9 ⟨[], false, []⟩ (.take 10 ⟨[], false, []⟩ (.take 11 ⟨[], false, []⟩ (.take 12 ⟨[], false, []⟩ (.take 13 ⟨[], true, []⟩ (.take 14 ⟨[], false, []⟩ (.take 15 ⟨[], false, []⟩ (.take 16 ⟨[], false, []⟩ (.take 17 ⟨[], false, []⟩ (.take 18 ⟨[], false, []⟩ (.take 19 ⟨[], false, []⟩ (.take 20 ⟨[], false, []⟩ (.take 21 ⟨[], false, []⟩ (.take 22 ⟨[], false, []⟩ .done)))))))))))))))))))))))) (.cond (.seq (.txt []) (.seq (.txt []) .leaf)) .leaf))) (.txt []))))))))))
set_option maxRecDepth 100000 in
theorem M_ref04_goes_ok (σ : Hp) (a0_Wide : Int) (a0_High : Int) (a0_Cells_A : Option Addr) (a0_Cells_n : Nat) (a0_Cells_c : Nat) (a0_Heights_A : Option Addr) (a0_Heights_n : Nat) (a0_Heights_c : Nat) (a1_A : Option Addr) (a1_n : Nat) (a1_c : Nat) (a2_A : Option Addr) (a2_n : Nat) (a2_c : Nat) (a3 : Int) (R : Value → Hp → Prop) (h : M_ref04_goes σ a0_Wide a0_High a0_Cells_A a0_Cells_n a0_Cells_c a0_Heights_A a0_Heights_n a0_Heights_c a1_A a1_n a1_c a2_A a2_n a2_c a3 R) : FCalls Try.prog 84 #[(.agg #[(.int .i64 a0_Wide), (.int .i64 a0_High), (.slice a0_Cells_A a0_Cells_n a0_Cells_c), (.slice a0_Heights_A a0_Heights_n a0_Heights_c)]), (.slice a1_A a1_n a1_c), (.slice a2_A a2_n a2_c), (.int .i64 a3)] σ R :=
  fcalls_of_M mixed_M3 M_ref04_goes_an Try.func84 rfl (by kernel_rfl) (by kernel_rfl) (M := M_ref04_goes σ a0_Wide a0_High a0_Cells_A a0_Cells_n a0_Cells_c a0_Heights_A a0_Heights_n a0_Heights_c a1_A a1_n a1_c a2_A a2_n a2_c a3 R) (by kernel_rfl) h
theorem M_ref04_goes_enter : enterB Try.prog 84 = true := by kernel_rfl

abbrev N_ground_withCell_1 : FuncId := 85
/-- waltzer/ground.withCell$1 -/
def M_ground_withCell_1 (σ : Hp) (c : Int) (cap0 : Option Addr) (R : Value → Hp → Prop) : Prop :=
  dr cap0 (fun b1 o2 => ldS σ b1 (o2 + 2) (fun _ l3 _ => wk .i64 (((l3 : Nat) : Int) - 1) (fun n4 => 
    cl Try.prog (.func (.func 58) #[] #[]) #[(.int .i64 c), (.int .i64 0), (.int .i64 n4)] σ (fun v5 σ6 => 
    ∃ t7 : Bool, (v5 = (.bool t7) ∧ rt σ6 R (.bool (!t7)))))))
def M_ground_withCell_1_an : MAn := (.seq (.txt []) (.seq (.txt []) .leaf))
set_option maxRecDepth 100000 in
theorem M_ground_withCell_1_ok (σ : Hp) (c : Int) (cap0 : Option Addr) (R : Value → Hp → Prop) (h : M_ground_withCell_1 σ c cap0 R) : FCalls Try.prog 85 #[(.int .i64 c), (.pointer cap0)] σ R :=
  fcalls_of_M mixed_M3 M_ground_withCell_1_an Try.func85 rfl (by kernel_rfl) (by kernel_rfl) (M := M_ground_withCell_1 σ c cap0 R) (by kernel_rfl) h
theorem M_ground_withCell_1_enter : enterB Try.prog 85 = true := by kernel_rfl

abbrev N_math_bits_Mul : FuncId := 86
/-- math/bits.Mul -/
def M_math_bits_Mul (σ : Hp) (x : Int) (y : Int) (R : Value → Hp → Prop) : Prop :=
  bc false (wk .u32 (x) (fun n1 => wk .u32 (y) (fun n2 => cl Try.prog (.func (.func 98) #[] #[]) #[(.int .u32 n1), (.int .u32 n2)] σ (fun v3 σ4 => 
    ∃ n5 : Int, ∃ n6 : Int, (v3 = (.tuple #[(.int .u32 n5), (.int .u32 n6)]) ∧ wk .u64 (n5) (fun n7 => wk .u64 (n6) (fun n8 => 
    rt σ4 R (.tuple #[(.int .u64 n7), (.int .u64 n8)])))))))) (cl Try.prog (.func (.func 99) #[] #[]) #[(.int .u64 x), (.int .u64 y)] σ (fun v9 σ10 => 
    ∃ n11 : Int, ∃ n12 : Int, (v9 = (.tuple #[(.int .u64 n11), (.int .u64 n12)]) ∧ rt σ10 R (.tuple #[(.int .u64 n11), (.int .u64 n12)]))))
def M_math_bits_Mul_an : MAn := (.seq (.txt []) (.seq (.cond (.seq (.txt []) (.seq (.txt []) .leaf)) .leaf) (.seq (.txt []) (.seq (.txt []) .leaf))))
set_option maxRecDepth 100000 in
theorem M_math_bits_Mul_ok (σ : Hp) (x : Int) (y : Int) (R : Value → Hp → Prop) (h : M_math_bits_Mul σ x y R) : FCalls Try.prog 86 #[(.int .u64 x), (.int .u64 y)] σ R :=
  fcalls_of_M mixed_M3 M_math_bits_Mul_an Try.func86 rfl (by kernel_rfl) (by kernel_rfl) (M := M_math_bits_Mul σ x y R) (by kernel_rfl) h
theorem M_math_bits_Mul_enter : enterB Try.prog 86 = true := by kernel_rfl

abbrev N_ref04_checkGround : FuncId := 87
/-- waltzer/waltzerref04.checkGround -/
def M_ref04_checkGround (σ : Hp) (g_Wide : Int) (g_High : Int) (g_Cells_A : Option Addr) (g_Cells_n : Nat) (_ : Nat) (g_Heights_A : Option Addr) (g_Heights_n : Nat) (_ : Nat) (R : Value → Hp → Prop) : Prop :=
  cut (α := Hp → Prop) (fun  σ2 => ∀ _ : Nat → Value, cut (α := Hp → Prop) (fun  σ5 => ∀ _ : Nat → Value, 
    rt σ5 R (.int .i64 0)) (fun J6 => ∃ I9 : Nat → Int → Hp → Prop, (∃ n100, I9 n100 0 σ2) ∧ ∀ n10 : Nat, ∀ n11 : Int, ∀ σ8 : Hp, I9 n10 n11 σ8 → ∀ _ : Nat → Value, bc (decide (n11 < ((g_Cells_n : Nat) : Int))) (cut (α := Hp → Prop) (fun  σ13 => 
    ∀ _ : Nat → Value, wk .i64 (n11 + 1) (fun n15 => bk σ13 n10 (fun m16 σ17 => I9 m16 n15 σ17))) (fun J14 => 
    cut (α := Bool → Hp → Prop) (fun t21 σ19 => ∀ _ : Nat → Value, bc t21 (rt σ19 R (.int .i64 40)) (J14 σ19)) (fun J20 => 
    ix g_Cells_A g_Cells_n n11 1 (fun b22 a23 => ldI σ8 .i64 b22 a23 (fun n24 => cl Try.prog (.func (.func 53) #[] #[]) #[(.int .i64 n24), (.int .i64 0), (.int .i64 3)] σ8 (fun v25 σ26 => 
    ∃ t27 : Bool, (v25 = (.bool t27) ∧ bc (!t27) (J20 true σ26) (ix g_Heights_A g_Heights_n n11 1 (fun b28 a29 => 
    ldI σ26 .i64 b28 a29 (fun n30 => cl Try.prog (.func (.func 53) #[] #[]) #[(.int .i64 n30), (.int .i64 0), (.int .i64 100)] σ26 (fun v31 σ32 => 
    ∃ t33 : Bool, (v31 = (.bool t33) ∧ J20 (!t33) σ32)))))))))))) (J6 σ8))) (fun J3 => cut (α := Bool → Hp → Prop) (fun t37 σ35 => 
    ∀ _ : Nat → Value, bc t37 (rt σ35 R (.int .i64 40)) (J3 σ35)) (fun J36 => cl Try.prog (.func (.func 53) #[] #[]) #[(.int .i64 g_Wide), (.int .i64 1), (.int .i64 8)] σ (fun v38 σ39 => 
    ∃ t40 : Bool, (v38 = (.bool t40) ∧ bc (!t40) (bc true (bc true (J36 true σ39) (J36 (!decide (((g_Heights_n : Nat) : Int) = ((g_Cells_n : Nat) : Int))) σ39)) (wk .i64 (g_Wide * g_High) (fun n41 => 
    bc (!decide (((g_Cells_n : Nat) : Int) = n41)) (J36 true σ39) (J36 (!decide (((g_Heights_n : Nat) : Int) = ((g_Cells_n : Nat) : Int))) σ39)))) (cl Try.prog (.func (.func 53) #[] #[]) #[(.int .i64 g_High), (.int .i64 1), (.int .i64 8)] σ39 (fun v42 σ43 => 
    ∃ t44 : Bool, (v42 = (.bool t44) ∧ bc (!t44) (bc true (J36 true σ43) (J36 (!decide (((g_Heights_n : Nat) : Int) = ((g_Cells_n : Nat) : Int))) σ43)) (wk .i64 (g_Wide * g_High) (fun n45 => 
    bc (!decide (((g_Cells_n : Nat) : Int) = n45)) (J36 true σ43) (J36 (!decide (((g_Heights_n : Nat) : Int) = ((g_Cells_n : Nat) : Int))) σ43))))))))))
def M_ref04_checkGround_an : MAn := (.seq (.txt []) (.cut ⟨[true], 1, [.slot 1 (.hb 0 0)], []⟩ (.cut ⟨[true], 1, [.slot 1 (.hb 0 0), .slot 33 (.sc (.bool))], []⟩ (.txt [⟨[], false, []⟩, ⟨[], false, []⟩, ⟨[], false, []⟩, ⟨[], false, []⟩, ⟨[], true, []⟩, ⟨[], false, []⟩, ⟨[], false, []⟩, ⟨[], false, []⟩, ⟨[], false, []⟩, ⟨[], false, []⟩, ⟨[], true, []⟩, ⟨[], false, []⟩, ⟨[], false, []⟩, ⟨[], false, []⟩, ⟨[], false, []⟩, ⟨[], false, []⟩, ⟨[], false, []⟩, ⟨[], false, []⟩, ⟨[], false, []⟩, ⟨[], false, []⟩, ⟨[], false, []⟩, ⟨[], true, []⟩]) (.cond (.seq (.txt []) .leaf) .leaf)) (.cut ⟨[true], 1, [], []⟩ (.seq (.txt []) (.block (.loop ⟨[true], 1, [.slot 1 (.hb 0 0), .slot 3 (.sc (.int .i64))], []⟩ (.seq (.seq (.txt []) (.cond .leaf .leaf)) (.cut ⟨[true], 1, [.slot 1 (.hb 0 0)], [(3, true)]⟩ (.block (.cut ⟨[true], 1, [.slot 1 (.hb 0 0), .slot 56 (.sc (.bool))], [(3, true)]⟩ (.txt [⟨[], false, []⟩, ⟨[], false, []⟩, ⟨[], false, []⟩, ⟨[], false, []⟩, ⟨[], false, []⟩, ⟨[], false, []⟩, ⟨[], false, []⟩, ⟨[], true, []⟩]) (.cond (.seq (.txt []) .leaf) .leaf))) (.txt [])))))) (.seq (.txt []) .leaf))))
set_option maxRecDepth 100000 in
theorem M_ref04_checkGround_ok (σ : Hp) (g_Wide : Int) (g_High : Int) (g_Cells_A : Option Addr) (g_Cells_n : Nat) (g_Cells_c : Nat) (g_Heights_A : Option Addr) (g_Heights_n : Nat) (g_Heights_c : Nat) (R : Value → Hp → Prop) (h : M_ref04_checkGround σ g_Wide g_High g_Cells_A g_Cells_n g_Cells_c g_Heights_A g_Heights_n g_Heights_c R) : FCalls Try.prog 87 #[(.agg #[(.int .i64 g_Wide), (.int .i64 g_High), (.slice g_Cells_A g_Cells_n g_Cells_c), (.slice g_Heights_A g_Heights_n g_Heights_c)])] σ R :=
  fcalls_of_M mixed_M3 M_ref04_checkGround_an Try.func87 rfl (by kernel_rfl) (by kernel_rfl) (M := M_ref04_checkGround σ g_Wide g_High g_Cells_A g_Cells_n g_Cells_c g_Heights_A g_Heights_n g_Heights_c R) (by kernel_rfl) h
theorem M_ref04_checkGround_enter : enterB Try.prog 87 = true := by kernel_rfl

abbrev N_ref04_fits : FuncId := 88
/-- waltzer/waltzerref04.fits -/
def M_ref04_fits (σ : Hp) (a0_Wide : Int) (a0_High : Int) (a0_Cells_A : Option Addr) (a0_Cells_n : Nat) (a0_Cells_c : Nat) (a0_Heights_A : Option Addr) (a0_Heights_n : Nat) (a0_Heights_c : Nat) (a1_Wide : Int) (a1_High : Int) (a1_Slope : Int) (a1_Years : Int) (a1_Wish : Int) (a2_Cell : Int) (a2_Turned : Bool) (R : Value → Hp → Prop) : Prop :=
  cl Try.prog (.func (.func 78) #[] #[]) #[(.agg #[(.int .i64 a0_Wide), (.int .i64 a0_High), (.slice a0_Cells_A a0_Cells_n a0_Cells_c), (.slice a0_Heights_A a0_Heights_n a0_Heights_c)]), (.agg #[(.int .i64 a1_Wide), (.int .i64 a1_High), (.int .i64 a1_Slope), (.int .i64 a1_Years), (.int .i64 a1_Wish)]), (.agg #[(.int .i64 a2_Cell), (.bool a2_Turned)])] σ (fun v1 σ2 => 
    ∃ A3 : Option Addr, ∃ l3 : Nat, ∃ c3 : Nat, ∃ t4 : Bool, (v1 = (.tuple #[(.slice A3 l3 c3), (.bool t4)]) ∧ 
    cut (α := Hp → Prop) (fun  σ6 => ∀ _ : Nat → Value, ix A3 l3 0 1 (fun b8 a9 => ldI σ6 .i64 b8 a9 (fun n10 => 
    ix a0_Heights_A a0_Heights_n n10 1 (fun b11 a12 => ldI σ6 .i64 b11 a12 (fun n13 => ix A3 l3 0 1 (fun b14 a15 => 
    ldI σ6 .i64 b14 a15 (fun n16 => ix a0_Heights_A a0_Heights_n n16 1 (fun b17 a18 => ldI σ6 .i64 b17 a18 (fun n19 => 
    cut (α := Int → Int → Hp → Prop) (fun n23 n24 σ21 => ∀ _ : Nat → Value, wk .i64 (n24 - n23) (fun n25 => 
    rt σ21 R (.bool (decide (n25 ≤ a1_Slope))))) (fun J22 => ∃ I28 : Nat → Int → Int → Int → Hp → Prop, (∃ n290, I28 n290 n13 n19 0 σ6) ∧ 
    ∀ n29 : Nat, ∀ n30 : Int, ∀ n31 : Int, ∀ n32 : Int, ∀ σ27 : Hp, I28 n29 n30 n31 n32 σ27 → ∀ _ : Nat → Value, bc (decide (n32 < ((l3 : Nat) : Int))) (ix A3 l3 n32 1 (fun b33 a34 => 
    ldI σ27 .i64 b33 a34 (fun n35 => ix a0_Cells_A a0_Cells_n n35 1 (fun b36 a37 => ldI σ27 .i64 b36 a37 (fun n38 => 
    bc (!decide (n38 = 0)) (rt σ27 R (.bool false)) (ix A3 l3 n32 1 (fun b39 a40 => ldI σ27 .i64 b39 a40 (fun n41 => 
    ix a0_Heights_A a0_Heights_n n41 1 (fun b42 a43 => ldI σ27 .i64 b42 a43 (fun n44 => ix A3 l3 n32 1 (fun b45 a46 => 
    ldI σ27 .i64 b45 a46 (fun n47 => ix a0_Heights_A a0_Heights_n n47 1 (fun b48 a49 => ldI σ27 .i64 b48 a49 (fun n50 => 
    wk .i64 (n32 + 1) (fun n51 => bk σ27 n29 (fun m52 σ53 => I28 m52 (if n44 < n30 then n44 else n30) (if n50 > n31 then n50 else n31) n51 σ53)))))))))))))))) (J22 n30 n31 σ27))))))))))) (fun J7 => 
    cut (α := Bool → Hp → Prop) (fun t57 σ55 => ∀ _ : Nat → Value, bc t57 (rt σ55 R (.bool false)) (J7 σ55)) (fun J56 => 
    bc (!t4) (J56 true σ2) (bc a2_Turned (J56 (decide (a1_Wide = a1_High)) σ2) (J56 false σ2))))))
def M_ref04_fits_an : MAn := (.seq (.txt []) (.seq (.txt []) (.cut ⟨[true, true, true], 3, [.slot 3 (.hb 0 0), .slot 4 (.hb 1 0)], [(7, true)]⟩ (.cut ⟨[true, true, true], 3, [.slot 3 (.hb 0 0), .slot 4 (.hb 1 0), .slot 31 (.sc (.bool))], [(7, true)]⟩ (.txt [⟨[], false, []⟩, ⟨[], false, []⟩, ⟨[], true, []⟩, ⟨[], false, []⟩, ⟨[], false, []⟩, ⟨[], true, []⟩]) (.cond (.seq (.txt []) .leaf) .leaf)) (.seq (.plan [] (.take 0 ⟨[], false, []⟩ (.take 1 ⟨[], false, []⟩ (.take 2 ⟨[], false, []⟩ (.take 3 ⟨[], false, []⟩ (.take 4 ⟨[], false, []⟩ (.take 5 ⟨[], false, []⟩ (.take 6 ⟨[], false, []⟩ (.take 7 ⟨[], false, []⟩ (.take 8 ⟨[], false, []⟩ (.take 9 ⟨[], false, []⟩ (.take 10 ⟨[], false, []⟩ (.take 11 ⟨[], false, []⟩ (.take 12 ⟨[], false, []⟩ (.take 13 ⟨[], false, []⟩ (.take 14 ⟨[], false, []⟩ (.take 15 ⟨[], false, []⟩ .done))))))))))))))))) (.cut ⟨[true, true, true], 3, [.slot 4 (.hb 1 0), .slot 9 (.sc (.int .i64)), .slot 10 (.sc (.int .i64))], []⟩ (.seq (.txt []) (.block (.loop ⟨[true, true, true], 3, [.slot 3 (.hb 0 0), .slot 4 (.hb 1 0), .slot 9 (.sc (.int .i64)), .slot 10 (.sc (.int .i64)), .slot 11 (.sc (.int .i64))], [(7, true)]⟩ (.seq (.seq (.txt []) (.cond .leaf .leaf)) (.seq (.block (.seq (.seq (.plan [] (.take 0 ⟨[], false, []⟩ (.take 1 ⟨[], false, []⟩ (.take 2 ⟨[], false, []⟩ (.take 3 ⟨[], false, []⟩ (.take 4 ⟨[], false, []⟩ (.take 5 ⟨[], false, []⟩ (.take 6 ⟨[], false, []⟩ (.take 7 ⟨[], false, []⟩ (.take 8 ⟨[], false, []⟩ .done)))))))))) (.cond (.seq (.txt []) .leaf) .leaf)) (.seq (.plan [] (.take 0 ⟨[], false, []⟩ (.take 1 ⟨[], false, []⟩ (.take 2 ⟨[], false, []⟩ (.take 3 ⟨[], false, []⟩ (.take 4 ⟨[], false, []⟩ (.take 5 ⟨[], false, []⟩ (.take 6 ⟨[], false, []⟩ (.take 7 ⟨[], false, []⟩ (.take 8 ⟨[], false, []⟩ (.take 9 ⟨[], false, []⟩ (.take 10 ⟨[], false, []⟩ .done)))))))))))) (.plan [] (.take 0 ⟨[], false, []⟩ (.take 1 ⟨[], false, []⟩ (.take 2 ⟨[], false, []⟩ (.take 3 ⟨[], false, []⟩ (.take 4 ⟨[], false, []⟩ (.take 5 ⟨[], false, []⟩ (.take 6 ⟨[], false, []⟩ (.take 7 ⟨[], false, []⟩ (.take 8 ⟨[], false, []⟩ (.take 9 ⟨[], false, []⟩ (.take 10 ⟨[], false, []⟩ .done))))))))))))))) (.txt [])))))) (.seq (.txt []) .leaf))))))
set_option maxRecDepth 100000 in
theorem M_ref04_fits_ok (σ : Hp) (a0_Wide : Int) (a0_High : Int) (a0_Cells_A : Option Addr) (a0_Cells_n : Nat) (a0_Cells_c : Nat) (a0_Heights_A : Option Addr) (a0_Heights_n : Nat) (a0_Heights_c : Nat) (a1_Wide : Int) (a1_High : Int) (a1_Slope : Int) (a1_Years : Int) (a1_Wish : Int) (a2_Cell : Int) (a2_Turned : Bool) (R : Value → Hp → Prop) (h : M_ref04_fits σ a0_Wide a0_High a0_Cells_A a0_Cells_n a0_Cells_c a0_Heights_A a0_Heights_n a0_Heights_c a1_Wide a1_High a1_Slope a1_Years a1_Wish a2_Cell a2_Turned R) : FCalls Try.prog 88 #[(.agg #[(.int .i64 a0_Wide), (.int .i64 a0_High), (.slice a0_Cells_A a0_Cells_n a0_Cells_c), (.slice a0_Heights_A a0_Heights_n a0_Heights_c)]), (.agg #[(.int .i64 a1_Wide), (.int .i64 a1_High), (.int .i64 a1_Slope), (.int .i64 a1_Years), (.int .i64 a1_Wish)]), (.agg #[(.int .i64 a2_Cell), (.bool a2_Turned)])] σ R :=
  fcalls_of_M mixed_M3 M_ref04_fits_an Try.func88 rfl (by kernel_rfl) (by kernel_rfl) (M := M_ref04_fits σ a0_Wide a0_High a0_Cells_A a0_Cells_n a0_Cells_c a0_Heights_A a0_Heights_n a0_Heights_c a1_Wide a1_High a1_Slope a1_Years a1_Wish a2_Cell a2_Turned R) (by kernel_rfl) h
theorem M_ref04_fits_enter : enterB Try.prog 88 = true := by kernel_rfl

abbrev N_ground_field_fits : FuncId := 89
/-- (*waltzer/ground.field).fits -/
def M_ground_field_fits (σ : Hp) (a0 : Option Addr) (a1 : Int) (a2_Cell : Int) (a2_Turned : Bool) (R : Value → Hp → Prop) : Prop :=
  dr a0 (fun b1 o2 => ldS σ b1 (o2 + 4) (fun A3 l3 _ => ix A3 l3 a1 5 (fun b4 a5 => ldI σ .i64 b4 a5 (fun n6 => 
    ldI σ .i64 b4 (a5 + 1) (fun n7 => ldI σ .i64 b4 (a5 + 2) (fun n8 => ldI σ .i64 b4 (a5 + 3) (fun _ => 
    ldI σ .i64 b4 (a5 + 4) (fun _ => cl Try.prog (.func (.func 74) #[] #[]) #[(.pointer a0), (.int .i64 a1), (.agg #[(.int .i64 a2_Cell), (.bool a2_Turned)])] σ (fun v11 σ12 => 
    ∃ A13 : Option Addr, ∃ l13 : Nat, ∃ c13 : Nat, ∃ t14 : Bool, (v11 = (.tuple #[(.slice A13 l13 c13), (.bool t14)]) ∧ 
    cut (α := Hp → Prop) (fun  σ16 => ∀ _ : Nat → Value, dr a0 (fun b18 o19 => ldS σ16 b18 (o19 + 3) (fun A20 l20 _ => 
    ix A13 l13 0 1 (fun b21 a22 => ldI σ16 .i64 b21 a22 (fun n23 => ix A20 l20 n23 1 (fun b24 a25 => ldI σ16 .i64 b24 a25 (fun n26 => 
    dr a0 (fun b27 o28 => ldS σ16 b27 (o28 + 3) (fun A29 l29 _ => ix A13 l13 0 1 (fun b30 a31 => ldI σ16 .i64 b30 a31 (fun n32 => 
    ix A29 l29 n32 1 (fun b33 a34 => ldI σ16 .i64 b33 a34 (fun n35 => cut (α := Int → Int → Hp → Prop) (fun n39 n40 σ37 => 
    ∀ _ : Nat → Value, wk .i64 (n40 - n39) (fun n41 => rt σ37 R (.bool (decide (n41 ≤ n8))))) (fun J38 => 
    ∃ I44 : Nat → Int → Int → Int → Hp → Prop, (∃ n450, I44 n450 n26 n35 0 σ16) ∧ ∀ n45 : Nat, ∀ n46 : Int, ∀ n47 : Int, ∀ n48 : Int, ∀ σ43 : Hp, I44 n45 n46 n47 n48 σ43 → ∀ _ : Nat → Value, bc (decide (n48 < ((l13 : Nat) : Int))) (cut (α := Int → Int → Hp → Prop) (fun n52 n53 σ50 => 
    ∀ _ : Nat → Value, wk .i64 (n48 + 1) (fun n54 => bk σ50 n45 (fun m55 σ56 => I44 m55 n52 n53 n54 σ56))) (fun J51 => 
    ix A13 l13 n48 1 (fun b57 a58 => ldI σ43 .i64 b57 a58 (fun n59 => cut (α := Hp → Prop) (fun  σ61 => ∀ _ : Nat → Value, 
    dr a0 (fun b63 o64 => ldS σ61 b63 (o64 + 3) (fun A65 l65 _ => ix A65 l65 n59 1 (fun b66 a67 => ldI σ61 .i64 b66 a67 (fun n68 => 
    dr a0 (fun b69 o70 => ldS σ61 b69 (o70 + 3) (fun A71 l71 _ => ix A71 l71 n59 1 (fun b72 a73 => ldI σ61 .i64 b72 a73 (fun n74 => 
    J51 (if n68 < n46 then n68 else n46) (if n74 > n47 then n74 else n47) σ61))))))))) (fun J62 => cut (α := Bool → Hp → Prop) (fun t78 σ76 => 
    ∀ _ : Nat → Value, bc t78 (rt σ76 R (.bool false)) (J62 σ76)) (fun J77 => dr a0 (fun b79 o80 => ldS σ43 b79 (o80 + 2) (fun A81 l81 _ => 
    ix A81 l81 n59 1 (fun b82 a83 => ldI σ43 .i64 b82 a83 (fun n84 => bc (!decide (n84 = 0)) (J77 true σ43) (dr a0 (fun b85 o86 => 
    ldS σ43 b85 (o86 + 6) (fun A87 l87 _ => ix A87 l87 n59 1 (fun b88 a89 => ldI σ43 .i64 b88 a89 (fun n90 => 
    J77 (decide ((0 : Int) ≤ n90)) σ43))))))))))))))) (J38 n46 n47 σ43))))))))))))))) (fun J17 => cut (α := Bool → Hp → Prop) (fun t94 σ92 => 
    ∀ _ : Nat → Value, bc t94 (rt σ92 R (.bool false)) (J17 σ92)) (fun J93 => bc (!t14) (J93 true σ12) (bc a2_Turned (J93 (decide (n6 = n7)) σ12) (J93 false σ12))))))))))))))
def M_ground_field_fits_an : MAn := (.seq (.txt []) (.seq (.txt []) (.seq (.txt []) (.cut ⟨[true, true], 2, [.slot 7 (.hb 1 0)], [(0, true), (8, true)]⟩ (.cut ⟨[true, true], 2, [.slot 7 (.hb 1 0), .slot 40 (.sc (.bool))], [(0, true), (8, true)]⟩ (.txt [⟨[], false, []⟩, ⟨[], false, []⟩, ⟨[], true, []⟩, ⟨[], false, []⟩, ⟨[], false, []⟩, ⟨[], true, []⟩]) (.cond (.seq (.txt []) .leaf) .leaf)) (.seq (.plan [] (.take 0 ⟨[], false, []⟩ (.take 1 ⟨[], false, []⟩ (.take 2 ⟨[], false, []⟩ (.take 3 ⟨[], false, []⟩ (.take 4 ⟨[], false, []⟩ (.take 5 ⟨[], false, []⟩ (.take 6 ⟨[], false, []⟩ (.take 7 ⟨[], false, []⟩ (.take 8 ⟨[], false, []⟩ (.take 9 ⟨[], false, []⟩ (.take 10 ⟨[], false, []⟩ (.take 11 ⟨[], false, []⟩ (.take 12 ⟨[], false, []⟩ (.take 13 ⟨[], false, []⟩ (.take 14 ⟨[], false, []⟩ (.take 15 ⟨[], false, []⟩ (.take 16 ⟨[], false, []⟩ (.take 17 ⟨[], false, []⟩ (.take 18 ⟨[], false, []⟩ (.take 19 ⟨[], false, []⟩ (.take 20 ⟨[], false, []⟩ (.take 21 ⟨[], false, []⟩ .done))))))))))))))))))))))) (.cut ⟨[true, true], 2, [.slot 7 (.hb 1 0), .slot 10 (.sc (.int .i64)), .slot 11 (.sc (.int .i64))], []⟩ (.seq (.txt []) (.block (.loop ⟨[true, true], 2, [.slot 7 (.hb 1 0), .slot 10 (.sc (.int .i64)), .slot 11 (.sc (.int .i64)), .slot 63 (.sc (.int .i64))], [(0, true), (61, true), (62, true)]⟩ (.seq (.txt []) (.seq (.cond .leaf .leaf) (.cut ⟨[true, true], 2, [.slot 7 (.hb 1 0), .slot 10 (.sc (.int .i64)), .slot 11 (.sc (.int .i64))], [(0, true), (61, true), (62, true), (63, true)]⟩ (.block (.seq (.txt []) (.cut ⟨[true, true], 2, [.slot 7 (.hb 1 0)], [(0, true), (10, true), (11, true), (13, true), (61, true), (62, true), (63, true)]⟩ (.cut ⟨[true, true], 2, [.slot 7 (.hb 1 0), .slot 85 (.sc (.bool))], [(0, true), (10, true), (11, true), (13, true), (61, true), (62, true), (63, true)]⟩ (.txt [⟨[], false, []⟩, ⟨[], false, []⟩, ⟨[], false, []⟩, ⟨[], false, []⟩, ⟨[], false, []⟩, ⟨[], false, []⟩, ⟨[], false, []⟩, ⟨[], false, []⟩, ⟨[], false, []⟩, ⟨[], true, []⟩]) (.cond (.seq (.txt []) .leaf) .leaf)) (.plan [] (.take 0 ⟨[], false, []⟩ (.take 1 ⟨[], false, []⟩ (.take 2 ⟨[], false, []⟩ (.take 3 ⟨[], false, []⟩ (.take 4 ⟨[], false, []⟩ (.take 5 ⟨[], false, []⟩ (.take 6 ⟨[], false, []⟩ (.take 7 ⟨[], false, []⟩ (.take 8 ⟨[], false, []⟩ (.take 9 ⟨[], false, []⟩ (.take 10 ⟨[], false, []⟩ (.take 11 ⟨[], false, []⟩ (.take 12 ⟨[], false, []⟩ (.take 13 ⟨[], false, []⟩ (.take 14 ⟨[], false, []⟩ (.take 15 ⟨[], false, []⟩ (.take 16 ⟨[], false, []⟩ (.take 17 ⟨[], false, []⟩ (.take 18 ⟨[], false, []⟩ (.take 19 ⟨[], false, []⟩ (.take 20 ⟨[], false, []⟩ (.take 21 ⟨[], false, []⟩ .done)))))))))))))))))))))))))) (.txt []))))))) (.seq (.txt []) .leaf)))))))
set_option maxRecDepth 100000 in
theorem M_ground_field_fits_ok (σ : Hp) (a0 : Option Addr) (a1 : Int) (a2_Cell : Int) (a2_Turned : Bool) (R : Value → Hp → Prop) (h : M_ground_field_fits σ a0 a1 a2_Cell a2_Turned R) : FCalls Try.prog 89 #[(.pointer a0), (.int .i64 a1), (.agg #[(.int .i64 a2_Cell), (.bool a2_Turned)])] σ R :=
  fcalls_of_M mixed_M3 M_ground_field_fits_an Try.func89 rfl (by kernel_rfl) (by kernel_rfl) (M := M_ground_field_fits σ a0 a1 a2_Cell a2_Turned R) (by kernel_rfl) h
theorem M_ground_field_fits_enter : enterB Try.prog 89 = true := by kernel_rfl

abbrev N_ground_field_where_1 : FuncId := 90
/-- (*waltzer/ground.field).where$1 -/
def M_ground_field_where_1 (σ : Hp) (yield : Value) (cap0 : Option Addr) (cap1 : Option Addr) (R : Value → Hp → Prop) : Prop :=
  dr cap0 (fun b1 o2 => ldP σ b1 o2 (fun p3 => dr p3 (fun b4 o5 => ldS σ b4 (o5 + 2) (fun _ l6 _ => ∃ I10 : Nat → Int → Hp → Prop, (∃ n110, I10 n110 0 σ) ∧ 
    ∀ n11 : Nat, ∀ n12 : Int, ∀ σ9 : Hp, I10 n11 n12 σ9 → ∀ _ : Nat → Value, bc (decide (n12 < ((l6 : Nat) : Int))) (cut (α := Hp → Prop) (fun  σ14 => 
    ∀ _ : Nat → Value, wk .i64 (n12 + 1) (fun n16 => bk σ14 n11 (fun m17 σ18 => I10 m17 n16 σ18))) (fun J15 => 
    ∃ I21 : Nat → Int → Hp → Prop, (∃ n220, I21 n220 0 σ9) ∧ ∀ n22 : Nat, ∀ n23 : Int, ∀ σ20 : Hp, I21 n22 n23 σ20 → ∀ _ : Nat → Value, bc (decide (n23 < 2)) (cut (α := Hp → Prop) (fun  σ25 => 
    ∀ _ : Nat → Value, wk .i64 (n23 + 1) (fun n27 => bk σ25 n22 (fun m28 σ29 => I21 m28 n27 σ29))) (fun J26 => 
    (0 ≤ n23 ∧ n23 < ((2 : Nat) : Int) ∧ ∃ t30 : Bool, (#[(.bool false), (.bool true)] : Array Value)[(n23 : Int).toNat * 1]? = some (.bool t30) ∧ 
    cut (α := Bool → Hp → Prop) (fun t34 σ32 => ∀ _ : Nat → Value, bc t34 (rt σ32 R (.tuple #[])) (J26 σ32)) (fun J33 => 
    dr cap0 (fun b35 o36 => ldP σ20 b35 o36 (fun p37 => dr cap1 (fun b38 o39 => ldI σ20 .i64 b38 o39 (fun n40 => 
    cl Try.prog (.func (.func 89) #[] #[]) #[(.pointer p37), (.int .i64 n40), (.agg #[(.int .i64 n12), (.bool t30)])] σ20 (fun v41 σ42 => 
    ∃ t43 : Bool, (v41 = (.bool t43) ∧ bc t43 (cl Try.prog yield #[(.agg #[(.int .i64 n12), (.bool t30)])] σ42 (fun v44 σ45 => 
    ∃ t46 : Bool, (v44 = (.bool t46) ∧ J33 (!t46) σ45))) (J33 false σ42))))))))))) (J15 σ20))) (rt σ9 R (.tuple #[]))))))
def M_ground_field_where_1_an : MAn := (.seq (.txt []) (.block (.loop ⟨[], 0, [.slot 14 (.sc (.int .i64))], [(0, false), (1, true), (2, true), (13, true)]⟩ (.seq (.txt []) (.seq (.cond .leaf .leaf) (.cut ⟨[], 0, [], [(0, false), (1, true), (2, true), (13, true), (14, true)]⟩ (.block (.seq (.txt []) (.seq (.txt []) (.block (.loop ⟨[], 0, [.slot 18 (.sc (.int .i64))], [(0, false), (1, true), (2, true), (4, true), (13, true), (14, true), (17, true)]⟩ (.seq (.txt []) (.seq (.cond .leaf .leaf) (.cut ⟨[], 0, [], [(0, false), (1, true), (2, true), (4, true), (13, true), (14, true), (17, true), (18, true)]⟩ (.block (.seq (.txt []) (.seq (.txt []) (.cut ⟨[true], 1, [.slot 33 (.sc (.bool))], [(0, false), (1, true), (2, true), (4, true), (13, true), (14, true), (17, true), (18, true)]⟩ (.txt [⟨[], false, []⟩, ⟨[], false, []⟩, ⟨[], false, []⟩, ⟨[], false, []⟩, ⟨[], true, []⟩]) (.cond .leaf .leaf))))) (.txt []))))))))) (.txt [])))))))
set_option maxRecDepth 100000 in
theorem M_ground_field_where_1_ok (σ : Hp) (yield : Value) (cap0 : Option Addr) (cap1 : Option Addr) (R : Value → Hp → Prop) (h : M_ground_field_where_1 σ yield cap0 cap1 R) : FCalls Try.prog 90 #[yield, (.pointer cap0), (.pointer cap1)] σ R :=
  fcalls_of_M mixed_M3 M_ground_field_where_1_an Try.func90 rfl (by kernel_rfl) (by kernel_rfl) (M := M_ground_field_where_1 σ yield cap0 cap1 R) (by kernel_rfl) h
theorem M_ground_field_where_1_enter : enterB Try.prog 90 = true := by kernel_rfl

abbrev N_ground_grounded : FuncId := 91
/-- waltzer/ground.grounded -/
def M_ground_grounded (σ : Hp) (g_Wide : Int) (g_High : Int) (g_Cells_A : Option Addr) (g_Cells_n : Nat) (g_Cells_c : Nat) (g_Heights_A : Option Addr) (g_Heights_n : Nat) (g_Heights_c : Nat) (R : Value → Hp → Prop) : Prop :=
  cut (α := Hp → Prop) (fun  σ2 => ∀ _ : Nat → Value, cl Try.prog (.func (.func 76) #[] #[]) #[(.slice g_Cells_A g_Cells_n g_Cells_c), (.func (.func 100) #[] #[])] σ2 (fun v4 σ5 => 
    ∃ t6 : Bool, (v4 = (.bool t6) ∧ bc (!t6) (cl Try.prog (.func (.func 76) #[] #[]) #[(.slice g_Heights_A g_Heights_n g_Heights_c), (.func (.func 101) #[] #[])] σ5 (fun v7 σ8 => 
    ∃ t9 : Bool, (v7 = (.bool t9) ∧ rt σ8 R (.bool (!t9))))) (rt σ5 R (.bool false))))) (fun J3 => cut (α := Bool → Hp → Prop) (fun t13 σ11 => 
    ∀ _ : Nat → Value, bc t13 (rt σ11 R (.bool false)) (J3 σ11)) (fun J12 => cl Try.prog (.func (.func 58) #[] #[]) #[(.int .i64 g_Wide), (.int .i64 1), (.int .i64 8)] σ (fun v14 σ15 => 
    ∃ t16 : Bool, (v14 = (.bool t16) ∧ bc (!t16) (bc true (bc true (J12 true σ15) (J12 (!decide (((g_Heights_n : Nat) : Int) = ((g_Cells_n : Nat) : Int))) σ15)) (wk .i64 (g_Wide * g_High) (fun n17 => 
    bc (!decide (((g_Cells_n : Nat) : Int) = n17)) (J12 true σ15) (J12 (!decide (((g_Heights_n : Nat) : Int) = ((g_Cells_n : Nat) : Int))) σ15)))) (cl Try.prog (.func (.func 58) #[] #[]) #[(.int .i64 g_High), (.int .i64 1), (.int .i64 8)] σ15 (fun v18 σ19 => 
    ∃ t20 : Bool, (v18 = (.bool t20) ∧ bc (!t20) (bc true (J12 true σ19) (J12 (!decide (((g_Heights_n : Nat) : Int) = ((g_Cells_n : Nat) : Int))) σ19)) (wk .i64 (g_Wide * g_High) (fun n21 => 
    bc (!decide (((g_Cells_n : Nat) : Int) = n21)) (J12 true σ19) (J12 (!decide (((g_Heights_n : Nat) : Int) = ((g_Cells_n : Nat) : Int))) σ19))))))))))
def M_ground_grounded_an : MAn := (.seq (.txt []) (.cut ⟨[true], 1, [.slot 1 (.hb 0 0)], []⟩ (.cut ⟨[true], 1, [.slot 1 (.hb 0 0), .slot 32 (.sc (.bool))], []⟩ (.txt [⟨[], false, []⟩, ⟨[], false, []⟩, ⟨[], false, []⟩, ⟨[], false, []⟩, ⟨[], true, []⟩, ⟨[], false, []⟩, ⟨[], false, []⟩, ⟨[], false, []⟩, ⟨[], false, []⟩, ⟨[], false, []⟩, ⟨[], true, []⟩, ⟨[], false, []⟩, ⟨[], false, []⟩, ⟨[], false, []⟩, ⟨[], false, []⟩, ⟨[], false, []⟩, ⟨[], false, []⟩, ⟨[], false, []⟩, ⟨[], false, []⟩, ⟨[], false, []⟩, ⟨[], false, []⟩, ⟨[], true, []⟩]) (.cond (.seq (.txt []) .leaf) .leaf)) (.seq (.txt [⟨[], false, []⟩, ⟨[], false, []⟩, ⟨[], false, []⟩, ⟨[], false, []⟩, ⟨[], true, []⟩]) .leaf)))
set_option maxRecDepth 100000 in
theorem M_ground_grounded_ok (σ : Hp) (g_Wide : Int) (g_High : Int) (g_Cells_A : Option Addr) (g_Cells_n : Nat) (g_Cells_c : Nat) (g_Heights_A : Option Addr) (g_Heights_n : Nat) (g_Heights_c : Nat) (R : Value → Hp → Prop) (h : M_ground_grounded σ g_Wide g_High g_Cells_A g_Cells_n g_Cells_c g_Heights_A g_Heights_n g_Heights_c R) : FCalls Try.prog 91 #[(.agg #[(.int .i64 g_Wide), (.int .i64 g_High), (.slice g_Cells_A g_Cells_n g_Cells_c), (.slice g_Heights_A g_Heights_n g_Heights_c)])] σ R :=
  fcalls_of_M mixed_M3 M_ground_grounded_an Try.func91 rfl (by kernel_rfl) (by kernel_rfl) (M := M_ground_grounded σ g_Wide g_High g_Cells_A g_Cells_n g_Cells_c g_Heights_A g_Heights_n g_Heights_c R) (by kernel_rfl) h
theorem M_ground_grounded_enter : enterB Try.prog 91 = true := by kernel_rfl

abbrev N_slices_IndexFunc_api_Pitch : FuncId := 92
/-- slices.IndexFunc[[]waltzer/api.Pitch,waltzer/api.Pitch] -/
def M_slices_IndexFunc_api_Pitch (σ : Hp) (s_A : Option Addr) (s_n : Nat) (_ : Nat) (f : Value) (R : Value → Hp → Prop) : Prop :=
  cut (α := Hp → Prop) (fun  σ2 => ∀ _ : Nat → Value, rt σ2 R (.int .i64 (-1))) (fun J3 => ∃ I6 : Nat → Int → Hp → Prop, (∃ n70, I6 n70 0 σ) ∧ 
    ∀ n7 : Nat, ∀ n8 : Int, ∀ σ5 : Hp, I6 n7 n8 σ5 → ∀ _ : Nat → Value, bc (decide (n8 < ((s_n : Nat) : Int))) (ix s_A s_n n8 5 (fun b9 a10 => 
    ldI σ5 .i64 b9 a10 (fun n11 => ldI σ5 .i64 b9 (a10 + 1) (fun n12 => ldI σ5 .i64 b9 (a10 + 2) (fun n13 => 
    ldI σ5 .i64 b9 (a10 + 3) (fun n14 => ldI σ5 .i64 b9 (a10 + 4) (fun n15 => cl Try.prog f #[(.agg #[(.int .i64 n11), (.int .i64 n12), (.int .i64 n13), (.int .i64 n14), (.int .i64 n15)])] σ5 (fun v16 σ17 => 
    ∃ t18 : Bool, (v16 = (.bool t18) ∧ bc t18 (rt σ17 R (.int .i64 n8)) (wk .i64 (n8 + 1) (fun n19 => bk σ17 n7 (fun m20 σ21 => 
    I6 m20 n19 σ21)))))))))))) (J3 σ5))
def M_slices_IndexFunc_api_Pitch_an : MAn := (.seq (.txt []) (.cut ⟨[], 0, [], []⟩ (.seq (.txt []) (.block (.loop ⟨[], 0, [.slot 8 (.sc (.int .i64))], [(0, true), (1, false), (7, true)]⟩ (.seq (.txt []) (.seq (.cond .leaf .leaf) (.seq (.block (.seq (.txt []) (.seq (.txt []) (.cond (.seq (.txt []) .leaf) .leaf)))) (.txt []))))))) (.seq (.txt []) .leaf)))
set_option maxRecDepth 100000 in
theorem M_slices_IndexFunc_api_Pitch_ok (σ : Hp) (s_A : Option Addr) (s_n : Nat) (s_c : Nat) (f : Value) (R : Value → Hp → Prop) (h : M_slices_IndexFunc_api_Pitch σ s_A s_n s_c f R) : FCalls Try.prog 92 #[(.slice s_A s_n s_c), f] σ R :=
  fcalls_of_M mixed_M3 M_slices_IndexFunc_api_Pitch_an Try.func92 rfl (by kernel_rfl) (by kernel_rfl) (M := M_slices_IndexFunc_api_Pitch σ s_A s_n s_c f R) (by kernel_rfl) h
theorem M_slices_IndexFunc_api_Pitch_enter : enterB Try.prog 92 = true := by kernel_rfl

abbrev N_ground_empty_1 : FuncId := 93
/-- waltzer/ground.empty$1 -/
def M_ground_empty_1 (σ : Hp) (p_Wide : Int) (p_High : Int) (p_Slope : Int) (p_Years : Int) (p_Wish : Int) (cap0 : Option Addr) (R : Value → Hp → Prop) : Prop :=
  dr cap0 (fun b1 o2 => ldI σ .i64 b1 o2 (fun n3 => ldI σ .i64 b1 (o2 + 1) (fun n4 => ldS σ b1 (o2 + 2) (fun A5 l5 c5 => 
    ldS σ b1 (o2 + 3) (fun A6 l6 c6 => cl Try.prog (.func (.func 94) #[] #[]) #[(.agg #[(.int .i64 n3), (.int .i64 n4), (.slice A5 l5 c5), (.slice A6 l6 c6)]), (.agg #[(.int .i64 p_Wide), (.int .i64 p_High), (.int .i64 p_Slope), (.int .i64 p_Years), (.int .i64 p_Wish)])] σ (fun v7 σ8 => 
    ∃ t9 : Bool, (v7 = (.bool t9) ∧ rt σ8 R (.bool (!t9)))))))))
def M_ground_empty_1_an : MAn := (.seq (.txt []) (.seq (.txt []) .leaf))
set_option maxRecDepth 100000 in
theorem M_ground_empty_1_ok (σ : Hp) (p_Wide : Int) (p_High : Int) (p_Slope : Int) (p_Years : Int) (p_Wish : Int) (cap0 : Option Addr) (R : Value → Hp → Prop) (h : M_ground_empty_1 σ p_Wide p_High p_Slope p_Years p_Wish cap0 R) : FCalls Try.prog 93 #[(.agg #[(.int .i64 p_Wide), (.int .i64 p_High), (.int .i64 p_Slope), (.int .i64 p_Years), (.int .i64 p_Wish)]), (.pointer cap0)] σ R :=
  fcalls_of_M mixed_M3 M_ground_empty_1_an Try.func93 rfl (by kernel_rfl) (by kernel_rfl) (M := M_ground_empty_1 σ p_Wide p_High p_Slope p_Years p_Wish cap0 R) (by kernel_rfl) h
theorem M_ground_empty_1_enter : enterB Try.prog 93 = true := by kernel_rfl

abbrev N_ground_pitched : FuncId := 94
/-- waltzer/ground.pitched -/
def M_ground_pitched (σ : Hp) (_ : Int) (_ : Int) (_ : Option Addr) (g_Cells_n : Nat) (_ : Nat) (_ : Option Addr) (_ : Nat) (_ : Nat) (p_Wide : Int) (p_High : Int) (p_Slope : Int) (p_Years : Int) (p_Wish : Int) (R : Value → Hp → Prop) : Prop :=
  cl Try.prog (.func (.func 58) #[] #[]) #[(.int .i64 p_Wide), (.int .i64 1), (.int .i64 8)] σ (fun v1 σ2 => 
    ∃ t3 : Bool, (v1 = (.bool t3) ∧ bc t3 (cl Try.prog (.func (.func 58) #[] #[]) #[(.int .i64 p_High), (.int .i64 1), (.int .i64 8)] σ2 (fun v4 σ5 => 
    ∃ t6 : Bool, (v4 = (.bool t6) ∧ bc t6 (cl Try.prog (.func (.func 58) #[] #[]) #[(.int .i64 p_Slope), (.int .i64 0), (.int .i64 100)] σ5 (fun v7 σ8 => 
    ∃ t9 : Bool, (v7 = (.bool t9) ∧ bc t9 (cl Try.prog (.func (.func 58) #[] #[]) #[(.int .i64 p_Years), (.int .i64 0), (.int .i64 1000)] σ8 (fun v10 σ11 => 
    ∃ t12 : Bool, (v10 = (.bool t12) ∧ bc t12 (wk .i64 (((g_Cells_n : Nat) : Int) - 1) (fun n13 => cl Try.prog (.func (.func 58) #[] #[]) #[(.int .i64 p_Wish), (.int .i64 (-1)), (.int .i64 n13)] σ11 (fun v14 σ15 => 
    ∃ t16 : Bool, (v14 = (.bool t16) ∧ rt σ15 R (.bool t16))))) (rt σ11 R (.bool false))))) (bc false (wk .i64 (((g_Cells_n : Nat) : Int) - 1) (fun n17 => 
    cl Try.prog (.func (.func 58) #[] #[]) #[(.int .i64 p_Wish), (.int .i64 (-1)), (.int .i64 n17)] σ8 (fun v18 σ19 => 
    ∃ t20 : Bool, (v18 = (.bool t20) ∧ rt σ19 R (.bool t20))))) (rt σ8 R (.bool false)))))) (bc false (cl Try.prog (.func (.func 58) #[] #[]) #[(.int .i64 p_Years), (.int .i64 0), (.int .i64 1000)] σ5 (fun v21 σ22 => 
    ∃ t23 : Bool, (v21 = (.bool t23) ∧ bc t23 (wk .i64 (((g_Cells_n : Nat) : Int) - 1) (fun n24 => cl Try.prog (.func (.func 58) #[] #[]) #[(.int .i64 p_Wish), (.int .i64 (-1)), (.int .i64 n24)] σ22 (fun v25 σ26 => 
    ∃ t27 : Bool, (v25 = (.bool t27) ∧ rt σ26 R (.bool t27))))) (rt σ22 R (.bool false))))) (bc false (wk .i64 (((g_Cells_n : Nat) : Int) - 1) (fun n28 => 
    cl Try.prog (.func (.func 58) #[] #[]) #[(.int .i64 p_Wish), (.int .i64 (-1)), (.int .i64 n28)] σ5 (fun v29 σ30 => 
    ∃ t31 : Bool, (v29 = (.bool t31) ∧ rt σ30 R (.bool t31))))) (rt σ5 R (.bool false))))))) (bc false (cl Try.prog (.func (.func 58) #[] #[]) #[(.int .i64 p_Slope), (.int .i64 0), (.int .i64 100)] σ2 (fun v32 σ33 => 
    ∃ t34 : Bool, (v32 = (.bool t34) ∧ bc t34 (cl Try.prog (.func (.func 58) #[] #[]) #[(.int .i64 p_Years), (.int .i64 0), (.int .i64 1000)] σ33 (fun v35 σ36 => 
    ∃ t37 : Bool, (v35 = (.bool t37) ∧ bc t37 (wk .i64 (((g_Cells_n : Nat) : Int) - 1) (fun n38 => cl Try.prog (.func (.func 58) #[] #[]) #[(.int .i64 p_Wish), (.int .i64 (-1)), (.int .i64 n38)] σ36 (fun v39 σ40 => 
    ∃ t41 : Bool, (v39 = (.bool t41) ∧ rt σ40 R (.bool t41))))) (rt σ36 R (.bool false))))) (bc false (wk .i64 (((g_Cells_n : Nat) : Int) - 1) (fun n42 => 
    cl Try.prog (.func (.func 58) #[] #[]) #[(.int .i64 p_Wish), (.int .i64 (-1)), (.int .i64 n42)] σ33 (fun v43 σ44 => 
    ∃ t45 : Bool, (v43 = (.bool t45) ∧ rt σ44 R (.bool t45))))) (rt σ33 R (.bool false)))))) (bc false (cl Try.prog (.func (.func 58) #[] #[]) #[(.int .i64 p_Years), (.int .i64 0), (.int .i64 1000)] σ2 (fun v46 σ47 => 
    ∃ t48 : Bool, (v46 = (.bool t48) ∧ bc t48 (wk .i64 (((g_Cells_n : Nat) : Int) - 1) (fun n49 => cl Try.prog (.func (.func 58) #[] #[]) #[(.int .i64 p_Wish), (.int .i64 (-1)), (.int .i64 n49)] σ47 (fun v50 σ51 => 
    ∃ t52 : Bool, (v50 = (.bool t52) ∧ rt σ51 R (.bool t52))))) (rt σ47 R (.bool false))))) (bc false (wk .i64 (((g_Cells_n : Nat) : Int) - 1) (fun n53 => 
    cl Try.prog (.func (.func 58) #[] #[]) #[(.int .i64 p_Wish), (.int .i64 (-1)), (.int .i64 n53)] σ2 (fun v54 σ55 => 
    ∃ t56 : Bool, (v54 = (.bool t56) ∧ rt σ55 R (.bool t56))))) (rt σ2 R (.bool false)))))))
def M_ground_pitched_an : MAn := (.seq (.txt []) (.seq (.txt [⟨[], false, []⟩, ⟨[], false, []⟩, ⟨[], false, []⟩, ⟨[], true, []⟩, ⟨[], false, []⟩, ⟨[], false, []⟩, ⟨[], false, []⟩, ⟨[], false, []⟩, ⟨[], true, []⟩, ⟨[], false, []⟩, ⟨[], false, []⟩, ⟨[], false, []⟩, ⟨[], false, []⟩, ⟨[], true, []⟩, ⟨[], false, []⟩, ⟨[], false, []⟩, ⟨[], false, []⟩, ⟨[], false, []⟩, ⟨[], true, []⟩]) .leaf))
set_option maxRecDepth 100000 in
theorem M_ground_pitched_ok (σ : Hp) (g_Wide : Int) (g_High : Int) (g_Cells_A : Option Addr) (g_Cells_n : Nat) (g_Cells_c : Nat) (g_Heights_A : Option Addr) (g_Heights_n : Nat) (g_Heights_c : Nat) (p_Wide : Int) (p_High : Int) (p_Slope : Int) (p_Years : Int) (p_Wish : Int) (R : Value → Hp → Prop) (h : M_ground_pitched σ g_Wide g_High g_Cells_A g_Cells_n g_Cells_c g_Heights_A g_Heights_n g_Heights_c p_Wide p_High p_Slope p_Years p_Wish R) : FCalls Try.prog 94 #[(.agg #[(.int .i64 g_Wide), (.int .i64 g_High), (.slice g_Cells_A g_Cells_n g_Cells_c), (.slice g_Heights_A g_Heights_n g_Heights_c)]), (.agg #[(.int .i64 p_Wide), (.int .i64 p_High), (.int .i64 p_Slope), (.int .i64 p_Years), (.int .i64 p_Wish)])] σ R :=
  fcalls_of_M mixed_M3 M_ground_pitched_an Try.func94 rfl (by kernel_rfl) (by kernel_rfl) (M := M_ground_pitched σ g_Wide g_High g_Cells_A g_Cells_n g_Cells_c g_Heights_A g_Heights_n g_Heights_c p_Wide p_High p_Slope p_Years p_Wish R) (by kernel_rfl) h
theorem M_ground_pitched_enter : enterB Try.prog 94 = true := by kernel_rfl

end Go.Proofs.Ytmpkiaghkhhlhaa

/- M-forms, printed by wip/gen/genm.py out of the translation: each function as a proposition over its local objects, with the lemma that it is what the function does. -/
namespace Go.Proofs.Ytmpkiaghkhhlhaa
open Go.RowKit

theorem mixed_M4 : Try.prog.follows .mixedOrders = true := by kernel_rfl

abbrev N_slices_stableCmpFunc_int : FuncId := 96
/-- slices.stableCmpFunc[int] -/
def M_slices_stableCmpFunc_int (σ : Hp) (data_A : Option Addr) (data_n : Nat) (data_c : Nat) (n : Int) (cmp : Value) (R : Value → Hp → Prop) : Prop :=
  cut (α := Int → Hp → Prop) (fun n4 σ2 => ∀ _ : Nat → Value, cl Try.prog (.func (.func 102) #[] #[]) #[(.slice data_A data_n data_c), (.int .i64 n4), (.int .i64 n), cmp] σ2 (fun _ σ6 => 
    ∃ I10 : Nat → Int → Hp → Prop, (∃ n110, I10 n110 20 σ6) ∧ ∀ n11 : Nat, ∀ n12 : Int, ∀ σ9 : Hp, I10 n11 n12 σ9 → ∀ _ : Nat → Value, bc (decide (n12 < n)) (wk .i64 (2 * n12) (fun n13 => 
    cut (α := Int → Hp → Prop) (fun n17 σ15 => ∀ _ : Nat → Value, cut (α := Hp → Prop) (fun  σ19 => ∀ _ : Nat → Value, 
    wk .i64 (n12 * 2) (fun n21 => bk σ19 n11 (fun m22 σ23 => I10 m22 n21 σ23))) (fun J20 => wk .i64 (n17 + n12) (fun n24 => 
    bc (decide (n24 < n)) (cl Try.prog (.func (.func 103) #[] #[]) #[(.slice data_A data_n data_c), (.int .i64 n17), (.int .i64 n24), (.int .i64 n), cmp] σ15 (fun _ σ26 => 
    J20 σ26)) (J20 σ15)))) (fun J16 => ∃ I29 : Nat → Int → Int → Hp → Prop, (∃ n300, I29 n300 0 n13 σ9) ∧ 
    ∀ n30 : Nat, ∀ n31 : Int, ∀ n32 : Int, ∀ σ28 : Hp, I29 n30 n31 n32 σ28 → ∀ _ : Nat → Value, bc (decide (n32 ≤ n)) (wk .i64 (n31 + n12) (fun n33 => 
    cl Try.prog (.func (.func 103) #[] #[]) #[(.slice data_A data_n data_c), (.int .i64 n31), (.int .i64 n33), (.int .i64 n32), cmp] σ28 (fun _ σ35 => 
    wk .i64 (2 * n12) (fun n36 => wk .i64 (n32 + n36) (fun n37 => bk σ35 n30 (fun m38 σ39 => I29 m38 n32 n37 σ39)))))) (J16 n31 σ28)))) (rt σ9 R (.tuple #[])))) (fun J3 => 
    ∃ I42 : Nat → Int → Int → Hp → Prop, (∃ n430, I42 n430 0 20 σ) ∧ ∀ n43 : Nat, ∀ n44 : Int, ∀ n45 : Int, ∀ σ41 : Hp, I42 n43 n44 n45 σ41 → ∀ _ : Nat → Value, bc (decide (n45 ≤ n)) (cl Try.prog (.func (.func 102) #[] #[]) #[(.slice data_A data_n data_c), (.int .i64 n44), (.int .i64 n45), cmp] σ41 (fun _ σ47 => 
    wk .i64 (n45 + 20) (fun n48 => bk σ47 n43 (fun m49 σ50 => I42 m49 n45 n48 σ50)))) (J3 n44 σ41))
def M_slices_stableCmpFunc_int_an : MAn := (.seq (.txt []) (.seq (.txt []) (.cut ⟨[], 0, [.slot 7 (.sc (.int .i64))], [(0, true), (1, true), (2, false), (6, true)]⟩ (.block (.loop ⟨[], 0, [.slot 7 (.sc (.int .i64)), .slot 8 (.sc (.int .i64))], [(0, true), (1, true), (2, false), (6, true)]⟩ (.seq (.seq (.txt []) (.cond .leaf .leaf)) (.block (.seq (.txt []) (.seq (.txt []) (.txt []))))))) (.seq (.txt []) (.block (.loop ⟨[], 0, [.slot 6 (.sc (.int .i64))], [(0, true), (1, true), (2, false)]⟩ (.seq (.seq (.txt []) (.cond .leaf .leaf)) (.block (.seq (.txt []) (.cut ⟨[], 0, [.slot 7 (.sc (.int .i64))], [(0, true), (1, true), (2, false), (6, true)]⟩ (.block (.loop ⟨[], 0, [.slot 7 (.sc (.int .i64)), .slot 8 (.sc (.int .i64))], [(0, true), (1, true), (2, false), (6, true)]⟩ (.seq (.seq (.txt []) (.cond .leaf .leaf)) (.block (.seq (.txt []) (.seq (.txt []) (.txt []))))))) (.cut ⟨[], 0, [], [(0, true), (1, true), (2, false), (6, true)]⟩ (.seq (.txt []) (.seq (.txt []) (.cond (.txt []) .leaf))) (.txt []))))))))))))
set_option maxRecDepth 100000 in
theorem M_slices_stableCmpFunc_int_ok (σ : Hp) (data_A : Option Addr) (data_n : Nat) (data_c : Nat) (n : Int) (cmp : Value) (R : Value → Hp → Prop) (h : M_slices_stableCmpFunc_int σ data_A data_n data_c n cmp R) : FCalls Try.prog 96 #[(.slice data_A data_n data_c), (.int .i64 n), cmp] σ R :=
  fcalls_of_M mixed_M4 M_slices_stableCmpFunc_int_an Try.func96 rfl (by kernel_rfl) (by kernel_rfl) (M := M_slices_stableCmpFunc_int σ data_A data_n data_c n cmp R) (by kernel_rfl) h
theorem M_slices_stableCmpFunc_int_enter : enterB Try.prog 96 = true := by kernel_rfl

abbrev N_ground_field_trapped_1 : FuncId := 97
/-- (*waltzer/ground.field).trapped$1 -/
def M_ground_field_trapped_1 (σ : Hp) (c : Int) (cap0 : Option Addr) (cap1 : Option Addr) (cap2 : Option Addr) (R : Value → Hp → Prop) : Prop :=
  dr cap0 (fun b1 o2 => ldP σ b1 o2 (fun p3 => cl Try.prog (.func (.func 46) #[] #[]) #[(.pointer p3), (.int .i64 c)] σ (fun v4 σ5 => 
    ∃ t6 : Bool, (v4 = (.bool t6) ∧ bc t6 (dr cap1 (fun b7 o8 => ldI σ5 .i64 b7 o8 (fun n9 => bc (!decide (c = n9)) (dr cap2 (fun b10 o11 => 
    ldS σ5 b10 o11 (fun A12 l12 _ => ix A12 l12 c 1 (fun b13 a14 => ldI σ5 .i64 b13 a14 (fun n15 => rt σ5 R (.bool (decide (n15 < 0)))))))) (rt σ5 R (.bool false))))) (bc false (dr cap2 (fun b16 o17 => 
    ldS σ5 b16 o17 (fun A18 l18 _ => ix A18 l18 c 1 (fun b19 a20 => ldI σ5 .i64 b19 a20 (fun n21 => rt σ5 R (.bool (decide (n21 < 0)))))))) (rt σ5 R (.bool false)))))))
def M_ground_field_trapped_1_an : MAn := (.seq (.txt []) (.seq (.txt [⟨[], false, []⟩, ⟨[], false, []⟩, ⟨[], false, []⟩, ⟨[], true, []⟩, ⟨[], false, []⟩, ⟨[], false, []⟩, ⟨[], false, []⟩, ⟨[], false, []⟩, ⟨[], true, []⟩]) .leaf))
set_option maxRecDepth 100000 in
theorem M_ground_field_trapped_1_ok (σ : Hp) (c : Int) (cap0 : Option Addr) (cap1 : Option Addr) (cap2 : Option Addr) (R : Value → Hp → Prop) (h : M_ground_field_trapped_1 σ c cap0 cap1 cap2 R) : FCalls Try.prog 97 #[(.int .i64 c), (.pointer cap0), (.pointer cap1), (.pointer cap2)] σ R :=
  fcalls_of_M mixed_M4 M_ground_field_trapped_1_an Try.func97 rfl (by kernel_rfl) (by kernel_rfl) (M := M_ground_field_trapped_1 σ c cap0 cap1 cap2 R) (by kernel_rfl) h
theorem M_ground_field_trapped_1_enter : enterB Try.prog 97 = true := by kernel_rfl

abbrev N_math_bits_Mul32 : FuncId := 98
/-- math/bits.Mul32 -/
def M_math_bits_Mul32 (σ : Hp) (x : Int) (y : Int) (R : Value → Hp → Prop) : Prop :=
  wk .u64 (x) (fun n1 => wk .u64 (y) (fun n2 => wk .u64 (n1 * n2) (fun n3 => (0 ≤ (32 : Int) ∧ wk .u32 (Int.fdiv n3 (2 ^ (min (32 : Int).toNat (IntKind.bits .u64)))) (fun n4 => 
    wk .u32 (n3) (fun n5 => rt σ R (.tuple #[(.int .u32 n4), (.int .u32 n5)])))))))
def M_math_bits_Mul32_an : MAn := (.seq (.txt []) (.seq (.txt []) (.seq (.txt []) .leaf)))
set_option maxRecDepth 100000 in
theorem M_math_bits_Mul32_ok (σ : Hp) (x : Int) (y : Int) (R : Value → Hp → Prop) (h : M_math_bits_Mul32 σ x y R) : FCalls Try.prog 98 #[(.int .u32 x), (.int .u32 y)] σ R :=
  fcalls_of_M mixed_M4 M_math_bits_Mul32_an Try.func98 rfl (by kernel_rfl) (by kernel_rfl) (M := M_math_bits_Mul32 σ x y R) (by kernel_rfl) h
theorem M_math_bits_Mul32_enter : enterB Try.prog 98 = true := by kernel_rfl

abbrev N_math_bits_Mul64 : FuncId := 99
/-- math/bits.Mul64 -/
def M_math_bits_Mul64 (σ : Hp) (x : Int) (y : Int) (R : Value → Hp → Prop) : Prop :=
  wk .u64 (((BitVec.ofInt (IntKind.bits .u64) x &&& BitVec.ofInt (IntKind.bits .u64) 4294967295).toNat : Int)) (fun n1 => 
    (0 ≤ (32 : Int) ∧ wk .u64 (((BitVec.ofInt (IntKind.bits .u64) y &&& BitVec.ofInt (IntKind.bits .u64) 4294967295).toNat : Int)) (fun n2 => 
    (0 ≤ (32 : Int) ∧ wk .u64 (n1 * n2) (fun n3 => wk .u64 ((Int.fdiv x (2 ^ (min (32 : Int).toNat (IntKind.bits .u64)))) * n2) (fun n4 => 
    (0 ≤ (32 : Int) ∧ wk .u64 (n4 + (Int.fdiv n3 (2 ^ (min (32 : Int).toNat (IntKind.bits .u64))))) (fun n5 => 
    wk .u64 (((BitVec.ofInt (IntKind.bits .u64) n5 &&& BitVec.ofInt (IntKind.bits .u64) 4294967295).toNat : Int)) (fun n6 => 
    (0 ≤ (32 : Int) ∧ wk .u64 (n1 * (Int.fdiv y (2 ^ (min (32 : Int).toNat (IntKind.bits .u64))))) (fun n7 => 
    wk .u64 (n6 + n7) (fun n8 => wk .u64 ((Int.fdiv x (2 ^ (min (32 : Int).toNat (IntKind.bits .u64)))) * (Int.fdiv y (2 ^ (min (32 : Int).toNat (IntKind.bits .u64))))) (fun n9 => 
    wk .u64 (n9 + (Int.fdiv n5 (2 ^ (min (32 : Int).toNat (IntKind.bits .u64))))) (fun n10 => (0 ≤ (32 : Int) ∧ 
    wk .u64 (n10 + (Int.fdiv n8 (2 ^ (min (32 : Int).toNat (IntKind.bits .u64))))) (fun n11 => wk .u64 (x * y) (fun n12 => 
    rt σ R (.tuple #[(.int .u64 n11), (.int .u64 n12)]))))))))))))))))))
def M_math_bits_Mul64_an : MAn := (.seq (.txt []) (.seq (.txt []) (.seq (.txt []) (.seq (.txt []) (.seq (.txt []) (.seq (.txt []) (.seq (.txt []) (.seq (.txt []) (.seq (.txt []) (.seq (.txt []) (.seq (.txt []) (.seq (.txt []) .leaf))))))))))))
set_option maxRecDepth 100000 in
theorem M_math_bits_Mul64_ok (σ : Hp) (x : Int) (y : Int) (R : Value → Hp → Prop) (h : M_math_bits_Mul64 σ x y R) : FCalls Try.prog 99 #[(.int .u64 x), (.int .u64 y)] σ R :=
  fcalls_of_M mixed_M4 M_math_bits_Mul64_an Try.func99 rfl (by kernel_rfl) (by kernel_rfl) (M := M_math_bits_Mul64 σ x y R) (by kernel_rfl) h
theorem M_math_bits_Mul64_enter : enterB Try.prog 99 = true := by kernel_rfl

abbrev N_ground_grounded_1 : FuncId := 100
/-- waltzer/ground.grounded$1 -/
def M_ground_grounded_1 (σ : Hp) (n : Int) (R : Value → Hp → Prop) : Prop :=
  cl Try.prog (.func (.func 58) #[] #[]) #[(.int .i64 n), (.int .i64 0), (.int .i64 3)] σ (fun v1 σ2 => 
    ∃ t3 : Bool, (v1 = (.bool t3) ∧ rt σ2 R (.bool (!t3))))
def M_ground_grounded_1_an : MAn := (.seq (.txt []) (.seq (.txt []) .leaf))
set_option maxRecDepth 100000 in
theorem M_ground_grounded_1_ok (σ : Hp) (n : Int) (R : Value → Hp → Prop) (h : M_ground_grounded_1 σ n R) : FCalls Try.prog 100 #[(.int .i64 n)] σ R :=
  fcalls_of_M mixed_M4 M_ground_grounded_1_an Try.func100 rfl (by kernel_rfl) (by kernel_rfl) (M := M_ground_grounded_1 σ n R) (by kernel_rfl) h
theorem M_ground_grounded_1_enter : enterB Try.prog 100 = true := by kernel_rfl

abbrev N_ground_grounded_2 : FuncId := 101
/-- waltzer/ground.grounded$2 -/
def M_ground_grounded_2 (σ : Hp) (n : Int) (R : Value → Hp → Prop) : Prop :=
  cl Try.prog (.func (.func 58) #[] #[]) #[(.int .i64 n), (.int .i64 0), (.int .i64 100)] σ (fun v1 σ2 => 
    ∃ t3 : Bool, (v1 = (.bool t3) ∧ rt σ2 R (.bool (!t3))))
def M_ground_grounded_2_an : MAn := (.seq (.txt []) (.seq (.txt []) .leaf))
set_option maxRecDepth 100000 in
theorem M_ground_grounded_2_ok (σ : Hp) (n : Int) (R : Value → Hp → Prop) (h : M_ground_grounded_2 σ n R) : FCalls Try.prog 101 #[(.int .i64 n)] σ R :=
  fcalls_of_M mixed_M4 M_ground_grounded_2_an Try.func101 rfl (by kernel_rfl) (by kernel_rfl) (M := M_ground_grounded_2 σ n R) (by kernel_rfl) h
theorem M_ground_grounded_2_enter : enterB Try.prog 101 = true := by kernel_rfl

abbrev N_slices_insertionSortCmpFunc_int : FuncId := 102
/-- slices.insertionSortCmpFunc[int] -/
def M_slices_insertionSortCmpFunc_int (σ : Hp) (data_A : Option Addr) (data_n : Nat) (_ : Nat) (a : Int) (b : Int) (cmp : Value) (R : Value → Hp → Prop) : Prop :=
  wk .i64 (a + 1) (fun n1 => ∃ I5 : Nat → Int → Hp → Prop, (∃ n60, I5 n60 n1 σ) ∧ ∀ n6 : Nat, ∀ n7 : Int, ∀ σ4 : Hp, I5 n6 n7 σ4 → ∀ _ : Nat → Value, bc (decide (n7 < b)) (cut (α := Hp → Prop) (fun  σ9 => 
    ∀ _ : Nat → Value, wk .i64 (n7 + 1) (fun n11 => bk σ9 n6 (fun m12 σ13 => I5 m12 n11 σ13))) (fun J10 => 
    ∃ I16 : Nat → Int → Hp → Prop, (∃ n170, I16 n170 n7 σ4) ∧ ∀ n17 : Nat, ∀ n18 : Int, ∀ σ15 : Hp, I16 n17 n18 σ15 → ∀ _ : Nat → Value, cut (α := Hp → Prop) (fun  σ20 => 
    ∀ _ : Nat → Value, wk .i64 (n18 - 1) (fun n22 => wk .i64 (n18 - 1) (fun n23 => ix data_A data_n n23 1 (fun b24 a25 => 
    ldI σ20 .i64 b24 a25 (fun n26 => ix data_A data_n n18 1 (fun b27 a28 => ldI σ20 .i64 b27 a28 (fun n29 => 
    ix data_A data_n n18 1 (fun b30 a31 => st σ20 b30 a31 (.int .i64 n26) (fun σ32 => ix data_A data_n n22 1 (fun b33 a34 => 
    st σ32 b33 a34 (.int .i64 n29) (fun σ35 => wk .i64 (n18 - 1) (fun n36 => bk σ35 n17 (fun m37 σ38 => I16 m37 n36 σ38))))))))))))) (fun J21 => 
    cut (α := Bool → Hp → Prop) (fun t42 σ40 => ∀ _ : Nat → Value, bc t42 (J21 σ40) (J10 σ40)) (fun J41 => 
    bc (decide (a < n18)) (ix data_A data_n n18 1 (fun b43 a44 => ldI σ15 .i64 b43 a44 (fun n45 => wk .i64 (n18 - 1) (fun n46 => 
    ix data_A data_n n46 1 (fun b47 a48 => ldI σ15 .i64 b47 a48 (fun n49 => cl Try.prog cmp #[(.int .i64 n45), (.int .i64 n49)] σ15 (fun v50 σ51 => 
    ∃ n52 : Int, (v50 = (.int .i64 n52) ∧ J41 (decide (n52 < 0)) σ51)))))))) (J41 false σ15))))) (rt σ4 R (.tuple #[])))
def M_slices_insertionSortCmpFunc_int_an : MAn := (.seq (.txt []) (.block (.loop ⟨[], 0, [.slot 8 (.sc (.int .i64))], [(0, true), (1, true), (2, true), (3, false)]⟩ (.seq (.seq (.txt []) (.cond .leaf .leaf)) (.cut ⟨[], 0, [], [(0, true), (1, true), (2, true), (3, false), (8, true)]⟩ (.block (.seq (.txt []) (.block (.loop ⟨[], 0, [.slot 9 (.sc (.int .i64))], [(0, true), (1, true), (2, true), (3, false), (8, true)]⟩ (.cut ⟨[], 0, [], [(0, true), (1, true), (2, true), (3, false), (8, true), (9, true)]⟩ (.cut ⟨[], 0, [.slot 34 (.sc (.bool))], [(0, true), (1, true), (2, true), (3, false), (8, true), (9, true)]⟩ (.plan [14] (.take 0 ⟨[], false, []⟩ (.take 1 ⟨[], false, []⟩ (.take 2 ⟨[], false, []⟩ (.take 3 ⟨[], true, []⟩ (.take 4 ⟨[], false, []⟩ (.take 5 ⟨[], false, []⟩ (.take 6 ⟨[], false, []⟩ (.take 7 ⟨[], false, []⟩ (.take 8 ⟨[], false, []⟩ (.take 9 ⟨[], false, []⟩ (.take 10 ⟨[], false, []⟩ (.take 11 ⟨[], false, []⟩ (.take 12 ⟨[], false, []⟩ (.take 13 ⟨[], false, []⟩ (.alt 14 false ⟨[], false, []⟩ (.take 15 ⟨[], false, []⟩ (.take 16 ⟨[], false, []⟩ .done)) .done)))))))))))))))) (.cond .leaf .leaf)) (.seq (.block (.plan [15, 17] (.take 0 ⟨[], false, []⟩ (.take 1 ⟨[], false, []⟩ (.take 2 ⟨[], false, []⟩ (.take 3 ⟨[], false, []⟩ (.take 4 ⟨[], false, []⟩ (.take 5 ⟨[], false, []⟩ (.take 6 ⟨[], false, []⟩ (.take 7 ⟨[], false, []⟩ (.take 8 ⟨[], false, []⟩ (.take 9 ⟨[], false, []⟩ (.take 10 ⟨[], false, []⟩ (.take 11 ⟨[], false, []⟩ (.take 12 ⟨[], false, []⟩ (.take 13 ⟨[], false, []⟩ (.take 14 ⟨[], false, []⟩ (.alt 15 false ⟨[], false, []⟩ (.take 16 ⟨[], false, []⟩ (.alt 17 false ⟨[], false, []⟩ .done .done)) .done)))))))))))))))))) (.txt []))))))) (.txt []))))))
set_option maxRecDepth 100000 in
theorem M_slices_insertionSortCmpFunc_int_ok (σ : Hp) (data_A : Option Addr) (data_n : Nat) (data_c : Nat) (a : Int) (b : Int) (cmp : Value) (R : Value → Hp → Prop) (h : M_slices_insertionSortCmpFunc_int σ data_A data_n data_c a b cmp R) : FCalls Try.prog 102 #[(.slice data_A data_n data_c), (.int .i64 a), (.int .i64 b), cmp] σ R :=
  fcalls_of_M mixed_M4 M_slices_insertionSortCmpFunc_int_an Try.func102 rfl (by kernel_rfl) (by kernel_rfl) (M := M_slices_insertionSortCmpFunc_int σ data_A data_n data_c a b cmp R) (by kernel_rfl) h
theorem M_slices_insertionSortCmpFunc_int_enter : enterB Try.prog 102 = true := by kernel_rfl

abbrev N_slices_symMergeCmpFunc_int : FuncId := 103
/-- slices.symMergeCmpFunc[int] -/
def M_slices_symMergeCmpFunc_int (σ : Hp) (a0_A : Option Addr) (a0_n : Nat) (a0_c : Nat) (a1 : Int) (a2 : Int) (a3 : Int) (a4 : Value) (R : Value → Hp → Prop) : Prop :=
  cut (α := Hp → Prop) (fun  σ2 => ∀ _ : Nat → Value, cut (α := Hp → Prop) (fun  σ5 => ∀ _ : Nat → Value, 
    wk .i64 (a1 + a3) (fun n7 => wk .u64 (n7) (fun n8 => (0 ≤ (1 : Int) ∧ wk .i64 (Int.fdiv n8 (2 ^ (min (1 : Int).toNat (IntKind.bits .u64)))) (fun n9 => 
    wk .i64 (n9 + a2) (fun n10 => cut (α := Int → Int → Hp → Prop) (fun n14 n15 σ12 => ∀ _ : Nat → Value, 
    wk .i64 (n10 - 1) (fun n16 => cut (α := Int → Hp → Prop) (fun n20 σ18 => ∀ _ : Nat → Value, wk .i64 (n10 - n20) (fun n21 => 
    cut (α := Hp → Prop) (fun  σ23 => ∀ _ : Nat → Value, cut (α := Hp → Prop) (fun  σ26 => ∀ _ : Nat → Value, 
    cut (α := Bool → Hp → Prop) (fun t31 σ29 => ∀ _ : Nat → Value, bc t31 (cl Try.prog (.func (.func 103) #[] #[]) #[(.slice a0_A a0_n a0_c), (.int .i64 n9), (.int .i64 n21), (.int .i64 a3), a4] σ29 (fun _ σ33 => 
    rt σ33 R (.tuple #[]))) (rt σ29 R (.tuple #[]))) (fun J30 => bc (decide (n9 < n21)) (J30 (decide (n21 < a3)) σ26) (J30 false σ26))) (fun J27 => 
    cut (α := Bool → Hp → Prop) (fun t37 σ35 => ∀ _ : Nat → Value, bc t37 (cl Try.prog (.func (.func 103) #[] #[]) #[(.slice a0_A a0_n a0_c), (.int .i64 a1), (.int .i64 n20), (.int .i64 n9), a4] σ35 (fun _ σ39 => 
    J27 σ39)) (J27 σ35)) (fun J36 => bc (decide (a1 < n20)) (J36 (decide (n20 < n9)) σ23) (J36 false σ23)))) (fun J24 => 
    cut (α := Bool → Hp → Prop) (fun t43 σ41 => ∀ _ : Nat → Value, bc t43 (cl Try.prog (.func (.func 104) #[] #[]) #[(.slice a0_A a0_n a0_c), (.int .i64 n20), (.int .i64 a2), (.int .i64 n21), a4] σ41 (fun _ σ45 => 
    J24 σ45)) (J24 σ41)) (fun J42 => bc (decide (n20 < a2)) (J42 (decide (a2 < n21)) σ18) (J42 false σ18))))) (fun J19 => 
    ∃ I48 : Nat → Int → Int → Hp → Prop, (∃ n490, I48 n490 n14 n15 σ12) ∧ ∀ n49 : Nat, ∀ n50 : Int, ∀ n51 : Int, ∀ σ47 : Hp, I48 n49 n50 n51 σ47 → ∀ _ : Nat → Value, bc (decide (n50 < n51)) (wk .i64 (n50 + n51) (fun n52 => 
    wk .u64 (n52) (fun n53 => (0 ≤ (1 : Int) ∧ wk .i64 (Int.fdiv n53 (2 ^ (min (1 : Int).toNat (IntKind.bits .u64)))) (fun n54 => 
    wk .i64 (n16 - n54) (fun n55 => ix a0_A a0_n n55 1 (fun b56 a57 => ldI σ47 .i64 b56 a57 (fun n58 => ix a0_A a0_n n54 1 (fun b59 a60 => 
    ldI σ47 .i64 b59 a60 (fun n61 => cl Try.prog a4 #[(.int .i64 n58), (.int .i64 n61)] σ47 (fun v62 σ63 => 
    ∃ n64 : Int, (v62 = (.int .i64 n64) ∧ bc (!(decide (n64 < 0))) (wk .i64 (n54 + 1) (fun n65 => bk σ63 n49 (fun m66 σ67 => 
    I48 m66 n65 n51 σ67))) (bk σ63 n49 (fun m68 σ69 => I48 m68 n50 n54 σ69)))))))))))))) (J19 n50 σ47)))) (fun J13 => 
    bc (decide (n9 < a2)) (wk .i64 (n10 - a3) (fun n70 => J13 n70 n9 σ5)) (J13 a1 a2 σ5)))))))) (fun J6 => 
    wk .i64 (a3 - a2) (fun n71 => bc (decide (n71 = 1)) (cut (α := Int → Hp → Prop) (fun n75 σ73 => ∀ _ : Nat → Value, 
    ∃ I78 : Nat → Int → Hp → Prop, (∃ n790, I78 n790 a2 σ73) ∧ ∀ n79 : Nat, ∀ n80 : Int, ∀ σ77 : Hp, I78 n79 n80 σ77 → ∀ _ : Nat → Value, bc (decide (n75 < n80)) (wk .i64 (n80 - 1) (fun n81 => 
    wk .i64 (n80 - 1) (fun n82 => ix a0_A a0_n n82 1 (fun b83 a84 => ldI σ77 .i64 b83 a84 (fun n85 => ix a0_A a0_n n80 1 (fun b86 a87 => 
    ldI σ77 .i64 b86 a87 (fun n88 => ix a0_A a0_n n80 1 (fun b89 a90 => st σ77 b89 a90 (.int .i64 n85) (fun σ91 => 
    ix a0_A a0_n n81 1 (fun b92 a93 => st σ91 b92 a93 (.int .i64 n88) (fun σ94 => wk .i64 (n80 - 1) (fun n95 => 
    bk σ94 n79 (fun m96 σ97 => I78 m96 n95 σ97))))))))))))) (rt σ77 R (.tuple #[]))) (fun J74 => ∃ I100 : Nat → Int → Int → Hp → Prop, (∃ n1010, I100 n1010 a1 a2 σ2) ∧ 
    ∀ n101 : Nat, ∀ n102 : Int, ∀ n103 : Int, ∀ σ99 : Hp, I100 n101 n102 n103 σ99 → ∀ _ : Nat → Value, bc (decide (n102 < n103)) (wk .i64 (n102 + n103) (fun n104 => 
    wk .u64 (n104) (fun n105 => (0 ≤ (1 : Int) ∧ wk .i64 (Int.fdiv n105 (2 ^ (min (1 : Int).toNat (IntKind.bits .u64)))) (fun n106 => 
    ix a0_A a0_n a2 1 (fun b107 a108 => ldI σ99 .i64 b107 a108 (fun n109 => ix a0_A a0_n n106 1 (fun b110 a111 => 
    ldI σ99 .i64 b110 a111 (fun n112 => cl Try.prog a4 #[(.int .i64 n109), (.int .i64 n112)] σ99 (fun v113 σ114 => 
    ∃ n115 : Int, (v113 = (.int .i64 n115) ∧ bc (!(decide (n115 < 0))) (wk .i64 (n106 + 1) (fun n116 => bk σ114 n101 (fun m117 σ118 => 
    I100 m117 n116 n103 σ118))) (bk σ114 n101 (fun m119 σ120 => I100 m119 n102 n106 σ120))))))))))))) (J74 n102 σ99))) (J6 σ2)))) (fun J3 => 
    wk .i64 (a2 - a1) (fun n121 => bc (decide (n121 = 1)) (cut (α := Int → Hp → Prop) (fun n125 σ123 => ∀ _ : Nat → Value, 
    ∃ I128 : Nat → Int → Hp → Prop, (∃ n1290, I128 n1290 a1 σ123) ∧ ∀ n129 : Nat, ∀ n130 : Int, ∀ σ127 : Hp, I128 n129 n130 σ127 → ∀ _ : Nat → Value, wk .i64 (n125 - 1) (fun n131 => 
    bc (decide (n130 < n131)) (wk .i64 (n130 + 1) (fun n132 => wk .i64 (n130 + 1) (fun n133 => ix a0_A a0_n n133 1 (fun b134 a135 => 
    ldI σ127 .i64 b134 a135 (fun n136 => ix a0_A a0_n n130 1 (fun b137 a138 => ldI σ127 .i64 b137 a138 (fun n139 => 
    ix a0_A a0_n n130 1 (fun b140 a141 => st σ127 b140 a141 (.int .i64 n136) (fun σ142 => ix a0_A a0_n n132 1 (fun b143 a144 => 
    st σ142 b143 a144 (.int .i64 n139) (fun σ145 => wk .i64 (n130 + 1) (fun n146 => bk σ145 n129 (fun m147 σ148 => 
    I128 m147 n146 σ148))))))))))))) (rt σ127 R (.tuple #[])))) (fun J124 => ∃ I151 : Nat → Int → Int → Hp → Prop, (∃ n1520, I151 n1520 a2 a3 σ) ∧ 
    ∀ n152 : Nat, ∀ n153 : Int, ∀ n154 : Int, ∀ σ150 : Hp, I151 n152 n153 n154 σ150 → ∀ _ : Nat → Value, bc (decide (n153 < n154)) (wk .i64 (n153 + n154) (fun n155 => 
    wk .u64 (n155) (fun n156 => (0 ≤ (1 : Int) ∧ wk .i64 (Int.fdiv n156 (2 ^ (min (1 : Int).toNat (IntKind.bits .u64)))) (fun n157 => 
    ix a0_A a0_n n157 1 (fun b158 a159 => ldI σ150 .i64 b158 a159 (fun n160 => ix a0_A a0_n a1 1 (fun b161 a162 => 
    ldI σ150 .i64 b161 a162 (fun n163 => cl Try.prog a4 #[(.int .i64 n160), (.int .i64 n163)] σ150 (fun v164 σ165 => 
    ∃ n166 : Int, (v164 = (.int .i64 n166) ∧ bc (decide (n166 < 0)) (wk .i64 (n157 + 1) (fun n167 => bk σ165 n152 (fun m168 σ169 => 
    I151 m168 n167 n154 σ169))) (bk σ165 n152 (fun m170 σ171 => I151 m170 n153 n157 σ171))))))))))))) (J124 n153 σ150))) (J3 σ)))
def M_slices_symMergeCmpFunc_int_an : MAn := (.cut ⟨[], 0, [], [(0, true), (1, true), (2, true), (3, true), (4, false)]⟩ (.seq (.txt []) (.cond (.seq (.txt []) (.seq (.txt []) (.cut ⟨[], 0, [.slot 10 (.sc (.int .i64))], [(0, true), (1, true)]⟩ (.block (.loop ⟨[], 0, [.slot 10 (.sc (.int .i64)), .slot 11 (.sc (.int .i64))], [(0, true), (1, true), (4, false)]⟩ (.seq (.seq (.txt []) (.cond .leaf .leaf)) (.block (.seq (.txt []) (.seq (.plan [9] (.take 0 ⟨[], false, []⟩ (.take 1 ⟨[], false, []⟩ (.take 2 ⟨[], false, []⟩ (.take 3 ⟨[], false, []⟩ (.take 4 ⟨[], false, []⟩ (.take 5 ⟨[], false, []⟩ (.take 6 ⟨[], false, []⟩ (.take 7 ⟨[], false, []⟩ (.take 8 ⟨[], false, []⟩ (.alt 9 false ⟨[], false, []⟩ (.take 10 ⟨[], false, []⟩ .done) .done))))))))))) (.cond (.txt []) (.txt [])))))))) (.seq (.seq (.txt []) (.block (.loop ⟨[], 0, [.slot 13 (.sc (.int .i64))], [(0, true), (10, true)]⟩ (.seq (.seq (.txt []) (.cond .leaf .leaf)) (.seq (.block (.plan [15, 17] (.take 0 ⟨[], false, []⟩ (.take 1 ⟨[], false, []⟩ (.take 2 ⟨[], false, []⟩ (.take 3 ⟨[], false, []⟩ (.take 4 ⟨[], false, []⟩ (.take 5 ⟨[], false, []⟩ (.take 6 ⟨[], false, []⟩ (.take 7 ⟨[], false, []⟩ (.take 8 ⟨[], false, []⟩ (.take 9 ⟨[], false, []⟩ (.take 10 ⟨[], false, []⟩ (.take 11 ⟨[], false, []⟩ (.take 12 ⟨[], false, []⟩ (.take 13 ⟨[], false, []⟩ (.take 14 ⟨[], false, []⟩ (.alt 15 false ⟨[], false, []⟩ (.take 16 ⟨[], false, []⟩ (.alt 17 false ⟨[], false, []⟩ .done .done)) .done)))))))))))))))))) (.txt [])))))) .leaf)))) .leaf)) (.cut ⟨[], 0, [], [(0, true), (1, true), (2, true), (3, true), (4, false)]⟩ (.seq (.txt []) (.cond (.seq (.txt []) (.seq (.txt []) (.cut ⟨[], 0, [.slot 14 (.sc (.int .i64))], [(0, true), (2, true)]⟩ (.block (.loop ⟨[], 0, [.slot 14 (.sc (.int .i64)), .slot 15 (.sc (.int .i64))], [(0, true), (2, true), (4, false)]⟩ (.seq (.seq (.txt []) (.cond .leaf .leaf)) (.block (.seq (.txt []) (.seq (.plan [9] (.take 0 ⟨[], false, []⟩ (.take 1 ⟨[], false, []⟩ (.take 2 ⟨[], false, []⟩ (.take 3 ⟨[], false, []⟩ (.take 4 ⟨[], false, []⟩ (.take 5 ⟨[], false, []⟩ (.take 6 ⟨[], false, []⟩ (.take 7 ⟨[], false, []⟩ (.take 8 ⟨[], false, []⟩ (.alt 9 false ⟨[], false, []⟩ (.take 10 ⟨[], false, []⟩ (.take 11 ⟨[], false, []⟩ .done)) .done))))))))))) (.cond (.txt []) (.txt [])))))))) (.seq (.seq (.txt []) (.block (.loop ⟨[], 0, [.slot 17 (.sc (.int .i64))], [(0, true), (14, true)]⟩ (.seq (.seq (.txt []) (.cond .leaf .leaf)) (.seq (.block (.plan [15, 17] (.take 0 ⟨[], false, []⟩ (.take 1 ⟨[], false, []⟩ (.take 2 ⟨[], false, []⟩ (.take 3 ⟨[], false, []⟩ (.take 4 ⟨[], false, []⟩ (.take 5 ⟨[], false, []⟩ (.take 6 ⟨[], false, []⟩ (.take 7 ⟨[], false, []⟩ (.take 8 ⟨[], false, []⟩ (.take 9 ⟨[], false, []⟩ (.take 10 ⟨[], false, []⟩ (.take 11 ⟨[], false, []⟩ (.take 12 ⟨[], false, []⟩ (.take 13 ⟨[], false, []⟩ (.take 14 ⟨[], false, []⟩ (.alt 15 false ⟨[], false, []⟩ (.take 16 ⟨[], false, []⟩ (.alt 17 false ⟨[], false, []⟩ .done .done)) .done)))))))))))))))))) (.txt [])))))) .leaf)))) .leaf)) (.seq (.txt []) (.seq (.txt []) (.seq (.txt []) (.cut ⟨[], 0, [.slot 20 (.sc (.int .i64)), .slot 21 (.sc (.int .i64))], [(0, true), (1, true), (2, true), (3, true), (4, false), (18, true), (19, true)]⟩ (.seq (.txt []) (.cond (.seq (.txt []) (.txt [])) (.seq (.txt []) (.txt [])))) (.seq (.txt []) (.cut ⟨[], 0, [.slot 20 (.sc (.int .i64))], [(0, true), (1, true), (2, true), (3, true), (4, false), (18, true), (19, true)]⟩ (.block (.loop ⟨[], 0, [.slot 20 (.sc (.int .i64)), .slot 21 (.sc (.int .i64))], [(0, true), (1, true), (2, true), (3, true), (4, false), (18, true), (19, true), (22, true)]⟩ (.seq (.seq (.txt []) (.cond .leaf .leaf)) (.block (.seq (.txt []) (.seq (.plan [11] (.take 0 ⟨[], false, []⟩ (.take 1 ⟨[], false, []⟩ (.take 2 ⟨[], false, []⟩ (.take 3 ⟨[], false, []⟩ (.take 4 ⟨[], false, []⟩ (.take 5 ⟨[], false, []⟩ (.take 6 ⟨[], false, []⟩ (.take 7 ⟨[], false, []⟩ (.take 8 ⟨[], false, []⟩ (.take 9 ⟨[], false, []⟩ (.take 10 ⟨[], false, []⟩ (.alt 11 false ⟨[], false, []⟩ (.take 12 ⟨[], false, []⟩ (.take 13 ⟨[], false, []⟩ .done)) .done))))))))))))) (.cond (.txt []) (.txt [])))))))) (.seq (.txt []) (.cut ⟨[], 0, [], [(0, true), (1, true), (3, true), (4, false), (18, true), (20, true), (24, true)]⟩ (.cut ⟨[], 0, [.slot 185 (.sc (.bool))], [(0, true), (1, true), (2, true), (3, true), (4, false), (18, true), (20, true), (24, true)]⟩ (.txt [⟨[], false, []⟩, ⟨[], false, []⟩, ⟨[], false, []⟩, ⟨[], true, []⟩]) (.cond (.txt []) .leaf)) (.cut ⟨[], 0, [], [(0, true), (3, true), (4, false), (18, true), (24, true)]⟩ (.cut ⟨[], 0, [.slot 199 (.sc (.bool))], [(0, true), (1, true), (3, true), (4, false), (18, true), (20, true), (24, true)]⟩ (.txt [⟨[], false, []⟩, ⟨[], false, []⟩, ⟨[], false, []⟩, ⟨[], true, []⟩]) (.cond (.txt []) .leaf)) (.cut ⟨[], 0, [.slot 213 (.sc (.bool))], [(0, true), (3, true), (4, false), (18, true), (24, true)]⟩ (.txt [⟨[], false, []⟩, ⟨[], false, []⟩, ⟨[], false, []⟩, ⟨[], true, []⟩]) (.cond (.txt []) .leaf)))))))))))))
set_option maxRecDepth 100000 in
theorem M_slices_symMergeCmpFunc_int_ok (σ : Hp) (a0_A : Option Addr) (a0_n : Nat) (a0_c : Nat) (a1 : Int) (a2 : Int) (a3 : Int) (a4 : Value) (R : Value → Hp → Prop) (h : M_slices_symMergeCmpFunc_int σ a0_A a0_n a0_c a1 a2 a3 a4 R) : FCalls Try.prog 103 #[(.slice a0_A a0_n a0_c), (.int .i64 a1), (.int .i64 a2), (.int .i64 a3), a4] σ R :=
  fcalls_of_M mixed_M4 M_slices_symMergeCmpFunc_int_an Try.func103 rfl (by kernel_rfl) (by kernel_rfl) (M := M_slices_symMergeCmpFunc_int σ a0_A a0_n a0_c a1 a2 a3 a4 R) (by kernel_rfl) h
theorem M_slices_symMergeCmpFunc_int_enter : enterB Try.prog 103 = true := by kernel_rfl

abbrev N_slices_rotateCmpFunc_int : FuncId := 104
/-- slices.rotateCmpFunc[int] -/
def M_slices_rotateCmpFunc_int (σ : Hp) (data_A : Option Addr) (data_n : Nat) (data_c : Nat) (a : Int) (m : Int) (b : Int) (cmp : Value) (R : Value → Hp → Prop) : Prop :=
  wk .i64 (m - a) (fun n1 => wk .i64 (b - m) (fun n2 => cut (α := Int → Hp → Prop) (fun n6 σ4 => ∀ _ : Nat → Value, 
    wk .i64 (m - n6) (fun n7 => cl Try.prog (.func (.func 105) #[] #[]) #[(.slice data_A data_n data_c), (.int .i64 n7), (.int .i64 m), (.int .i64 n6), cmp] σ4 (fun _ σ9 => 
    rt σ9 R (.tuple #[])))) (fun J5 => ∃ I12 : Nat → Int → Int → Hp → Prop, (∃ n130, I12 n130 n1 n2 σ) ∧ 
    ∀ n13 : Nat, ∀ n14 : Int, ∀ n15 : Int, ∀ σ11 : Hp, I12 n13 n14 n15 σ11 → ∀ _ : Nat → Value, bc (!decide (n14 = n15)) (bc (decide (n15 < n14)) (wk .i64 (m - n14) (fun n16 => 
    cl Try.prog (.func (.func 105) #[] #[]) #[(.slice data_A data_n data_c), (.int .i64 n16), (.int .i64 m), (.int .i64 n15), cmp] σ11 (fun _ σ18 => 
    wk .i64 (n14 - n15) (fun n19 => bk σ18 n13 (fun m20 σ21 => I12 m20 n19 n15 σ21))))) (wk .i64 (m - n14) (fun n22 => 
    wk .i64 (m + n15) (fun n23 => wk .i64 (n23 - n14) (fun n24 => cl Try.prog (.func (.func 105) #[] #[]) #[(.slice data_A data_n data_c), (.int .i64 n22), (.int .i64 n24), (.int .i64 n14), cmp] σ11 (fun _ σ26 => 
    wk .i64 (n15 - n14) (fun n27 => bk σ26 n13 (fun m28 σ29 => I12 m28 n14 n27 σ29)))))))) (J5 n14 σ11))))
def M_slices_rotateCmpFunc_int_an : MAn := (.seq (.txt []) (.seq (.txt []) (.cut ⟨[], 0, [.slot 10 (.sc (.int .i64))], [(0, true), (2, true), (4, false)]⟩ (.block (.loop ⟨[], 0, [.slot 10 (.sc (.int .i64)), .slot 11 (.sc (.int .i64))], [(0, true), (2, true), (4, false)]⟩ (.seq (.seq (.txt []) (.cond .leaf .leaf)) (.block (.seq (.txt []) (.cond (.seq (.txt []) (.txt [])) (.seq (.txt []) (.txt [])))))))) (.txt []))))
set_option maxRecDepth 100000 in
theorem M_slices_rotateCmpFunc_int_ok (σ : Hp) (data_A : Option Addr) (data_n : Nat) (data_c : Nat) (a : Int) (m : Int) (b : Int) (cmp : Value) (R : Value → Hp → Prop) (h : M_slices_rotateCmpFunc_int σ data_A data_n data_c a m b cmp R) : FCalls Try.prog 104 #[(.slice data_A data_n data_c), (.int .i64 a), (.int .i64 m), (.int .i64 b), cmp] σ R :=
  fcalls_of_M mixed_M4 M_slices_rotateCmpFunc_int_an Try.func104 rfl (by kernel_rfl) (by kernel_rfl) (M := M_slices_rotateCmpFunc_int σ data_A data_n data_c a m b cmp R) (by kernel_rfl) h
theorem M_slices_rotateCmpFunc_int_enter : enterB Try.prog 104 = true := by kernel_rfl

abbrev N_slices_swapRangeCmpFunc_int : FuncId := 105
/-- slices.swapRangeCmpFunc[int] -/
def M_slices_swapRangeCmpFunc_int (σ : Hp) (data_A : Option Addr) (data_n : Nat) (_ : Nat) (a : Int) (b : Int) (n : Int) (_ : Value) (R : Value → Hp → Prop) : Prop :=
  ∃ I4 : Nat → Int → Hp → Prop, (∃ n50, I4 n50 0 σ) ∧ ∀ n5 : Nat, ∀ n6 : Int, ∀ σ3 : Hp, I4 n5 n6 σ3 → ∀ _ : Nat → Value, bc (decide (n6 < n)) (wk .i64 (a + n6) (fun n7 => 
    wk .i64 (b + n6) (fun n8 => wk .i64 (b + n6) (fun n9 => ix data_A data_n n9 1 (fun b10 a11 => ldI σ3 .i64 b10 a11 (fun n12 => 
    wk .i64 (a + n6) (fun n13 => ix data_A data_n n13 1 (fun b14 a15 => ldI σ3 .i64 b14 a15 (fun n16 => ix data_A data_n n7 1 (fun b17 a18 => 
    st σ3 b17 a18 (.int .i64 n12) (fun σ19 => ix data_A data_n n8 1 (fun b20 a21 => st σ19 b20 a21 (.int .i64 n16) (fun σ22 => 
    wk .i64 (n6 + 1) (fun n23 => bk σ22 n5 (fun m24 σ25 => I4 m24 n23 σ25))))))))))))))) (rt σ3 R (.tuple #[]))
def M_slices_swapRangeCmpFunc_int_an : MAn := (.seq (.txt []) (.block (.loop ⟨[], 0, [.slot 10 (.sc (.int .i64))], [(0, true), (1, true), (2, true), (3, true)]⟩ (.seq (.seq (.txt []) (.cond .leaf .leaf)) (.seq (.block (.plan [21, 23] (.take 0 ⟨[], false, []⟩ (.take 1 ⟨[], false, []⟩ (.take 2 ⟨[], false, []⟩ (.take 3 ⟨[], false, []⟩ (.take 4 ⟨[], false, []⟩ (.take 5 ⟨[], false, []⟩ (.take 6 ⟨[], false, []⟩ (.take 7 ⟨[], false, []⟩ (.take 8 ⟨[], false, []⟩ (.take 9 ⟨[], false, []⟩ (.take 10 ⟨[], false, []⟩ (.take 11 ⟨[], false, []⟩ (.take 12 ⟨[], false, []⟩ (.take 13 ⟨[], false, []⟩ (.take 14 ⟨[], false, []⟩ (.take 15 ⟨[], false, []⟩ (.take 16 ⟨[], false, []⟩ (.take 17 ⟨[], false, []⟩ (.take 18 ⟨[], false, []⟩ (.take 19 ⟨[], false, []⟩ (.take 20 ⟨[], false, []⟩ (.alt 21 false ⟨[], false, []⟩ (.take 22 ⟨[], false, []⟩ (.alt 23 false ⟨[], false, []⟩ .done .done)) .done)))))))))))))))))))))))) (.txt []))))))
set_option maxRecDepth 100000 in
theorem M_slices_swapRangeCmpFunc_int_ok (σ : Hp) (data_A : Option Addr) (data_n : Nat) (data_c : Nat) (a : Int) (b : Int) (n : Int) (cmp : Value) (R : Value → Hp → Prop) (h : M_slices_swapRangeCmpFunc_int σ data_A data_n data_c a b n cmp R) : FCalls Try.prog 105 #[(.slice data_A data_n data_c), (.int .i64 a), (.int .i64 b), (.int .i64 n), cmp] σ R :=
  fcalls_of_M mixed_M4 M_slices_swapRangeCmpFunc_int_an Try.func105 rfl (by kernel_rfl) (by kernel_rfl) (M := M_slices_swapRangeCmpFunc_int σ data_A data_n data_c a b n cmp R) (by kernel_rfl) h
theorem M_slices_swapRangeCmpFunc_int_enter : enterB Try.prog 105 = true := by kernel_rfl

end Go.Proofs.Ytmpkiaghkhhlhaa

/- Contracts of layer 4: within, checkGround. No conditions but those that each theorem names. -/
namespace Go.Proofs.Ytmpkiaghkhhlhaa
open Go.RowKit

theorem c_ref04_within {σ : Hp} {n lo hi : Int} : FCalls Try.prog N_ref04_within #[.int .i64 n, .int .i64 lo, .int .i64 hi] σ fun v σ' => v = .bool (decide (lo ≤ n ∧ n ≤ hi)) ∧ σ' = σ := by
  refine M_ref04_within_ok _ _ _ _ _ ?_
  unfold M_ref04_within
  refine bc_d (fun h => rt_of ?_) (fun h => rt_of ?_) <;> simp [h]
theorem c_ground_within {σ : Hp} {n lo hi : Int} : FCalls Try.prog N_ground_within #[.int .i64 n, .int .i64 lo, .int .i64 hi] σ fun v σ' => v = .bool (decide (lo ≤ n ∧ n ≤ hi)) ∧ σ' = σ := by
  refine M_ground_within_ok _ _ _ _ _ ?_
  unfold M_ground_within
  refine bc_d (fun h => rt_of ?_) (fun h => rt_of ?_) <;> simp [h]
/-- calls of within, seen from the caller -/
theorem l_rw {σ : Hp} {n lo hi : Int} {K : Bool → Hp → Prop} (h : K (decide (lo ≤ n ∧ n ≤ hi)) σ) : cl Try.prog (.func (.func N_ref04_within) #[] #[]) #[.int .i64 n, .int .i64 lo, .int .i64 hi] σ fun v σ' => ∃ t : Bool, (v = .bool t ∧ K t σ') := clB M_ref04_within_enter c_ref04_within h
theorem l_gw {σ : Hp} {n lo hi : Int} {K : Bool → Hp → Prop} (h : K (decide (lo ≤ n ∧ n ≤ hi)) σ) : cl Try.prog (.func (.func N_ground_within) #[] #[]) #[.int .i64 n, .int .i64 lo, .int .i64 hi] σ fun v σ' => ∃ t : Bool, (v = .bool t ∧ K t σ') := clB M_ground_within_enter c_ground_within h

/-! ### Grounds -/
structure Gnd where
  W : Int
  H : Int
  C : List Int
  T : List Int
/-- the value of a ground: its two slices lie at (cA, ..), (hA, ..) -/
structure GV where
  cA : Option Addr
  cn : Nat
  cc : Nat
  hA : Option Addr
  hn : Nat
  hc : Nat
def GV.v (x : GV) (g : Gnd) : Value := .agg #[.int .i64 g.W, .int .i64 g.H, .slice x.cA x.cn x.cc, .slice x.hA x.hn x.hc]
structure GRd (σ : Hp) (x : GV) (g : Gnd) : Prop where
  c : RdS [.int .i64] σ x.cA x.cn g.C
  h : RdS [.int .i64] σ x.hA x.hn g.T
theorem GRd.sub {σ σ' : Hp} {x : GV} {g : Gnd} (h : GRd σ x g) (hs : Hp.Sub σ σ') : GRd σ' x g := ⟨h.c.sub hs, h.h.sub hs⟩
def Gnd.okS (g : Gnd) : Bool := decide ((1 ≤ g.W ∧ g.W ≤ 8) ∧ (1 ≤ g.H ∧ g.H ≤ 8) ∧ (g.C.length : Int) = g.W * g.H ∧ g.T.length = g.C.length)
def Gnd.ok (g : Gnd) : Bool := g.okS && g.C.all (fun n => decide (0 ≤ n ∧ n ≤ 3)) && g.T.all fun n => decide (0 ≤ n ∧ n ≤ 100)

theorem mulb {a b : Int} (h1 : 1 ≤ a ∧ a ≤ 8) (h2 : 1 ≤ b ∧ b ≤ 8) : 1 ≤ a * b ∧ a * b ≤ 64 := by
  have e1 : 1 * 1 ≤ a * b := Int.mul_le_mul h1.1 h2.1 (by omega) (by omega)
  have e2 : a * b ≤ 8 * 8 := Int.mul_le_mul h1.2 h2.2 (by omega) (by omega)
  omega
theorem Gnd.okS_iff {g : Gnd} : g.okS = true ↔ (1 ≤ g.W ∧ g.W ≤ 8) ∧ (1 ≤ g.H ∧ g.H ≤ 8) ∧ (g.C.length : Int) = g.W * g.H ∧ g.T.length = g.C.length := by simp [Gnd.okS]
theorem Gnd.okS_len {g : Gnd} (h : g.okS = true) : 1 ≤ g.C.length ∧ g.C.length ≤ 64 ∧ g.T.length = g.C.length := by
  obtain ⟨h1, h2, h3, h4⟩ := okS_iff.1 h
  have := mulb h1 h2
  omega
theorem Gnd.ok_iff {g : Gnd} : g.ok = true ↔ g.okS = true ∧ ∀ i, (h : i < g.C.length) → (h' : i < g.T.length) → (0 ≤ g.C[i] ∧ g.C[i] ≤ 3) ∧ (0 ≤ g.T[i] ∧ g.T[i] ≤ 100) := by
  unfold Gnd.ok
  simp only [Bool.and_eq_true, List.all_eq_true, decide_eq_true_eq]
  constructor
  · rintro ⟨⟨h1, h2⟩, h3⟩
    exact ⟨h1, fun i h h' => ⟨h2 _ (List.getElem_mem h), h3 _ (List.getElem_mem h')⟩⟩
  · rintro ⟨h1, h2⟩
    have hl := (okS_len h1).2.2
    refine ⟨⟨h1, fun a ha => ?_⟩, fun a ha => ?_⟩
    · obtain ⟨i, h, rfl⟩ := List.getElem_of_mem ha
      exact (h2 i h (by omega)).1
    · obtain ⟨i, h, rfl⟩ := List.getElem_of_mem ha
      exact (h2 i (by omega) h).2

theorem c_ref04_checkGround {σ : Hp} {x : GV} {g : Gnd} (hg : GRd σ x g) : FCalls Try.prog N_ref04_checkGround #[x.v g] σ fun v σ' => v = .int .i64 (if g.ok then 0 else 40) ∧ σ' = σ := by
  refine M_ref04_checkGround_ok _ _ _ _ _ _ _ _ _ _ ?_
  unfold M_ref04_checkGround
  refine cut_intro fun J3 h3 => cut_intro fun J36 h36 => ?_
  have hc := hg.c.lenI
  have hh := hg.h.lenI
  have k3 : g.okS = true → J3 σ := by
    intro ho
    obtain ⟨l1, l2, l3⟩ := Gnd.okS_len ho
    rw [h3]
    intro _
    refine cut_intro fun J6 h6 => ?_
    refine ⟨fun n i σ' => ∃ k : Nat, n = g.C.length - k ∧ i = k ∧ k ≤ g.C.length ∧ σ' = σ ∧ ∀ j, (h : j < g.C.length) → (h' : j < g.T.length) → j < k → (0 ≤ g.C[j] ∧ g.C[j] ≤ 3) ∧ (0 ≤ g.T[j] ∧ g.T[j] ≤ 100), ⟨_, 0, rfl, rfl, by omega, rfl, fun j _ _ h => by omega⟩, ?_⟩
    rintro n i σ' ⟨k, rfl, rfl, hk, rfl, hj⟩ _
    refine bc_d (fun hlt => ?_) (fun hlt => ?_)
    · have hkl : k < g.C.length := by omega
      have hkh : k < g.T.length := by omega
      refine cut_intro fun J14 h14 => cut_intro fun J20 h20 => ?_
      have k14 : ((0 ≤ g.C[k] ∧ g.C[k] ≤ 3) ∧ (0 ≤ g.T[k] ∧ g.T[k] ≤ 100)) → J14 σ' := by
        intro hok
        rw [h14]
        intro _
        refine wk_i (by omega) (bk_of _ (by omega) ⟨k + 1, rfl, rfl, by omega, rfl, fun j h h' hjk => ?_⟩)
        rcases Nat.lt_or_ge j k with hlt | hge
        · exact hj j h h' hlt
        · have : j = k := by omega
          subst this
          exact hok
      have k20 : ∀ t, (t = true → ¬ g.ok = true) → (t = false → ((0 ≤ g.C[k] ∧ g.C[k] ≤ 3) ∧ (0 ≤ g.T[k] ∧ g.T[k] ≤ 100))) → J20 t σ' := by
        intro t ht hf
        rw [h20]
        intro _
        exact bc_b (fun h => rt_of (by simp [ht h])) (fun h => k14 (hf h))
      refine ix_ldI hg.c (by omega) (by simpa using hkl) ?_
      refine l_rw ?_
      simp only [Int.toNat_natCast]
      refine bc_nd (fun h => k20 _ (fun _ ho2 => h ((Gnd.ok_iff.1 ho2).2 k hkl hkh).1) (by simp)) (fun h => ?_)
      refine ix_ldI hg.h (by omega) (by simpa using hkh) ?_
      refine l_rw ?_
      simp only [Int.toNat_natCast]
      refine k20 _ (fun h' ho2 => ?_) (fun h' => ⟨h, by simpa using h'⟩)
      have := ((Gnd.ok_iff.1 ho2).2 k hkl hkh).2
      simp [this] at h'
    · rw [h6]
      intro _
      refine rt_of ?_
      have : g.ok = true := Gnd.ok_iff.2 ⟨ho, fun j h h' => hj j h h' (by omega)⟩
      simp [this]
  have k36 : ∀ t, t = !g.okS → J36 t σ := by
    rintro t rfl
    rw [h36]
    intro _
    refine bc_nb (fun h => rt_of ?_) (fun h => k3 h)
    simp [Gnd.ok, h]
  refine l_rw (bc_nd (fun h => bc_t (bc_t (k36 _ ?_))) (fun h => l_rw (bc_nd (fun h2 => bc_t (k36 _ ?_)) (fun h2 => ?_))))
  · simp [Gnd.okS, h]
  · simp [Gnd.okS, h2]
  · have := mulb h h2
    refine wk_i (by omega) (bc_nd (fun h3 => k36 _ ?_) (fun h3 => k36 _ ?_))
    · rw [hc] at h3
      simp [Gnd.okS, h3]
    · rw [hc] at h3
      refine congrArg Bool.not (decide_eq_decide.2 ⟨fun e => ⟨h, h2, h3, by omega⟩, fun ⟨_, _, _, e⟩ => by omega⟩)
end Go.Proofs.Ytmpkiaghkhhlhaa

/- Contracts of layer 4: finding; grounded, pitched, checkPitches. No conditions but those that each theorem names. -/
namespace Go.Proofs.Ytmpkiaghkhhlhaa
open Go.RowKit

/-! ### Finding -/
def fidx {α : Type} (p : α → Bool) (xs : List α) : Int := if xs.findIdx p < xs.length then (xs.findIdx p : Int) else -1
theorem fidx_at {α : Type} {p : α → Bool} {xs : List α} {k : Nat} (hk : k < xs.length) (h : p xs[k] = true) (hj : ∀ j, (h : j < xs.length) → j < k → p xs[j] = false) : fidx p xs = k := by
  have : xs.findIdx p = k := (List.findIdx_eq hk).2 ⟨h, fun j hjk => hj j (by omega) hjk⟩
  unfold fidx
  rw [this, if_pos hk]
theorem fidx_none {α : Type} {p : α → Bool} {xs : List α} (h : ∀ j, (h : j < xs.length) → p xs[j] = false) : fidx p xs = -1 := by
  have : xs.findIdx p = xs.length := List.findIdx_eq_length.2 fun x hx => by
    obtain ⟨i, hi, rfl⟩ := List.getElem_of_mem hx
    exact h i hi
  unfold fidx
  rw [this, if_neg (by omega)]
theorem fidx_any {α : Type} {p : α → Bool} {xs : List α} : decide (0 ≤ fidx p xs) = xs.any p := by
  unfold fidx
  split
  · rename_i h
    have : xs.any p = true := List.any_eq_true.2 ⟨_, List.getElem_mem h, List.findIdx_getElem⟩
    rw [this]
    simp
  · rename_i h
    have h1 : xs.findIdx p = xs.length := by have := List.findIdx_le_length (p := p) (xs := xs); omega
    have := List.findIdx_eq_length.1 h1
    simp
    intro x hx
    simp [this x hx]
/-- a function's value that decides p -/
def Dec {α : Type} (f : Value) (enc : α → Array Value) (p : α → Bool) (xs : List α) (σ : Hp) : Prop := ∀ a ∈ xs, ∀ K : Bool → Hp → Prop, K (p a) σ → cl Try.prog f (enc a) σ fun v σ' => ∃ t : Bool, (v = .bool t ∧ K t σ')
theorem Dec.of {α : Type} {g : FuncId} {caps : Array Value} {enc : α → Array Value} {p : α → Bool} {xs : List α} {σ : Hp} (he : enterB Try.prog g = true) (h : ∀ a ∈ xs, FCalls Try.prog g (app3 #[] (enc a) caps) σ fun u σ' => u = .bool (p a) ∧ σ' = σ) : Dec (.func (.func g) #[] caps) enc p xs σ :=
  fun a ha _ hk => FFun.func he ((h a ha).mono fun _ _ ⟨e1, e2⟩ => by subst e1; subst e2; exact ⟨_, rfl, hk⟩)
abbrev encI (a : Int) : Array Value := #[.int .i64 a]
theorem c_IndexFunc_int {σ : Hp} {A : Option Addr} {n c : Nat} {f : Value} {xs : List Int} {p : Int → Bool} (hx : RdS [.int .i64] σ A n xs) (hl : xs.length ≤ 4294967296) (hf : Dec f encI p xs σ) :
    FCalls Try.prog N_slices_IndexFunc_int #[.slice A n c, f] σ fun v σ' => v = .int .i64 (fidx p xs) ∧ σ' = σ := by
  refine M_slices_IndexFunc_int_ok _ _ _ _ _ _ ?_
  unfold M_slices_IndexFunc_int
  refine cut_intro fun J hJ => ?_
  have hn := hx.lenI
  refine ⟨fun n i σ' => ∃ k : Nat, n = xs.length - k ∧ i = k ∧ k ≤ xs.length ∧ σ' = σ ∧ ∀ j, (h : j < xs.length) → j < k → p xs[j] = false, ⟨_, 0, rfl, rfl, by omega, rfl, fun j _ h => by omega⟩, ?_⟩
  rintro n i σ' ⟨k, rfl, rfl, hk, rfl, hj⟩ _
  refine bc_d (fun hlt => ?_) (fun hlt => ?_)
  · have hkl : k < xs.length := by omega
    refine ix_ldI hx (by omega) (by simpa using hkl) ?_
    refine hf _ (List.getElem_mem _) _ ?_
    simp only [Int.toNat_natCast]
    refine bc_b (fun h => rt_of ⟨?_, rfl⟩) (fun h => wk_i (by omega) (bk_of _ (by omega) ⟨k + 1, rfl, rfl, by omega, rfl, fun j h' hjk => ?_⟩))
    · rw [fidx_at hkl h hj]
    · rcases Nat.lt_or_ge j k with hlt | hge
      · exact hj j h' hlt
      · have : j = k := by omega
        subst this
        exact h
  · subst hJ
    intro _
    refine rt_of ⟨?_, rfl⟩
    rw [fidx_none fun j h => hj j h (by omega)]
theorem c_ContainsFunc_int {σ : Hp} {A : Option Addr} {n c : Nat} {f : Value} {xs : List Int} {p : Int → Bool} (hx : RdS [.int .i64] σ A n xs) (hl : xs.length ≤ 4294967296) (hf : Dec f encI p xs σ) :
    FCalls Try.prog N_slices_ContainsFunc_int #[.slice A n c, f] σ fun v σ' => v = .bool (xs.any p) ∧ σ' = σ := by
  refine M_slices_ContainsFunc_int_ok _ _ _ _ _ _ ?_
  unfold M_slices_ContainsFunc_int
  refine clI M_slices_IndexFunc_int_enter (c_IndexFunc_int hx hl hf) (rt_of ⟨?_, rfl⟩)
  rw [fidx_any]
theorem c_grounded_1 {σ : Hp} {n : Int} : FCalls Try.prog N_ground_grounded_1 #[.int .i64 n] σ fun v σ' => v = .bool (!decide (0 ≤ n ∧ n ≤ 3)) ∧ σ' = σ := by
  refine M_ground_grounded_1_ok _ _ _ ?_
  unfold M_ground_grounded_1
  exact l_gw (rt_of ⟨rfl, rfl⟩)
theorem c_grounded_2 {σ : Hp} {n : Int} : FCalls Try.prog N_ground_grounded_2 #[.int .i64 n] σ fun v σ' => v = .bool (!decide (0 ≤ n ∧ n ≤ 100)) ∧ σ' = σ := by
  refine M_ground_grounded_2_ok _ _ _ ?_
  unfold M_ground_grounded_2
  exact l_gw (rt_of ⟨rfl, rfl⟩)
theorem c_grounded {σ : Hp} {x : GV} {g : Gnd} (hg : GRd σ x g) : FCalls Try.prog N_ground_grounded #[x.v g] σ fun v σ' => v = .bool g.ok ∧ σ' = σ := by
  refine M_ground_grounded_ok _ _ _ _ _ _ _ _ _ _ ?_
  unfold M_ground_grounded
  refine cut_intro fun J3 h3 => cut_intro fun J12 h12 => ?_
  have hc := hg.c.lenI
  have hh := hg.h.lenI
  have k3 : g.okS = true → J3 σ := by
    intro ho
    obtain ⟨l1, l2, l3⟩ := Gnd.okS_len ho
    rw [h3]
    intro _
    refine clB M_slices_ContainsFunc_int_enter (c_ContainsFunc_int hg.c (by omega) (Dec.of M_ground_grounded_1_enter fun a _ => c_grounded_1)) ?_
    refine bc_nb (fun h => clB M_slices_ContainsFunc_int_enter (c_ContainsFunc_int hg.h (by omega) (Dec.of M_ground_grounded_2_enter fun a _ => c_grounded_2)) (rt_of ⟨?_, rfl⟩)) (fun h => rt_of ⟨?_, rfl⟩)
    · have h' := congrArg Bool.not h
      simp only [List.not_any_eq_all_not, Bool.not_not, Bool.not_false] at h'
      simp only [List.not_any_eq_all_not, Bool.not_not, Gnd.ok, ho, h', Bool.true_and]
    · have h' := congrArg Bool.not h
      simp only [List.not_any_eq_all_not, Bool.not_not, Bool.not_true] at h'
      simp only [Gnd.ok, ho, h', Bool.and_false, Bool.false_and]
  have k12 : ∀ t, t = !g.okS → J12 t σ := by
    rintro t rfl
    rw [h12]
    intro _
    refine bc_nb (fun h => rt_of ?_) (fun h => k3 h)
    simp [Gnd.ok, h]
  refine l_gw (bc_nd (fun h => bc_t (bc_t (k12 _ ?_))) (fun h => l_gw (bc_nd (fun h2 => bc_t (k12 _ ?_)) (fun h2 => ?_))))
  · simp [Gnd.okS, h]
  · simp [Gnd.okS, h2]
  · have := mulb h h2
    refine wk_i (by omega) (bc_nd (fun h3 => k12 _ ?_) (fun h3 => k12 _ ?_))
    · rw [hc] at h3
      simp [Gnd.okS, h3]
    · rw [hc] at h3
      refine congrArg Bool.not (decide_eq_decide.2 ⟨fun e => ⟨h, h2, h3, by omega⟩, fun ⟨_, _, _, e⟩ => by omega⟩)

/-! ### Pitches -/
abbrev Pit := Int × Int × Int × Int × Int
abbrev sP : List Sh := [.int .i64, .int .i64, .int .i64, .int .i64, .int .i64]
abbrev pv (p : Pit) : Value := .agg #[.int .i64 p.1, .int .i64 p.2.1, .int .i64 p.2.2.1, .int .i64 p.2.2.2.1, .int .i64 p.2.2.2.2]
abbrev encP (p : Pit) : Array Value := #[pv p]
theorem RdS.lenP {σ : Hp} {A : Option Addr} {n : Nat} {xs : List Pit} (h : RdS sP σ A n xs) : n = xs.length := h.1
theorem ix_pit {σ : Hp} {A : Option Addr} {n : Nat} {xs : List Pit} {i : Int} {K : Int → Int → Int → Int → Int → Prop} (h : RdS sP σ A n xs) (hi : 0 ≤ i) (hn : i.toNat < xs.length) (hk : K xs[i.toNat].1 xs[i.toNat].2.1 xs[i.toNat].2.2.1 xs[i.toNat].2.2.2.1 xs[i.toNat].2.2.2.2) :
    ix A n i 5 fun b a => ldI σ .i64 b a fun x1 => ldI σ .i64 b (a + 1) fun x2 => ldI σ .i64 b (a + 2) fun x3 => ldI σ .i64 b (a + 3) fun x4 => ldI σ .i64 b (a + 4) fun x5 => K x1 x2 x3 x4 x5 := by
  refine ix_of (ss := sP) h rfl hi hn fun b o hc => ?_
  exact ldI_of (hc 0 (by decide)) (ldI_of (hc 1 (by decide)) (ldI_of (hc 2 (by decide)) (ldI_of (hc 3 (by decide)) (ldI_of (hc 4 (by decide)) hk))))
theorem ix_pit0 {σ : Hp} {A : Option Addr} {n : Nat} {xs : List Pit} {i : Int} {K : Int → Prop} (h : RdS sP σ A n xs) (hi : 0 ≤ i) (hn : i.toNat < xs.length) (hk : K xs[i.toNat].1) : ix A n i 5 fun b a => ldI σ .i64 b a K := by
  refine ix_of (ss := sP) h rfl hi hn fun b o hc => ?_
  exact ldI_of (hc 0 (by decide)) hk
theorem ix_pit1 {σ : Hp} {A : Option Addr} {n : Nat} {xs : List Pit} {i : Int} {K : Int → Prop} (h : RdS sP σ A n xs) (hi : 0 ≤ i) (hn : i.toNat < xs.length) (hk : K xs[i.toNat].2.1) : ix A n i 5 fun b a => ldI σ .i64 b (a + 1) K := by
  refine ix_of (ss := sP) h rfl hi hn fun b o hc => ?_
  exact ldI_of (hc 1 (by decide)) hk
def Gnd.pOK (g : Gnd) (p : Pit) : Bool := decide ((1 ≤ p.1 ∧ p.1 ≤ 8) ∧ (1 ≤ p.2.1 ∧ p.2.1 ≤ 8) ∧ (0 ≤ p.2.2.1 ∧ p.2.2.1 ≤ 100) ∧ (0 ≤ p.2.2.2.1 ∧ p.2.2.2.1 ≤ 1000) ∧ (-1 ≤ p.2.2.2.2 ∧ p.2.2.2.2 ≤ (g.C.length : Int) - 1))
theorem c_pitched {σ : Hp} {x : GV} {g : Gnd} {p : Pit} (hc : x.cn = g.C.length) (hl : g.C.length ≤ 4294967296) : FCalls Try.prog N_ground_pitched #[x.v g, pv p] σ fun v σ' => v = .bool (g.pOK p) ∧ σ' = σ := by
  refine M_ground_pitched_ok _ _ _ _ _ _ _ _ _ _ _ _ _ _ _ ?_
  unfold M_ground_pitched
  repeat' (first | refine wk_i (by omega) ?_ | refine l_gw ?_ | refine bc_t ?_ | refine bc_f ?_ | refine bc_d (fun _ => ?_) (fun _ => ?_))
  all_goals
    refine rt_of ⟨congrArg Value.bool ?_, rfl⟩
    simp only [Gnd.pOK, hc]
    first
      | (refine decide_eq_decide.2 ?_; constructor <;> (intro h; omega))
      | (symm; refine decide_eq_false ?_; omega)
theorem c_IndexFunc_pit {σ : Hp} {A : Option Addr} {n c : Nat} {f : Value} {xs : List Pit} {p : Pit → Bool} (hx : RdS sP σ A n xs) (hl : xs.length ≤ 4294967296) (hf : Dec f encP p xs σ) :
    FCalls Try.prog N_slices_IndexFunc_api_Pitch #[.slice A n c, f] σ fun v σ' => v = .int .i64 (fidx p xs) ∧ σ' = σ := by
  refine M_slices_IndexFunc_api_Pitch_ok _ _ _ _ _ _ ?_
  unfold M_slices_IndexFunc_api_Pitch
  refine cut_intro fun J hJ => ?_
  have hn := hx.lenP
  refine ⟨fun n i σ' => ∃ k : Nat, n = xs.length - k ∧ i = k ∧ k ≤ xs.length ∧ σ' = σ ∧ ∀ j, (h : j < xs.length) → j < k → p xs[j] = false, ⟨_, 0, rfl, rfl, by omega, rfl, fun j _ h => by omega⟩, ?_⟩
  rintro n i σ' ⟨k, rfl, rfl, hk, rfl, hj⟩ _
  refine bc_d (fun hlt => ?_) (fun hlt => ?_)
  · have hkl : k < xs.length := by omega
    refine ix_pit hx (by omega) (by simpa using hkl) ?_
    refine hf _ (List.getElem_mem (show (k : Int).toNat < xs.length by simpa using hkl)) _ ?_
    simp only [Int.toNat_natCast]
    refine bc_b (fun h => rt_of ⟨?_, rfl⟩) (fun h => wk_i (by omega) (bk_of _ (by omega) ⟨k + 1, rfl, rfl, by omega, rfl, fun j h' hjk => ?_⟩))
    · rw [fidx_at hkl h hj]
    · rcases Nat.lt_or_ge j k with hlt | hge
      · exact hj j h' hlt
      · have : j = k := by omega
        subst this
        exact h
  · subst hJ
    intro _
    refine rt_of ⟨?_, rfl⟩
    rw [fidx_none fun j h => hj j h (by omega)]
/-- the errors of a ground and pitches -/
def chkP (g : Gnd) (l : List Pit) : Int × Int := if g.ok = false then (0, 40) else if 8 < l.length then (0, 2) else if 0 ≤ fidx (fun p => !g.pOK p) l then (fidx (fun p => !g.pOK p) l, 41) else (0, 0)
theorem l_checkGround {σ : Hp} {x : GV} {g : Gnd} {K : Int → Hp → Prop} (hg : GRd σ x g) (h : K (if g.ok then 0 else 40) σ) : cl Try.prog (.func (.func N_ref04_checkGround) #[] #[]) #[x.v g] σ fun v σ' => ∃ t : Int, (v = .int .i64 t ∧ K t σ') :=
  clI M_ref04_checkGround_enter (c_ref04_checkGround hg) h
theorem c_checkPitches {σ : Hp} {x : GV} {g : Gnd} {A : Option Addr} {n c : Nat} {l : List Pit} (hg : GRd σ x g) (hx : RdS sP σ A n l) : FCalls Try.prog N_ref04_checkPitches #[x.v g, .slice A n c] σ fun v σ' => v = .tuple #[.int .i64 (chkP g l).1, .int .i64 (chkP g l).2] ∧ σ' = σ := by
  refine M_ref04_checkPitches_ok _ _ _ _ _ _ _ _ _ _ _ _ _ ?_
  unfold M_ref04_checkPitches
  have hc := hg.c.lenI
  have hn := hx.lenP
  refine l_checkGround hg ?_
  cases ho : g.ok with
  | false => exact bc_nd (fun _ => rt_of ⟨by simp [chkP, ho], rfl⟩) (fun h => by simp at h)
  | true =>
    obtain ⟨l1, l2, l3⟩ := Gnd.okS_len (Gnd.ok_iff.1 ho).1
    refine bc_nd (fun h => by simp at h) (fun _ => ?_)
    refine bc_d (fun h8 => rt_of ⟨by simp [chkP, ho, show 8 < l.length by omega], rfl⟩) (fun h8 => ?_)
    have h8' : ¬ 8 < l.length := by omega
    refine cut_intro fun J6 h6 => ?_
    refine ⟨fun n i σ' => ∃ k : Nat, n = l.length - k ∧ i = k ∧ k ≤ l.length ∧ σ' = σ ∧ ∀ j, (h : j < l.length) → j < k → (!g.pOK l[j]) = false, ⟨_, 0, rfl, rfl, by omega, rfl, fun j _ h => by omega⟩, ?_⟩
    rintro n i σ' ⟨k, rfl, rfl, hk, rfl, hj⟩ _
    refine bc_d (fun hlt => ?_) (fun hlt => ?_)
    · have hkl : k < l.length := by omega
      refine cut_intro fun J14 h14 => ?_
      refine ix_pit hx (by omega) (by simpa using hkl) ?_
      simp only [Int.toNat_natCast]
      refine cut_intro fun J27 h27 => ?_
      have k27 : ∀ t, t = (!g.pOK l[k]) → J27 t σ' := by
        rintro t rfl
        rw [h27]
        intro _
        refine bc_b (fun h => rt_of ⟨?_, rfl⟩) (fun h => ?_)
        · have := fidx_at (p := fun p => !g.pOK p) hkl h hj
          unfold chkP
          rw [this]
          simp [ho, h8']
        · rw [h14]
          intro _
          refine wk_i (by omega) (bk_of _ (by omega) ⟨k + 1, rfl, rfl, by omega, rfl, fun j h' hjk => ?_⟩)
          rcases Nat.lt_or_ge j k with hlt | hge
          · exact hj j h' hlt
          · have : j = k := by omega
            subst this
            exact h
      repeat' (first | refine wk_i (by omega) ?_ | refine l_rw ?_ | refine bc_t ?_ | refine bc_f ?_ | refine bc_nd (fun _ => ?_) (fun _ => ?_) | refine k27 _ ?_)
      all_goals
        simp only [Gnd.pOK, hc]
        first
          | (refine congrArg Bool.not (decide_eq_decide.2 ?_); constructor <;> (intro h; omega))
          | (symm; simp only [Bool.not_eq_true', decide_eq_false_iff_not]; omega)
    · subst h6
      intro _
      refine rt_of ⟨?_, rfl⟩
      have := fidx_none (p := fun p => !g.pOK p) fun j h => hj j h (by omega)
      unfold chkP
      rw [this]
      simp [ho, h8']
end Go.Proofs.Ytmpkiaghkhhlhaa

/- Contracts of layer 4: Cover. No conditions but those that each theorem names. -/
namespace Go.Proofs.Ytmpkiaghkhhlhaa
open Go.RowKit

/-! ### The cells of a pitch at a site -/
abbrev Sit := Int × Bool
abbrev sS : List Sh := [.int .i64, .bool]
abbrev sv (s : Sit) : Value := .agg #[.int .i64 s.1, .bool s.2]
def rowC (W x : Int) (w : Nat) (r : Int) : List Int := (List.range w).map fun k : Nat => r * W + (x + (k : Int))
def blkC (W x y : Int) (w h : Nat) : List Int := (List.range h).flatMap fun k : Nat => rowC W x w (y + (k : Int))
theorem rowC_succ (W x : Int) (j : Nat) (r : Int) : rowC W x (j + 1) r = rowC W x j r ++ [r * W + (x + (j : Int))] := by simp [rowC, List.range_succ]
theorem blkC_succ (W x y : Int) (w k : Nat) : blkC W x y w (k + 1) = blkC W x y w k ++ rowC W x w (y + (k : Int)) := by simp [blkC, List.range_succ]
theorem rowC_len (W x : Int) (j : Nat) (r : Int) : (rowC W x j r).length = j := by simp [rowC]
theorem blkC_len (W x y : Int) (w k : Nat) : (blkC W x y w k).length = k * w := by
  induction k with
  | zero => simp [blkC]
  | succ k ih => rw [blkC_succ, List.length_append, ih, rowC_len, Nat.succ_mul]
def Gnd.cov (g : Gnd) (w h c : Int) : List Int × Bool :=
  if (0 ≤ c ∧ c ≤ (g.C.length : Int) - 1) ∧ Int.tmod c g.W + w ≤ g.W ∧ Int.tdiv c g.W + h ≤ g.H then (blkC g.W (Int.tmod c g.W) (Int.tdiv c g.W) w.toNat h.toNat, true) else ([], false)
def Gnd.cover (g : Gnd) (p : Pit) (s : Sit) : List Int × Bool := if s.2 then g.cov p.2.1 p.1 s.1 else g.cov p.1 p.2.1 s.1
/-- a cell's column and row -/
theorem Gnd.xy {g : Gnd} (ho : g.okS = true) {c : Int} (h0 : 0 ≤ c) (h1 : c ≤ (g.C.length : Int) - 1) : 0 ≤ Int.tmod c g.W ∧ Int.tmod c g.W < g.W ∧ 0 ≤ Int.tdiv c g.W ∧ Int.tdiv c g.W < g.H ∧ Int.tdiv c g.W * g.W + Int.tmod c g.W = c := by
  obtain ⟨hW, hH, hl, _⟩ := okS_iff.1 ho
  have e := Int.mul_tdiv_add_tmod c g.W
  have e2 : Int.tdiv c g.W * g.W + Int.tmod c g.W = c := by rw [Int.mul_comm]; exact e
  have m0 := Int.tmod_nonneg g.W h0
  have m1 := Int.tmod_lt_of_pos c (show 0 < g.W by omega)
  have d0 : 0 ≤ Int.tdiv c g.W := Int.tdiv_nonneg h0 (by omega)
  refine ⟨m0, m1, d0, ?_, e2⟩
  rcases Int.lt_or_le (Int.tdiv c g.W) g.H with h | h
  · exact h
  · have : g.H * g.W ≤ Int.tdiv c g.W * g.W := Int.mul_le_mul_of_nonneg_right h (by omega)
    rw [Int.mul_comm g.H] at this
    omega
theorem mulle {a b : Int} {m n : Int} (h1 : 0 ≤ a) (h2 : a ≤ m) (h3 : 0 ≤ b) (h4 : b ≤ n) : 0 ≤ a * b ∧ a * b ≤ m * n := ⟨Int.mul_nonneg h1 h3, Int.mul_le_mul h2 h4 h3 (by omega)⟩

theorem c_Cover {σ : Hp} {x : GV} {g : Gnd} {p : Pit} {s : Sit} (hc : x.cn = g.C.length) (ho : g.okS = true) (hp : g.pOK p = true) :
    FCalls Try.prog N_ref04_Cover #[x.v g, pv p, sv s] σ (NewLB 3 [.int .i64] σ (g.cover p s).1 (g.cover p s).2) := by
  refine M_ref04_Cover_ok _ _ _ _ _ _ _ _ _ _ _ _ _ _ _ _ _ ?_
  unfold M_ref04_Cover
  obtain ⟨hW, hH, hl, _⟩ := Gnd.okS_iff.1 ho
  obtain ⟨l1, l2, _⟩ := Gnd.okS_len ho
  have hp' := of_decide_eq_true hp
  refine wk_i (by omega) (l_rw (bc_nd (fun h => rt_of ?_) (fun h => ?_)))
  · refine ⟨none, 0, 0, ?_, ?_⟩
    · have : (g.cover p s).2 = false := by
        unfold Gnd.cover Gnd.cov
        have : ¬ (0 ≤ s.1 ∧ s.1 ≤ (g.C.length : Int) - 1) := by rw [hc] at h; exact h
        split <;> simp only [this, false_and, if_false]
      rw [this]
    · have : (g.cover p s).1 = [] := by
        unfold Gnd.cover Gnd.cov
        have : ¬ (0 ≤ s.1 ∧ s.1 ≤ (g.C.length : Int) - 1) := by rw [hc] at h; exact h
        split <;> simp only [this, false_and, if_false]
      rw [this]
      exact OwnSl.nil ..
  rw [hc] at h
  obtain ⟨m0, m1, d0, d1, e⟩ := Gnd.xy ho h.1 h.2
  refine cut_intro fun J7 h7 => ?_
  have k7 : ∀ w h' : Int, (1 ≤ w ∧ w ≤ 8) → (1 ≤ h' ∧ h' ≤ 8) → g.cover p s = g.cov w h' s.1 → J7 w h' σ := by
    intro w hh bw bh hcov
    rw [h7, hcov]
    intro _
    refine ⟨by omega, by omega, wk_i (by omega) ?_⟩
    refine cut_intro fun J13 h13 => cut_intro fun J50 h50 => ?_
    have k13 : (Int.tmod s.1 g.W + w ≤ g.W ∧ Int.tdiv s.1 g.W + hh ≤ g.H) → J13 σ := by
      intro hin
      rw [h13]
      intro _
      refine cut_intro fun J16 h16 => ?_
      have ecov : g.cov w hh s.1 = (blkC g.W (Int.tmod s.1 g.W) (Int.tdiv s.1 g.W) w.toNat hh.toNat, true) := by
        unfold Gnd.cov
        rw [if_pos ⟨h, hin⟩]
      rw [ecov] at h16
      generalize hx : Int.tmod s.1 g.W = X at *
      generalize hy : Int.tdiv s.1 g.W = Y at *
      refine ⟨fun n A l c r σ' => ∃ k : Nat, n = hh.toNat - k ∧ r = Y + k ∧ k ≤ hh.toNat ∧ OwnSl 3 [.int .i64] σ A l c (blkC g.W X Y w.toNat k) σ', ⟨_, 0, rfl, by omega, by omega, ?_⟩, ?_⟩
      · exact OwnSl.nil ..
      rintro n A l c r σ' ⟨k, rfl, rfl, hk, hown⟩ _
      refine wk_i (by omega) (bc_d (fun hlt => ?_) (fun hlt => ?_))
      · refine cut_intro fun J27 h27 => ?_
        refine ⟨fun n A l c q σ' => ∃ j : Nat, n = w.toNat - j ∧ q = X + j ∧ j ≤ w.toNat ∧ OwnSl 3 [.int .i64] σ A l c (blkC g.W X Y w.toNat k ++ rowC g.W X j (Y + k)) σ', ⟨_, 0, rfl, by omega, by omega, ?_⟩, ?_⟩
        · simpa [rowC] using hown
        rintro n A l c q σ' ⟨j, rfl, rfl, hj, hown⟩ _
        refine wk_i (by omega) (bc_d (fun hlt2 => ?_) (fun hlt2 => ?_))
        · have b1 := mulle (a := Y + (k : Int)) (b := g.W) (m := 8) (n := 8) (by omega) (by omega) (by omega) (by omega)
          refine wk_i (by omega) (wk_i (by omega) (adp_own hown (roomy_i ?_ (wk_i (by omega) (bk_of _ ?_ fun A l c σ' hown' => ⟨j + 1, rfl, by omega, by omega, ?_⟩)))))
          · have b2 : k * w.toNat ≤ 8 * 8 := Nat.mul_le_mul (by omega) (by omega)
            simp only [List.length_append, blkC_len, rowC_len, List.length_cons, List.length_nil]
            omega
          · omega
          · rw [rowC_succ, ← List.append_assoc]
            exact hown'
        · rw [h27]
          intro _
          refine wk_i (by omega) (bk_of _ ?_ ⟨k + 1, rfl, by omega, by omega, ?_⟩)
          · omega
          · have : j = w.toNat := by omega
            subst this
            rw [blkC_succ]
            exact hown
      · rw [h16]
        intro _
        have : k = hh.toNat := by omega
        subst this
        exact rt_of ⟨_, _, _, rfl, hown⟩
    have k50 : ∀ t, t = !decide (Int.tmod s.1 g.W + w ≤ g.W ∧ Int.tdiv s.1 g.W + hh ≤ g.H) → J50 t σ := by
      rintro t rfl
      rw [h50]
      intro _
      refine bc_nd (fun hn => rt_of ?_) (fun hn => k13 hn)
      have : g.cov w hh s.1 = ([], false) := by
        unfold Gnd.cov
        rw [if_neg fun h => hn h.2]
      rw [this]
      exact ⟨none, 0, 0, rfl, OwnSl.nil ..⟩
    refine wk_i (by omega) (bc_d (fun h1 => k50 _ ?_) (fun h1 => wk_i (by omega) (k50 _ ?_)))
    · simp only [Bool.true_eq, Bool.not_eq_true', decide_eq_false_iff_not]; omega
    · simp only [← decide_not]
      exact decide_eq_decide.2 (by omega)
  refine bc_b (fun ht => k7 _ _ (by omega) (by omega) ?_) (fun ht => k7 _ _ (by omega) (by omega) ?_) <;> simp [Gnd.cover, ht]
end Go.Proofs.Ytmpkiaghkhhlhaa

/- Contracts of layer 4: fields in memory. No conditions but those that each theorem names. -/
namespace Go.Proofs.Ytmpkiaghkhhlhaa
open Go.RowKit

/-! ### Fields -/
structure Fd where
  g : Gnd
  l : List Pit
  st : List Sit
  tk : List Int
/-- where they lie -/
structure FA where
  x : GV
  lA : Option Addr
  ln : Nat
  lc : Nat
  sA : Option Addr
  sn : Nat
  sc : Nat
  tA : Option Addr
  tn : Nat
  tc : Nat
def FA.cells (V : FA) (g : Gnd) : Array Value := #[.int .i64 g.W, .int .i64 g.H, .slice V.x.cA V.x.cn V.x.cc, .slice V.x.hA V.x.hn V.x.hc, .slice V.lA V.ln V.lc, .slice V.sA V.sn V.sc, .slice V.tA V.tn V.tc]
structure Fd.ok (F : Fd) : Prop where
  g : F.g.ok = true
  p : ∀ i, (h : i < F.l.length) → F.g.pOK F.l[i] = true
  l : F.l.length ≤ 8
  st : F.st.length = F.l.length
  tk : F.tk.length = F.g.C.length
theorem Fd.ok.s {F : Fd} (h : F.ok) : F.g.okS = true := (Gnd.ok_iff.1 h.g).1
theorem Fd.ok.len {F : Fd} (h : F.ok) : 1 ≤ F.g.C.length ∧ F.g.C.length ≤ 64 ∧ F.g.T.length = F.g.C.length := Gnd.okS_len h.s
/-- the part that is only read -/
structure FdB (σ : Hp) (f : Option Addr) (V : FA) (g : Gnd) (l : List Pit) : Prop where
  o : ∃ b rw, f = some ⟨b, 0, none⟩ ∧ σ b = some (.cells (V.cells g) 73 (0, 0), rw)
  gr : GRd σ V.x g
  pr : RdS sP σ V.lA V.ln l
/-- a field that can be read -/
structure FdR (σ : Hp) (f : Option Addr) (V : FA) (F : Fd) : Prop extends FdB σ f V F.g F.l where
  sr : RdS sS σ V.sA V.sn F.st
  tr : RdS [.int .i64] σ V.tA V.tn F.tk
/-- a field that can be written: beside σ0 there are its sites and what is taken -/
def FdW (σ0 σ : Hp) (f : Option Addr) (V : FA) (F : Fd) : Prop := FdB σ0 f V F.g F.l ∧ ∃ σ1 σ2, OwnSl 50 sS σ0 V.sA V.sn V.sc F.st σ1 ∧ OwnSl 3 [.int .i64] σ1 V.tA V.tn V.tc F.tk σ2 ∧ Hp.Sub σ2 σ
theorem FdB.sub {σ σ' : Hp} {f : Option Addr} {V : FA} {g : Gnd} {l : List Pit} (h : FdB σ f V g l) (hs : Hp.Sub σ σ') : FdB σ' f V g l :=
  ⟨let ⟨b, rw, h1, h2⟩ := h.o; ⟨b, rw, h1, hs _ _ h2⟩, h.gr.sub hs, h.pr.sub hs⟩
theorem FdR.sub {σ σ' : Hp} {f : Option Addr} {V : FA} {F : Fd} (h : FdR σ f V F) (hs : Hp.Sub σ σ') : FdR σ' f V F := ⟨h.toFdB.sub hs, h.sr.sub hs, h.tr.sub hs⟩
theorem FdW.base {σ0 σ : Hp} {f : Option Addr} {V : FA} {F : Fd} (h : FdW σ0 σ f V F) : Hp.Sub σ0 σ := let ⟨_, _, _, h1, h2, h3⟩ := h; h1.sub.trans (h2.sub.trans h3)
theorem FdW.r {σ0 σ : Hp} {f : Option Addr} {V : FA} {F : Fd} (h : FdW σ0 σ f V F) : FdR σ f V F :=
  let ⟨h0, _, _, h1, h2, h3⟩ := h; ⟨h0.sub (h1.sub.trans (h2.sub.trans h3)), h1.rd.sub (h2.sub.trans h3), h2.rd.sub h3⟩
theorem FdW.less {σ0 σ σ' : Hp} {f : Option Addr} {V : FA} {F : Fd} (h : FdW σ0 σ f V F) (hs : Hp.Sub σ σ') : FdW σ0 σ' f V F :=
  let ⟨h0, σ1, σ2, h1, h2, h3⟩ := h; ⟨h0, σ1, σ2, h1, h2, h3.trans hs⟩
/-- one more slice beside it -/
theorem FdW.own {σ0 σ σ' : Hp} {f : Option Addr} {V : FA} {F : Fd} (h : FdW σ0 σ f V F) {e : TypeId} {ss : List Sh} {A : Option Addr} {n c : Nat} {xs : List (TyR ss)} (ho : OwnSl e ss σ A n c xs σ') : ∃ σ0', OwnSl e ss σ0 A n c xs σ0' ∧ FdW σ0' σ' f V F := by
  rcases ho with ⟨h1, h2, h3, h4, rfl⟩ | ⟨b, off, cells, hA, hn, hnc, hb, rfl, hsz, hr⟩
  · exact ⟨σ0, .inl ⟨h1, h2, h3, h4, rfl⟩, h⟩
  · have hb0 := h.base.none hb
    obtain ⟨h0, σ1, σ2, h1, h2, h3⟩ := h
    have hb2 := h3.none hb
    have hb1 := h2.sub.none hb2
    exact ⟨_, .inr ⟨b, off, cells, hA, hn, hnc, hb0, rfl, hsz, hr⟩, h0.sub (Hp.Sub.ins _ hb0), _, _, h1.ins_base hb1 _, h2.ins_base hb2 _, h3.ins_both b _⟩

section
variable {σ : Hp} {f : Option Addr} {V : FA} {g : Gnd} {l : List Pit}
theorem FdB.cell (h : FdB σ f V g l) : ∃ b, f = some ⟨b, 0, none⟩ ∧ ∀ i, σ.cell? ⟨b, i, none⟩ = (V.cells g)[i]? := by
  obtain ⟨b, rw, h1, h2⟩ := h.o
  refine ⟨b, h1, fun i => ?_⟩
  unfold Hp.cell?
  simp only [h2]
  rfl
theorem FdB.dW (h : FdB σ f V g l) {K : Int → Prop} (hk : K g.W) : dr f fun b o => ldI σ .i64 b o K := by
  obtain ⟨b, rfl, hc⟩ := h.cell
  exact dr_i (ldI_of ((hc _).trans rfl) hk)
theorem FdB.dH (h : FdB σ f V g l) {K : Int → Prop} (hk : K g.H) : dr f fun b o => ldI σ .i64 b (o + 1) K := by
  obtain ⟨b, rfl, hc⟩ := h.cell
  exact dr_i (ldI_of ((hc _).trans rfl) hk)
theorem FdB.dC (h : FdB σ f V g l) {K : Option Addr → Nat → Nat → Prop} (hk : K V.x.cA V.x.cn V.x.cc) : dr f fun b o => ldS σ b (o + 2) K := by
  obtain ⟨b, rfl, hc⟩ := h.cell
  exact dr_i (ldS_of ((hc _).trans rfl) hk)
theorem FdB.dT (h : FdB σ f V g l) {K : Option Addr → Nat → Nat → Prop} (hk : K V.x.hA V.x.hn V.x.hc) : dr f fun b o => ldS σ b (o + 3) K := by
  obtain ⟨b, rfl, hc⟩ := h.cell
  exact dr_i (ldS_of ((hc _).trans rfl) hk)
theorem FdB.dP (h : FdB σ f V g l) {K : Option Addr → Nat → Nat → Prop} (hk : K V.lA V.ln V.lc) : dr f fun b o => ldS σ b (o + 4) K := by
  obtain ⟨b, rfl, hc⟩ := h.cell
  exact dr_i (ldS_of ((hc _).trans rfl) hk)
theorem FdB.dS (h : FdB σ f V g l) {K : Option Addr → Nat → Nat → Prop} (hk : K V.sA V.sn V.sc) : dr f fun b o => ldS σ b (o + 5) K := by
  obtain ⟨b, rfl, hc⟩ := h.cell
  exact dr_i (ldS_of ((hc _).trans rfl) hk)
theorem FdB.dK (h : FdB σ f V g l) {K : Option Addr → Nat → Nat → Prop} (hk : K V.tA V.tn V.tc) : dr f fun b o => ldS σ b (o + 6) K := by
  obtain ⟨b, rfl, hc⟩ := h.cell
  exact dr_i (ldS_of ((hc _).trans rfl) hk)
end
/-- a number of a list that is read -/
theorem gix {σ : Hp} {A : Option Addr} {n : Nat} {xs : List Int} {i : Int} {K : Int → Prop} (h : RdS [.int .i64] σ A n xs) (hi : 0 ≤ i) (hn : i < xs.length) (hk : ∀ h : i.toNat < xs.length, K xs[i.toNat]) : ix A n i 1 fun b a => ldI σ .i64 b a K :=
  ix_ldI h hi (by omega) (hk (by omega))
end Go.Proofs.Ytmpkiaghkhhlhaa

/- Contracts of layer 4: fits of the reference. No conditions but those that each theorem names. -/
namespace Go.Proofs.Ytmpkiaghkhhlhaa
open Go.RowKit

/-- a number of a list -/
def gt (xs : List Int) (i : Int) : Int := xs.getD i.toNat 0
theorem gt_eq {xs : List Int} {i : Int} (h : i.toNat < xs.length) : gt xs i = xs[i.toNat] := by simp [gt, List.getD, h]
theorem gt_nat {xs : List Int} {k : Nat} (h : k < xs.length) : gt xs k = xs[k] := by rw [gt_eq (by simpa using h)]; simp
theorem gixg {σ : Hp} {A : Option Addr} {n : Nat} {xs : List Int} {i : Int} {K : Int → Prop} (h : RdS [.int .i64] σ A n xs) (hi : 0 ≤ i) (hn : i < xs.length) (hk : K (gt xs i)) : ix A n i 1 fun b a => ldI σ .i64 b a K :=
  gix h hi hn fun h' => by rw [← gt_eq h']; exact hk
theorem gt_in {xs : List Int} {a b : Int} (h : ∀ x ∈ xs, a ≤ x ∧ x ≤ b) (h0 : a ≤ 0 ∧ 0 ≤ b) (i : Int) : a ≤ gt xs i ∧ gt xs i ≤ b := by
  by_cases hi : i.toNat < xs.length
  · rw [gt_eq hi]; exact h _ (List.getElem_mem hi)
  · have : gt xs i = 0 := by simp [gt, List.getD, hi]
    rw [this]; exact h0
theorem Gnd.okT {g : Gnd} (h : g.ok = true) : ∀ x ∈ g.T, 0 ≤ x ∧ x ≤ 100 := by
  unfold Gnd.ok at h
  simp only [Bool.and_eq_true, List.all_eq_true, decide_eq_true_eq] at h
  exact h.2
theorem Gnd.okC {g : Gnd} (h : g.ok = true) : ∀ x ∈ g.C, 0 ≤ x ∧ x ≤ 3 := by
  unfold Gnd.ok at h
  simp only [Bool.and_eq_true, List.all_eq_true, decide_eq_true_eq] at h
  exact h.1.2
theorem Gnd.ok.s {g : Gnd} (h : g.ok = true) : g.okS = true := (Gnd.ok_iff.1 h).1

/-! ### What is covered lies on the ground -/
theorem mem_rowC {W x r c : Int} {w : Nat} : c ∈ rowC W x w r ↔ ∃ k : Nat, k < w ∧ c = r * W + (x + k) := by
  simp only [rowC, List.mem_map, List.mem_range]
  exact ⟨fun ⟨k, h, e⟩ => ⟨k, h, e.symm⟩, fun ⟨k, h, e⟩ => ⟨k, h, e.symm⟩⟩
theorem mem_blkC {W x y c : Int} {w h : Nat} : c ∈ blkC W x y w h ↔ ∃ k : Nat, k < h ∧ ∃ j : Nat, j < w ∧ c = (y + k) * W + (x + j) := by
  simp only [blkC, List.mem_flatMap, List.mem_range, mem_rowC]
theorem Gnd.cov_in {g : Gnd} (ho : g.okS = true) {w h c : Int} (hw : 1 ≤ w) (hh : 1 ≤ h) : ∀ a ∈ (g.cov w h c).1, 0 ≤ a ∧ a < g.C.length := by
  intro a ha
  unfold Gnd.cov at ha
  split at ha
  · rename_i hin
    obtain ⟨hc, hx, hy⟩ := hin
    obtain ⟨m0, m1, d0, d1, e⟩ := Gnd.xy ho hc.1 hc.2
    obtain ⟨k, hk, j, hj, rfl⟩ := mem_blkC.1 ha
    obtain ⟨hW, hH, hl, _⟩ := Gnd.okS_iff.1 ho
    generalize Int.tmod c g.W = X at *
    generalize Int.tdiv c g.W = Y at *
    have e1 : 0 ≤ (Y + k) * g.W := Int.mul_nonneg (by omega) (by omega)
    have e2 : (Y + k) * g.W ≤ (g.H - 1) * g.W := Int.mul_le_mul_of_nonneg_right (by omega) (by omega)
    rw [Int.sub_mul, Int.one_mul, Int.mul_comm g.H] at e2
    omega
  · cases ha
theorem Gnd.cover_in {g : Gnd} (ho : g.okS = true) {p : Pit} (hp : g.pOK p = true) {s : Sit} : ∀ a ∈ (g.cover p s).1, 0 ≤ a ∧ a < g.C.length := by
  have := of_decide_eq_true hp
  unfold Gnd.cover
  split <;> exact Gnd.cov_in ho (by omega) (by omega)
theorem Gnd.cov_len {g : Gnd} {w h c : Int} (hw : 1 ≤ w ∧ w ≤ 8) (hh : 1 ≤ h ∧ h ≤ 8) : (g.cov w h c).1.length ≤ 64 ∧ ((g.cov w h c).2 = true → 0 < (g.cov w h c).1.length) := by
  unfold Gnd.cov
  split
  · simp only [blkC_len]
    have b1 : h.toNat * w.toNat ≤ 8 * 8 := Nat.mul_le_mul (by omega) (by omega)
    have b2 : 1 * 1 ≤ h.toNat * w.toNat := Nat.mul_le_mul (by omega) (by omega)
    omega
  · simp
theorem Gnd.cover_len {g : Gnd} {p : Pit} (hp : g.pOK p = true) {s : Sit} : (g.cover p s).1.length ≤ 64 ∧ ((g.cover p s).2 = true → 0 < (g.cover p s).1.length) := by
  have := of_decide_eq_true hp
  unfold Gnd.cover
  split <;> exact Gnd.cov_len (by omega) (by omega)

/-! ### Does a pitch fit -/
def loT (T cs : List Int) (k : Nat) : Int := (cs.take k).foldl (fun a c => if gt T c < a then gt T c else a) (gt T (gt cs 0))
def hiT (T cs : List Int) (k : Nat) : Int := (cs.take k).foldl (fun a c => if gt T c > a then gt T c else a) (gt T (gt cs 0))
theorem loT_succ {T cs : List Int} {k : Nat} (h : k < cs.length) : loT T cs (k + 1) = if gt T (gt cs k) < loT T cs k then gt T (gt cs k) else loT T cs k := by
  unfold loT
  rw [List.take_succ_eq_append_getElem h, List.foldl_append, gt_nat h]
  rfl
theorem hiT_succ {T cs : List Int} {k : Nat} (h : k < cs.length) : hiT T cs (k + 1) = if gt T (gt cs k) > hiT T cs k then gt T (gt cs k) else hiT T cs k := by
  unfold hiT
  rw [List.take_succ_eq_append_getElem h, List.foldl_append, gt_nat h]
  rfl
theorem loT_in {T cs : List Int} (h : ∀ x ∈ T, 0 ≤ x ∧ x ≤ 100) : ∀ k, k ≤ cs.length → 0 ≤ loT T cs k ∧ loT T cs k ≤ 100
  | 0, _ => by simpa [loT] using gt_in h (by omega) _
  | k + 1, hk => by
    have := loT_in (cs := cs) h k (by omega)
    have := gt_in h (by omega) (gt cs k)
    rw [loT_succ (by omega)]
    split <;> omega
theorem hiT_in {T cs : List Int} (h : ∀ x ∈ T, 0 ≤ x ∧ x ≤ 100) : ∀ k, k ≤ cs.length → 0 ≤ hiT T cs k ∧ hiT T cs k ≤ 100
  | 0, _ => by simpa [hiT] using gt_in h (by omega) _
  | k + 1, hk => by
    have := hiT_in (cs := cs) h k (by omega)
    have := gt_in h (by omega) (gt cs k)
    rw [hiT_succ (by omega)]
    split <;> omega
/-- fits, of what holds of each cell -/
def Gnd.fit (g : Gnd) (p : Pit) (s : Sit) (q : Int → Bool) : Bool :=
  (g.cover p s).2 && !(s.2 && decide (p.1 = p.2.1)) && (g.cover p s).1.all q && decide (hiT g.T (g.cover p s).1 (g.cover p s).1.length - loT g.T (g.cover p s).1 (g.cover p s).1.length ≤ p.2.2.1)
def Gnd.grass (g : Gnd) (c : Int) : Bool := decide (gt g.C c = 0)
theorem l_Cover {σ : Hp} {x : GV} {g : Gnd} {p : Pit} {s : Sit} {K : Option Addr → Nat → Nat → Bool → Hp → Prop} (hc : x.cn = g.C.length) (ho : g.okS = true) (hp : g.pOK p = true) (h : ∀ A n c σ', OwnSl 3 [.int .i64] σ A n c (g.cover p s).1 σ' → K A n c (g.cover p s).2 σ') :
    cl Try.prog (.func (.func N_ref04_Cover) #[] #[]) #[x.v g, pv p, sv s] σ fun v σ' => ∃ A : Option Addr, ∃ l c : Nat, ∃ t : Bool, (v = .tuple #[.slice A l c, .bool t] ∧ K A l c t σ') :=
  clSB M_ref04_Cover_enter (c_Cover hc ho hp) h
theorem all_false {cs : List Int} {q : Int → Bool} {k : Nat} (hk : k < cs.length) (h : q (gt cs k) = false) : cs.all q = false := by
  rw [gt_nat hk] at h
  cases e : cs.all q with
  | false => rfl
  | true => rw [List.all_eq_true] at e; rw [e _ (List.getElem_mem hk)] at h; cases h
theorem all_true {cs : List Int} {q : Int → Bool} (h : ∀ j : Nat, j < cs.length → q (gt cs j) = true) : cs.all q = true := by
  rw [List.all_eq_true]
  intro x hx
  obtain ⟨i, hi, rfl⟩ := List.getElem_of_mem hx
  rw [← gt_nat hi]
  exact h i hi
theorem gt_mem {cs : List Int} {k : Nat} (h : k < cs.length) : gt cs k ∈ cs := by rw [gt_nat h]; exact List.getElem_mem h

theorem c_ref04_fits {σ : Hp} {x : GV} {g : Gnd} {p : Pit} {s : Sit} (hg : GRd σ x g) (hok : g.ok = true) (hp : g.pOK p = true) :
    FCalls Try.prog N_ref04_fits #[x.v g, pv p, sv s] σ fun v σ' => v = .bool (g.fit p s g.grass) ∧ σ' = σ := by
  refine M_ref04_fits_ok _ _ _ _ _ _ _ _ _ _ _ _ _ _ _ _ _ ?_
  unfold M_ref04_fits
  have ho := Gnd.ok.s hok
  have hcn := hg.c.lenI
  refine l_Cover hcn ho hp fun A n c σ' hown => ?_
  have hl := hown.len
  have hl' : n = (g.cover p s).1.length := hl
  have hin := Gnd.cover_in (s := s) ho hp
  obtain ⟨l1, l2⟩ := Gnd.cover_len (s := s) hp
  have hrd := hown.rd
  have hrd' : RdS [.int .i64] σ' A n (g.cover p s).1 := hrd
  have hg' := hg.sub hown.sub
  have hs := hown.sub
  have hT := Gnd.okT hok
  obtain ⟨_, g2, g3⟩ := Gnd.okS_len ho
  unfold Gnd.fit
  generalize (g.cover p s).1 = cs at *
  generalize (g.cover p s).2 = is at *
  refine cut_intro fun J7 h7 => cut_intro fun J56 h56 => ?_
  have k7 : is = true → (s.2 && decide (p.1 = p.2.1)) = false → J7 σ' := by
    rintro rfl hq
    rw [h7, hq]
    intro _
    have l3 := l2 rfl
    have i0 : 0 ≤ gt cs 0 ∧ gt cs 0 < g.C.length := hin _ (gt_mem l3)
    refine gixg hrd' (by omega) (by omega) ?_
    refine gixg hg'.h (by omega) (by omega) ?_
    refine gixg hrd' (by omega) (by omega) ?_
    refine gixg hg'.h (by omega) (by omega) ?_
    refine cut_intro fun J22 h22 => ?_
    refine ⟨fun n lo hi i τ => ∃ k : Nat, n = cs.length - k ∧ i = k ∧ k ≤ cs.length ∧ lo = loT g.T cs k ∧ hi = hiT g.T cs k ∧ τ = σ' ∧ ∀ j : Nat, j < k → g.grass (gt cs j) = true, ⟨_, 0, rfl, rfl, by omega, by simp [loT], by simp [hiT], rfl, fun j h => by omega⟩, ?_⟩
    rintro m lo hi i τ ⟨k, rfl, rfl, hk, rfl, rfl, rfl, hj⟩ _
    refine bc_d (fun hlt => ?_) (fun hlt => ?_)
    · have hkl : k < cs.length := by omega
      have ik := hin _ (gt_mem hkl)
      refine gixg hrd' (by omega) (by omega) ?_
      refine gixg hg'.c (by omega) (by omega) ?_
      refine bc_nd (fun hn => rt_sub hs ⟨?_, rfl⟩) (fun hn => ?_)
      · rw [all_false hkl (show g.grass (gt cs k) = false by simpa [Gnd.grass] using hn)]
        simp
      · refine gixg hrd' (by omega) (by omega) ?_
        refine gixg hg'.h (by omega) (by omega) ?_
        refine gixg hrd' (by omega) (by omega) ?_
        refine gixg hg'.h (by omega) (by omega) ?_
        refine wk_i (by omega) (bk_of _ (by omega) ⟨k + 1, rfl, rfl, by omega, (loT_succ hkl).symm, (hiT_succ hkl).symm, rfl, fun j hjk => ?_⟩)
        rcases Nat.lt_or_ge j k with hlt | hge
        · exact hj j hlt
        · have : j = k := by omega
          subst this
          simpa [Gnd.grass] using hn
    · rw [h22]
      intro _
      have : k = cs.length := by omega
      subst this
      have := loT_in hT cs.length (Nat.le_refl (cs.length))
      have := hiT_in hT cs.length (Nat.le_refl (cs.length))
      refine wk_i (by omega) (rt_sub hs ⟨?_, rfl⟩)
      rw [all_true hj]
      simp
  have k56 : ∀ t, t = (!is || (s.2 && decide (p.1 = p.2.1))) → J56 t σ' := by
    rintro t rfl
    rw [h56]
    intro _
    refine bc_b (fun h => rt_sub hs ⟨?_, rfl⟩) (fun h => k7 ?_ ?_)
    · cases is <;> simp_all
    · cases is <;> simp_all
    · cases is <;> simp_all
  refine bc_nb (fun h => k56 _ ?_) (fun h => bc_b (fun h2 => k56 _ ?_) (fun h2 => k56 _ ?_)) <;> simp [h, *]
end Go.Proofs.Ytmpkiaghkhhlhaa

/- Contracts of layer 4: cells and fits of a field. No conditions but those that each theorem names. -/
namespace Go.Proofs.Ytmpkiaghkhhlhaa
open Go.RowKit

theorem tail_or {α : Type} {p : α → Prop} {k j : Nat} {f : Nat → α} (hj : ∀ j, j < k → p (f j)) (hk : p (f k)) (h : j < k + 1) : p (f j) := by
  rcases Nat.lt_or_ge j k with hlt | hge
  · exact hj j hlt
  · have : j = k := by omega
    subst this
    exact hk
/-- a pitch by its number -/
def pt (l : List Pit) (i : Int) : Pit := l.getD i.toNat (0, 0, 0, 0, 0)
theorem pt_eq {l : List Pit} {i : Int} (h : i.toNat < l.length) : pt l i = l[i.toNat] := by simp [pt, List.getD, h]
theorem pt_nat {l : List Pit} {k : Nat} (h : k < l.length) : pt l k = l[k] := by rw [pt_eq (by simpa using h)]; simp
theorem pix {σ : Hp} {A : Option Addr} {n : Nat} {xs : List Pit} {i : Int} {K : Int → Int → Int → Int → Int → Prop} (h : RdS sP σ A n xs) (hi : 0 ≤ i) (hn : i < xs.length) (hk : K (pt xs i).1 (pt xs i).2.1 (pt xs i).2.2.1 (pt xs i).2.2.2.1 (pt xs i).2.2.2.2) :
    ix A n i 5 fun b a => ldI σ .i64 b a fun x1 => ldI σ .i64 b (a + 1) fun x2 => ldI σ .i64 b (a + 2) fun x3 => ldI σ .i64 b (a + 3) fun x4 => ldI σ .i64 b (a + 4) fun x5 => K x1 x2 x3 x4 x5 :=
  ix_pit h hi (by omega) (by rw [← pt_eq (by omega)]; exact hk)
theorem pix0 {σ : Hp} {A : Option Addr} {n : Nat} {xs : List Pit} {i : Int} {K : Int → Prop} (h : RdS sP σ A n xs) (hi : 0 ≤ i) (hn : i < xs.length) (hk : K (pt xs i).1) : ix A n i 5 fun b a => ldI σ .i64 b a K :=
  ix_pit0 h hi (by omega) (by rw [← pt_eq (by omega)]; exact hk)
theorem pix1 {σ : Hp} {A : Option Addr} {n : Nat} {xs : List Pit} {i : Int} {K : Int → Prop} (h : RdS sP σ A n xs) (hi : 0 ≤ i) (hn : i < xs.length) (hk : K (pt xs i).2.1) : ix A n i 5 fun b a => ldI σ .i64 b (a + 1) K :=
  ix_pit1 h hi (by omega) (by rw [← pt_eq (by omega)]; exact hk)
/-- a site by its number -/
def sit (l : List Sit) (i : Int) : Sit := l.getD i.toNat (0, false)
theorem sit_eq {l : List Sit} {i : Int} (h : i.toNat < l.length) : sit l i = l[i.toNat] := by simp [sit, List.getD, h]
theorem sit_nat {l : List Sit} {k : Nat} (h : k < l.length) : sit l k = l[k] := by rw [sit_eq (by simpa using h)]; simp
theorem RdS.lenS {σ : Hp} {A : Option Addr} {n : Nat} {xs : List Sit} (h : RdS sS σ A n xs) : n = xs.length := h.1
theorem six {σ : Hp} {A : Option Addr} {n : Nat} {xs : List Sit} {i : Int} {K : Int → Bool → Prop} (h : RdS sS σ A n xs) (hi : 0 ≤ i) (hn : i < xs.length) (hk : K (sit xs i).1 (sit xs i).2) :
    ix A n i 2 fun b a => ldI σ .i64 b a fun x1 => ldB σ b (a + 1) fun x2 => K x1 x2 := by
  have h' : i.toNat < xs.length := by omega
  rw [sit_eq h'] at hk
  refine ix_of (ss := sS) h rfl hi h' fun b o hc => ?_
  exact ldI_of (hc 0 (by decide)) (ldB_of (hc 1 (by decide)) hk)
theorem six0 {σ : Hp} {A : Option Addr} {n : Nat} {xs : List Sit} {i : Int} {K : Int → Prop} (h : RdS sS σ A n xs) (hi : 0 ≤ i) (hn : i < xs.length) (hk : K (sit xs i).1) :
    ix A n i 2 fun b a => ldI σ .i64 b a K := by
  have h' : i.toNat < xs.length := by omega
  rw [sit_eq h'] at hk
  refine ix_of (ss := sS) h rfl hi h' fun b o hc => ?_
  exact ldI_of (hc 0 (by decide)) hk

theorem FdR.cn {σ : Hp} {f : Option Addr} {V : FA} {F : Fd} (h : FdR σ f V F) : V.x.cn = F.g.C.length := h.gr.c.lenI
theorem FdR.pn {σ : Hp} {f : Option Addr} {V : FA} {F : Fd} (h : FdR σ f V F) : V.ln = F.l.length := h.pr.lenP
theorem Fd.ok.pt {F : Fd} (h : F.ok) {i : Int} (h0 : 0 ≤ i) (h1 : i < F.l.length) : F.g.pOK (pt F.l i) = true := by
  rw [pt_eq (by omega)]
  exact h.p _ (by omega)
theorem c_cells {σ : Hp} {f : Option Addr} {V : FA} {F : Fd} {i : Int} {s : Sit} (hf : FdR σ f V F) (hF : F.ok) (i0 : 0 ≤ i) (i1 : i < F.l.length) :
    FCalls Try.prog N_ground_field_cells #[.pointer f, .int .i64 i, sv s] σ (NewLB 3 [.int .i64] σ (F.g.cover (pt F.l i) s).1 (F.g.cover (pt F.l i) s).2) := by
  refine M_ground_field_cells_ok _ _ _ _ _ _ ?_
  unfold M_ground_field_cells
  have ho := hF.s
  have hp := hF.pt i0 i1
  obtain ⟨hW, hH, hl, _⟩ := Gnd.okS_iff.1 ho
  obtain ⟨l1, l2, _⟩ := Gnd.okS_len ho
  have hp' := of_decide_eq_true hp
  have hc := hf.cn
  refine hf.dP (pix0 hf.pr i0 i1 (hf.dP (pix1 hf.pr i0 i1 ?_)))
  generalize pt F.l i = p at *
  generalize hgg : F.g = g at *
  refine cut_intro fun J7 h7 => ?_
  have k7 : ∀ w h' : Int, (1 ≤ w ∧ w ≤ 8) → (1 ≤ h' ∧ h' ≤ 8) → g.cover p s = g.cov w h' s.1 → J7 w h' σ := by
    intro w hh bw bh hcov
    rw [h7, hcov]
    intro _
    refine cut_intro fun J13 h13 => cut_intro fun J50 h50 => ?_
    have k13 : ((0 ≤ s.1 ∧ s.1 ≤ (g.C.length : Int) - 1) ∧ Int.tmod s.1 g.W + w ≤ g.W ∧ Int.tdiv s.1 g.W + hh ≤ g.H) → J13 σ := by
      rintro ⟨h, hin⟩
      obtain ⟨m0, m1, d0, d1, e⟩ := Gnd.xy ho h.1 h.2
      rw [h13]
      intro _
      refine cut_intro fun J16 h16 => ?_
      have ecov : g.cov w hh s.1 = (blkC g.W (Int.tmod s.1 g.W) (Int.tdiv s.1 g.W) w.toNat hh.toNat, true) := by
        unfold Gnd.cov
        rw [if_pos ⟨h, hin⟩]
      rw [ecov] at h16
      generalize hx : Int.tmod s.1 g.W = X at *
      generalize hy : Int.tdiv s.1 g.W = Y at *
      refine ⟨fun n A l c r σ' => ∃ k : Nat, n = hh.toNat - k ∧ r = k ∧ k ≤ hh.toNat ∧ OwnSl 3 [.int .i64] σ A l c (blkC g.W X Y w.toNat k) σ', ⟨_, 0, rfl, by omega, by omega, ?_⟩, ?_⟩
      · exact OwnSl.nil ..
      rintro n A l c r σ' ⟨k, rfl, rfl, hk, hown⟩ _
      refine bc_d (fun hlt => ?_) (fun hlt => ?_)
      · refine cut_intro fun J27 h27 => ?_
        refine ⟨fun n A l c q σ' => ∃ j : Nat, n = w.toNat - j ∧ q = j ∧ j ≤ w.toNat ∧ OwnSl 3 [.int .i64] σ A l c (blkC g.W X Y w.toNat k ++ rowC g.W X j (Y + k)) σ', ⟨_, 0, rfl, by omega, by omega, ?_⟩, ?_⟩
        · simpa [rowC] using hown
        rintro n A l c q σ' ⟨j, rfl, rfl, hj, hown⟩ _
        refine bc_d (fun hlt2 => ?_) (fun hlt2 => ?_)
        · have b1 := mulle (a := (k : Int)) (b := g.W) (m := 8) (n := 8) (by omega) (by omega) (by omega) (by omega)
          have hb : FdB σ' f V g F.l := by have := hf.toFdB.sub hown.sub; rw [hgg] at this; exact this
          refine hb.dW (wk_i (by omega) (wk_i (by omega) (wk_i (by omega) (adp_own hown (roomy_i ?_ (wk_i (by omega) (bk_of _ ?_ fun A l c σ' hown' => ⟨j + 1, rfl, by omega, by omega, ?_⟩)))))))
          · have b2 : k * w.toNat ≤ 8 * 8 := Nat.mul_le_mul (by omega) (by omega)
            simp only [List.length_append, blkC_len, rowC_len, List.length_cons, List.length_nil]
            omega
          · omega
          · rw [rowC_succ, ← List.append_assoc]
            have e3 : s.1 + (k : Int) * g.W + (j : Int) = (Y + k) * g.W + (X + j) := by rw [Int.add_mul]; omega
            rw [← e3]
            exact hown'
        · rw [h27]
          intro _
          refine wk_i (by omega) (bk_of _ ?_ ⟨k + 1, rfl, by omega, by omega, ?_⟩)
          · omega
          · have : j = w.toNat := by omega
            subst this
            rw [blkC_succ]
            exact hown
      · rw [h16]
        intro _
        have : k = hh.toNat := by omega
        subst this
        exact rt_of ⟨_, _, _, rfl, hown⟩
    have k50 : ∀ t, t = !decide ((0 ≤ s.1 ∧ s.1 ≤ (g.C.length : Int) - 1) ∧ Int.tmod s.1 g.W + w ≤ g.W ∧ Int.tdiv s.1 g.W + hh ≤ g.H) → J50 t σ := by
      rintro t rfl
      rw [h50]
      intro _
      refine bc_nd (fun hn => rt_of ?_) (fun hn => k13 hn)
      have : g.cov w hh s.1 = ([], false) := by
        unfold Gnd.cov
        rw [if_neg hn]
      rw [this]
      exact ⟨none, 0, 0, rfl, OwnSl.nil ..⟩
    have hb : FdB σ f V g F.l := by have := hf.toFdB; rw [hgg] at this; exact this
    refine hb.dC (wk_i (by omega) (l_gw (bc_nd (fun h => bc_t (k50 _ ?_)) (fun h => ?_))))
    · rw [hc] at h
      simp only [Bool.true_eq, Bool.not_eq_true', decide_eq_false_iff_not]
      exact fun h' => h h'.1
    · rw [hc] at h
      obtain ⟨m0, m1, d0, d1, e⟩ := Gnd.xy ho h.1 h.2
      refine hb.dW ⟨by omega, wk_i (by omega) (hb.dW (bc_d (fun h1 => k50 _ ?_) (fun h1 => hb.dW ⟨by omega, wk_i (by omega) (wk_i (by omega) (hb.dH (k50 _ ?_)))⟩)))⟩
      · simp only [Bool.true_eq, Bool.not_eq_true', decide_eq_false_iff_not]
        omega
      · simp only [← decide_not]
        exact decide_eq_decide.2 (by omega)
  refine bc_b (fun ht => k7 _ _ (by omega) (by omega) ?_) (fun ht => k7 _ _ (by omega) (by omega) ?_) <;> simp [Gnd.cover, ht]
theorem l_cells {σ : Hp} {f : Option Addr} {V : FA} {F : Fd} {i : Int} {s : Sit} {K : Option Addr → Nat → Nat → Bool → Hp → Prop} (hf : FdR σ f V F) (hF : F.ok) (i0 : 0 ≤ i) (i1 : i < F.l.length)
    (h : ∀ A n c σ', OwnSl 3 [.int .i64] σ A n c (F.g.cover (pt F.l i) s).1 σ' → K A n c (F.g.cover (pt F.l i) s).2 σ') :
    cl Try.prog (.func (.func N_ground_field_cells) #[] #[]) #[.pointer f, .int .i64 i, sv s] σ fun v σ' => ∃ A : Option Addr, ∃ l c : Nat, ∃ t : Bool, (v = .tuple #[.slice A l c, .bool t] ∧ K A l c t σ') :=
  clSB M_ground_field_cells_enter (c_cells hf hF i0 i1) h
/-- what a field says of a cell on which a pitch may be put -/
def Fd.bare (F : Fd) (c : Int) : Bool := decide (gt F.g.C c = 0 ∧ gt F.tk c < 0)
theorem c_field_fits {σ : Hp} {f : Option Addr} {V : FA} {F : Fd} {i : Int} {s : Sit} (hf : FdR σ f V F) (hF : F.ok) (i0 : 0 ≤ i) (i1 : i < F.l.length) :
    FCalls Try.prog N_ground_field_fits #[.pointer f, .int .i64 i, sv s] σ fun v σ' => v = .bool (F.g.fit (pt F.l i) s F.bare) ∧ σ' = σ := by
  refine M_ground_field_fits_ok _ _ _ _ _ _ ?_
  unfold M_ground_field_fits
  refine hf.dP (pix hf.pr i0 i1 ?_)
  refine l_cells hf hF i0 i1 fun A n c σ' hown => ?_
  have hok := hF.g
  have ho := hF.s
  have hp := hF.pt i0 i1
  have hl : n = (F.g.cover (pt F.l i) s).1.length := hown.len
  have hin := Gnd.cover_in (s := s) ho hp
  obtain ⟨l1, l2⟩ := Gnd.cover_len (s := s) hp
  have hrd' : RdS [.int .i64] σ' A n (F.g.cover (pt F.l i) s).1 := hown.rd
  have hf' := hf.sub hown.sub
  have hs := hown.sub
  have hT := Gnd.okT hok
  obtain ⟨_, g2, g3⟩ := Gnd.okS_len ho
  have gk := hF.tk
  unfold Gnd.fit
  generalize (F.g.cover (pt F.l i) s).1 = cs at *
  generalize (F.g.cover (pt F.l i) s).2 = is at *
  generalize pt F.l i = p at *
  refine cut_intro fun J7 h7 => cut_intro fun J56 h56 => ?_
  have k7 : is = true → (s.2 && decide (p.1 = p.2.1)) = false → J7 σ' := by
    rintro rfl hq
    rw [h7, hq]
    intro _
    have l3 := l2 rfl
    have i0 : 0 ≤ gt cs 0 ∧ gt cs 0 < F.g.C.length := hin _ (gt_mem l3)
    refine hf'.dT (gixg hrd' (by omega) (by omega) (gixg hf'.gr.h (by omega) (by omega) ?_))
    refine hf'.dT (gixg hrd' (by omega) (by omega) (gixg hf'.gr.h (by omega) (by omega) ?_))
    refine cut_intro fun J22 h22 => ?_
    refine ⟨fun n lo hi i τ => ∃ k : Nat, n = cs.length - k ∧ i = k ∧ k ≤ cs.length ∧ lo = loT F.g.T cs k ∧ hi = hiT F.g.T cs k ∧ τ = σ' ∧ ∀ j : Nat, j < k → F.bare (gt cs j) = true, ⟨_, 0, rfl, rfl, by omega, by simp [loT], by simp [hiT], rfl, fun j h => by omega⟩, ?_⟩
    rintro m lo hi i τ ⟨k, rfl, rfl, hk, rfl, rfl, rfl, hj⟩ _
    refine bc_d (fun hlt => ?_) (fun hlt => ?_)
    · have hkl : k < cs.length := by omega
      have ik := hin _ (gt_mem hkl)
      refine cut_intro fun J51 h51 => ?_
      refine gixg hrd' (by omega) (by omega) ?_
      refine cut_intro fun J62 h62 => cut_intro fun J77 h77 => ?_
      have k77 : ∀ t, t = (!F.bare (gt cs k)) → J77 t τ := by
        rintro t rfl
        rw [h77]
        intro _
        refine bc_nb (fun hn => rt_sub hs ⟨?_, rfl⟩) (fun hn => ?_)
        · rw [all_false hkl hn]
          simp
        · rw [h62]
          intro _
          refine hf'.dT (gixg hf'.gr.h (by omega) (by omega) ?_)
          refine hf'.dT (gixg hf'.gr.h (by omega) (by omega) ?_)
          rw [h51]
          intro _
          exact wk_i (by omega) (bk_of _ (by omega) ⟨k + 1, rfl, rfl, by omega, (loT_succ hkl).symm, (hiT_succ hkl).symm, rfl, fun j hjk => tail_or (p := fun a => F.bare a = true) (f := fun j : Nat => gt cs j) hj hn hjk⟩)
      refine hf'.dC (gixg hf'.gr.c (by omega) (by omega) (bc_nd (fun hn => k77 _ ?_) (fun hn => hf'.dK (gixg hf'.tr (by omega) (by omega) (k77 _ ?_)))))
      · simp [Fd.bare, hn]
      · simp only [Fd.bare, hn, true_and, ← decide_not]
        exact decide_eq_decide.2 (by omega)
    · rw [h22]
      intro _
      have : k = cs.length := by omega
      subst this
      have := loT_in hT cs.length (Nat.le_refl (cs.length))
      have := hiT_in hT cs.length (Nat.le_refl (cs.length))
      refine wk_i (by omega) (rt_sub hs ⟨?_, rfl⟩)
      rw [all_true hj]
      simp
  have k56 : ∀ t, t = (!is || (s.2 && decide (p.1 = p.2.1))) → J56 t σ' := by
    rintro t rfl
    rw [h56]
    intro _
    refine bc_b (fun h => rt_sub hs ⟨?_, rfl⟩) (fun h => k7 ?_ ?_)
    · cases is <;> simp_all
    · cases is <;> simp_all
    · cases is <;> simp_all
  refine bc_nb (fun h => k56 _ ?_) (fun h => bc_b (fun h2 => k56 _ ?_) (fun h2 => k56 _ ?_)) <;> simp [h, *]
end Go.Proofs.Ytmpkiaghkhhlhaa

/- Contracts of layer 4: taken, beside and Check of the reference. No conditions but those that each theorem names. -/
namespace Go.Proofs.Ytmpkiaghkhhlhaa
open Go.RowKit

theorem RdS.take {ss : List Sh} {σ : Hp} {A : Option Addr} {n : Nat} {xs : List (TyR ss)} (h : RdS ss σ A n xs) {k : Nat} (hk : k ≤ n) : RdS ss σ A k (xs.take k) := by
  refine ⟨?_, ?_⟩
  · rw [List.length_take]; have := h.1; omega
  · rcases h.2 with h0 | ⟨b, off, cells, e, f, rw, hA, hb, hr⟩
    · exact .inl (by omega)
    · exact .inr ⟨b, off, cells, e, f, rw, hA, hb, hr.take k⟩
/-- a truth value of a list -/
def gb (xs : List Bool) (i : Int) : Bool := xs.getD i.toNat false
theorem gb_eq {xs : List Bool} {i : Int} (h : i.toNat < xs.length) : gb xs i = xs[i.toNat] := by simp [gb, List.getD, h]
theorem gb_nat {xs : List Bool} {k : Nat} (h : k < xs.length) : gb xs k = xs[k] := by rw [gb_eq (by simpa using h)]; simp
theorem bix {σ : Hp} {A : Option Addr} {n : Nat} {xs : List Bool} {i : Int} {K : Bool → Prop} (h : RdS [.bool] σ A n xs) (hi : 0 ≤ i) (hn : i < xs.length) (hk : K (gb xs i)) : ix A n i 1 fun b a => ldB σ b a K :=
  ix_ldB h hi (by omega) (by rw [← gb_eq (by omega)]; exact hk)
def setAll (xs : List Bool) (cs : List Int) : List Bool := cs.foldl (fun a c => a.set c.toNat true) xs
theorem setAll_len (xs : List Bool) (cs : List Int) : (setAll xs cs).length = xs.length := by
  induction cs generalizing xs with
  | nil => rfl
  | cons c cs ih => exact (ih _).trans (by simp)
theorem setAll_succ {xs : List Bool} {cs : List Int} {k : Nat} (h : k < cs.length) : setAll xs (cs.take (k + 1)) = (setAll xs (cs.take k)).set (gt cs k).toNat true := by
  unfold setAll
  rw [List.take_succ_eq_append_getElem h, List.foldl_append, gt_nat h]
  rfl
/-- which cells the first k sites of a layout have, but for one -/
def Gnd.takS (g : Gnd) (l : List Pit) (st : List Sit) (but : Int) : Nat → List Bool
  | 0 => List.replicate g.C.length false
  | k + 1 => if (k : Int) = but ∨ (sit st k).1 < 0 then g.takS l st but k else setAll (g.takS l st but k) (g.cover (pt l k) (sit st k)).1
theorem takS_len {g : Gnd} {l : List Pit} {st : List Sit} {but : Int} : ∀ k, (g.takS l st but k).length = g.C.length
  | 0 => by simp [Gnd.takS]
  | k + 1 => by
    unfold Gnd.takS
    split
    · exact takS_len k
    · rw [setAll_len, takS_len k]
theorem sit_take {st : List Sit} {k j : Nat} (h : j < k) : sit (st.take k) j = sit st j := by
  simp [sit, List.getD, List.getElem?_take, h]
theorem takS_take {g : Gnd} {l : List Pit} {st : List Sit} {but : Int} {m : Nat} : ∀ k, k ≤ m → g.takS l (st.take m) but k = g.takS l st but k
  | 0, _ => rfl
  | k + 1, h => by
    unfold Gnd.takS
    rw [takS_take k (by omega), sit_take (by omega)]
theorem lat_b {xs : List Bool} {i : Int} {K : Bool → Prop} (h0 : 0 ≤ i) (h1 : i < xs.length) (hk : K (gb xs i)) : lat xs i.toNat K := ⟨by omega, by rw [← gb_eq (by omega)]; exact hk⟩
theorem lat_I {xs : List Int} {i : Int} {K : Int → Prop} (h0 : 0 ≤ i) (h1 : i < xs.length) (hk : K (gt xs i)) : lat xs i.toNat K := ⟨by omega, by rw [← gt_eq (by omega)]; exact hk⟩

theorem c_taken {σ : Hp} {x : GV} {g : Gnd} {lA sA : Option Addr} {ln lc sn sc : Nat} {l : List Pit} {st : List Sit} {but : Int} (hg : GRd σ x g) (ho : g.okS = true) (hl : RdS sP σ lA ln l) (hst : RdS sS σ sA sn st)
    (hp : ∀ i, (h : i < l.length) → g.pOK l[i] = true) (hle : st.length ≤ l.length) (h8 : l.length ≤ 8) :
    FCalls Try.prog N_ref04_taken #[x.v g, .slice lA ln lc, .slice sA sn sc, .int .i64 but] σ (NewL 4 [.bool] σ (g.takS l st but st.length)) := by
  refine M_ref04_taken_ok _ _ _ _ _ _ _ _ _ _ _ _ _ _ _ _ _ ?_
  unfold M_ref04_taken
  obtain ⟨l1, l2, _⟩ := Gnd.okS_len ho
  have hcn := hg.c.lenI
  have hsn := hst.lenS
  have hln := hl.lenP
  refine ⟨by omega, by omega, by omega, cut_intro fun J3 h3 => ?_⟩
  refine ⟨fun n i xs τ => ∃ k : Nat, n = st.length - k ∧ i = k ∧ k ≤ st.length ∧ xs = g.takS l st but k ∧ τ = σ, ⟨_, 0, rfl, rfl, by omega, by simp [Gnd.takS, hcn], rfl⟩, ?_⟩
  rintro n i xs τ ⟨k, rfl, rfl, hk, rfl, rfl⟩ _
  refine bc_d (fun hlt => ?_) (fun hlt => ?_)
  · have hkl : k < st.length := by omega
    refine cut_intro fun J15 h15 => cut_intro fun J22 h22 => cut_intro fun J53 h53 => ?_
    have k15 : ∀ σ', Hp.Sub τ σ' → J15 (g.takS l st but (k + 1)) σ' := by
      intro σ' hs
      rw [h15]
      intro _
      exact wk_i (by omega) (bk_sub _ (by omega) hs ⟨k + 1, rfl, rfl, by omega, rfl, rfl⟩)
    have k53 : ∀ t, t = decide ((k : Int) = but ∨ (sit st k).1 < 0) → J53 t τ := by
      rintro t rfl
      rw [h53]
      intro _
      refine bc_d (fun h => ?_) (fun h => ?_)
      · have := k15 τ (Hp.Sub.refl _)
        rw [show g.takS l st but (k + 1) = g.takS l st but k by simp [Gnd.takS, h]] at this
        exact this
      · rw [h22]
        intro _
        have ek : g.takS l st but (k + 1) = setAll (g.takS l st but k) (g.cover (pt l k) (sit st k)).1 := by
          rw [Gnd.takS, if_neg h]
        rw [ek] at k15
        have hpk : g.pOK (pt l k) = true := by rw [pt_nat (show k < l.length by omega)]; exact hp _ _
        refine pix hl (by omega) (by omega) (six hst (by omega) (by omega) ?_)
        refine l_Cover hcn ho hpk fun A n c σ' hown => ?_
        have hin := Gnd.cover_in (s := sit st k) ho hpk
        have hl : n = (g.cover (pt l k) (sit st k)).1.length := hown.len
        have hrd' : RdS [.int .i64] σ' A n (g.cover (pt l k) (sit st k)).1 := hown.rd
        obtain ⟨c1, c2⟩ := Gnd.cover_len (s := sit st k) hpk
        generalize (g.cover (pt l k) (sit st k)).1 = cs at *
        refine ⟨fun n i xs τ => ∃ j : Nat, n = cs.length - j ∧ i = j ∧ j ≤ cs.length ∧ xs = setAll (g.takS l st but k) (cs.take j) ∧ τ = σ', ⟨_, 0, rfl, rfl, by omega, by simp [setAll], rfl⟩, ?_⟩
        rintro m i xs τ2 ⟨j, rfl, rfl, hj, rfl, rfl⟩ _
        refine bc_d (fun hlt2 => ?_) (fun hlt2 => ?_)
        · have hjl : j < cs.length := by omega
          have ij := hin _ (gt_mem hjl)
          have hlen : (setAll (g.takS l st but k) (cs.take j)).length = g.C.length := by rw [setAll_len, takS_len]
          refine gixg hrd' (by omega) (by omega) ⟨by omega, by omega, lat_b (by omega) (by omega) (wk_i (by omega) (bk_of _ (by omega) ⟨j + 1, rfl, rfl, by omega, (setAll_succ hjl).symm, rfl⟩))⟩
        · have : j = cs.length := by omega
          subst this
          rw [List.take_length]
          exact k15 _ hown.sub
    refine bc_d (fun h => k53 _ ?_) (fun h => six0 hst (by omega) (by omega) (k53 _ ?_))
    · simp [h]
    · simp [h]
  · rw [h3]
    intro _
    have : k = st.length := by omega
    subst this
    exact fun A n c σ' hown => rt_of ⟨_, _, _, rfl, hown⟩
def Gnd.bes (g : Gnd) (p : Pit) (s : Sit) (full : List Bool) : Bool := g.fit p s g.grass && (g.cover p s).1.all fun c => !gb full c
theorem c_ref04_beside {σ : Hp} {x : GV} {g : Gnd} {p : Pit} {s : Sit} {fA : Option Addr} {fn fc : Nat} {full : List Bool} (hg : GRd σ x g) (hok : g.ok = true) (hp : g.pOK p = true) (hf : RdS [.bool] σ fA fn full) (hfl : full.length = g.C.length) :
    FCalls Try.prog N_ref04_beside #[x.v g, pv p, sv s, .slice fA fn fc] σ fun v σ' => v = .bool (g.bes p s full) ∧ σ' = σ := by
  refine M_ref04_beside_ok _ _ _ _ _ _ _ _ _ _ _ _ _ _ _ _ _ _ _ _ ?_
  unfold M_ref04_beside
  have ho := Gnd.ok.s hok
  refine clB M_ref04_fits_enter (c_ref04_fits hg hok hp) ?_
  refine bc_nb (fun h => rt_of ⟨?_, rfl⟩) (fun h => ?_)
  · simp [Gnd.bes, h]
  · refine l_Cover hg.c.lenI ho hp fun A n c σ' hown => ?_
    have hin := Gnd.cover_in (s := s) ho hp
    have hl : n = (g.cover p s).1.length := hown.len
    have hrd' : RdS [.int .i64] σ' A n (g.cover p s).1 := hown.rd
    have hf' := hf.sub hown.sub
    have hs := hown.sub
    obtain ⟨c1, c2⟩ := Gnd.cover_len (s := s) hp
    unfold Gnd.bes
    rw [h]
    generalize (g.cover p s).1 = cs at *
    refine cut_intro fun J h10 => ?_
    refine ⟨fun n i τ => ∃ j : Nat, n = cs.length - j ∧ i = j ∧ j ≤ cs.length ∧ τ = σ' ∧ ∀ i : Nat, i < j → (!gb full (gt cs i)) = true, ⟨_, 0, rfl, rfl, by omega, rfl, fun j h => by omega⟩, ?_⟩
    rintro m i τ2 ⟨j, rfl, rfl, hj, rfl, hq⟩ _
    refine bc_d (fun hlt2 => ?_) (fun hlt2 => ?_)
    · have hjl : j < cs.length := by omega
      have ij := hin _ (gt_mem hjl)
      refine gixg hrd' (by omega) (by omega) (bix hf' (by omega) (by omega) (bc_b (fun ht => rt_sub hs ⟨?_, rfl⟩) (fun ht => ?_)))
      · rw [all_false hjl (by simp [ht])]
        rfl
      · exact wk_i (by omega) (bk_of _ (by omega) ⟨j + 1, rfl, rfl, by omega, rfl, fun j hjk => tail_or (p := fun a => (!gb full a) = true) (f := fun j : Nat => gt cs j) hq (by simp [ht]) hjk⟩)
    · rw [h10]
      intro _
      have : j = cs.length := by omega
      subst this
      refine rt_sub hs ⟨?_, rfl⟩
      rw [all_true hq]
      rfl
/-- is the k-th site of a layout right? -/
def Gnd.siteOK (g : Gnd) (l : List Pit) (st : List Sit) (k : Nat) : Bool := decide (sit st k = (-1, false)) || (decide (0 ≤ (sit st k).1) && g.bes (pt l k) (sit st k) (g.takS l st (-1) k))
def chkS (g : Gnd) (l : List Pit) (st : List Sit) : Int × Int :=
  if (chkP g l).2 ≠ 0 then chkP g l else if st.length ≠ l.length then (st.length, 41) else if 0 ≤ fidx (fun k => !g.siteOK l st k) (List.range l.length) then (fidx (fun k => !g.siteOK l st k) (List.range l.length), 41) else (0, 0)
theorem chkP_ok {g : Gnd} {l : List Pit} (h : (chkP g l).2 = 0) : g.ok = true ∧ l.length ≤ 8 ∧ (∀ i, (h : i < l.length) → g.pOK l[i] = true) ∧ chkP g l = (0, 0) := by
  unfold chkP at h ⊢
  cases hok : g.ok with
  | false => simp [hok] at h
  | true =>
    simp only [hok, Bool.true_eq_false, if_false] at h ⊢
    by_cases h8 : 8 < l.length
    · simp [h8] at h
    · simp only [h8, if_false] at h ⊢
      by_cases h0 : 0 ≤ fidx (fun p => !g.pOK p) l
      · simp [h0] at h
      · simp only [h0, if_false, and_true, true_and]
        refine ⟨by omega, fun i hi => ?_⟩
        have := fidx_any (p := fun p => !g.pOK p) (xs := l)
        rw [decide_eq_false h0] at this
        have := List.any_eq_false.1 this.symm _ (List.getElem_mem hi)
        simpa using this
theorem c_ref04_Check {σ : Hp} {x : GV} {g : Gnd} {lA sA : Option Addr} {ln lc sn sc : Nat} {l : List Pit} {st : List Sit} (hg : GRd σ x g) (hl : RdS sP σ lA ln l) (hst : RdS sS σ sA sn st) (hsc : sn ≤ sc) :
    FCalls Try.prog N_ref04_Check #[x.v g, .slice lA ln lc, .slice sA sn sc] σ fun v σ' => v = .tuple #[.int .i64 (chkS g l st).1, .int .i64 (chkS g l st).2] ∧ σ' = σ := by
  refine M_ref04_Check_ok _ _ _ _ _ _ _ _ _ _ _ _ _ _ _ _ ?_
  unfold M_ref04_Check
  have hsn := hst.lenS
  have hln := hl.lenP
  refine clII M_ref04_checkPitches_enter (c_checkPitches hg hl) ?_
  refine bc_nd (fun h => rt_of ⟨by rw [chkS, if_pos h], rfl⟩) (fun h => ?_)
  obtain ⟨hok, h8, hp, h00⟩ := chkP_ok h
  have ho := Gnd.ok.s hok
  refine bc_nd (fun h2 => rt_of ⟨by rw [chkS, if_neg (by simp [h]), if_pos (by omega), hsn], rfl⟩) (fun h2 => ?_)
  have hll : st.length = l.length := by omega
  have ec : chkS g l st = if 0 ≤ fidx (fun k => !g.siteOK l st k) (List.range l.length) then (fidx (fun k => !g.siteOK l st k) (List.range l.length), 41) else (0, 0) := by
    rw [chkS, if_neg (by simp [h]), if_neg (by omega)]
  rw [ec]
  refine cut_intro fun J7 h7 => ?_
  refine ⟨fun n i τ => ∃ k : Nat, n = l.length - k ∧ i = k ∧ k ≤ l.length ∧ τ = σ ∧ ∀ j, (h : j < (List.range l.length).length) → j < k → (!g.siteOK l st (List.range l.length)[j]) = false, ⟨_, 0, rfl, rfl, by omega, rfl, fun j _ h => by omega⟩, ?_⟩
  rintro n i τ ⟨k, rfl, rfl, hk, rfl, hj⟩ _
  refine bc_d (fun hlt => ?_) (fun hlt => ?_)
  · have hkl : k < l.length := by omega
    have hkr : k < (List.range l.length).length := by simpa using hkl
    refine cut_intro fun J15 h15 => ?_
    refine six hst (by omega) (by omega) (cut_intro fun J25 h25 => ?_)
    have k25 : ∀ t σ', Hp.Sub τ σ' → t = (!g.siteOK l st k) → J25 t σ' := by
      rintro t σ' hs rfl
      rw [h25]
      intro _
      refine bc_nb (fun hn => rt_sub hs ⟨?_, rfl⟩) (fun hn => ?_)
      · have := fidx_at (p := fun k => !g.siteOK l st k) hkr (by simp [hn]) hj
        rw [this]
        simp
      · rw [h15]
        intro _
        refine wk_i (by omega) (bk_sub _ (by omega) hs ⟨k + 1, rfl, rfl, by omega, rfl, fun j hjr hjk => ?_⟩)
        rcases Nat.lt_or_ge j k with hlt | hge
        · exact hj j hjr hlt
        · have : j = k := by omega
          subst this
          simp [hn]
    have hpk : g.pOK (pt l k) = true := by rw [pt_nat hkl]; exact hp _ _
    have e1 : decide (sit st k = (-1, false)) = (decide ((sit st k).1 = -1) && ((sit st k).2 == false)) := by
      cases hs : sit st k with
      | mk a b => cases b <;> simp
    refine bc_nb (fun hw => ?_) (fun hw => k25 _ _ (Hp.Sub.refl _) ?_)
    · refine six0 hst (by omega) (by omega) (bc_d (fun h0 => k25 _ _ (Hp.Sub.refl _) ?_) (fun h0 => ?_))
      · rw [← e1] at hw
        simp [Gnd.siteOK, hw, h0]
      · refine pix hl (by omega) (by omega) (six hst (by omega) (by omega) ⟨by omega, by omega, ?_⟩)
        have hst' : RdS sS τ sA k (st.take k) := hst.take (by omega)
        have hlt' : (st.take k).length = k := by rw [List.length_take]; omega
        refine clLs M_ref04_taken_enter (c_taken (st := st.take k) hg ho hl hst' hp (by omega) h8) ?_
        rw [hlt', takS_take k (Nat.le_refl _)]
        intro A n c σ' hown
        have hrd : RdS [.bool] σ' A n (g.takS l st (-1) k) := hown.rd
        refine clB M_ref04_beside_enter (c_ref04_beside (hg.sub hown.sub) hok hpk hrd (takS_len k)) (k25 _ _ hown.sub ?_)
        rw [← e1] at hw
        have h0' : 0 ≤ (sit st k).1 := by omega
        simp [Gnd.siteOK, hw, h0']
    · rw [← e1] at hw
      simp [Gnd.siteOK, hw]
  · rw [h7]
    intro _
    refine rt_of ⟨?_, rfl⟩
    have := fidx_none (p := fun k => !g.siteOK l st k) (xs := List.range l.length) fun j h => hj j h (by simp at h; omega)
    rw [this]
    simp
end Go.Proofs.Ytmpkiaghkhhlhaa

/- M-forms, printed by wip/gen/genm.py out of the translation: each function as a proposition over its local objects, with the lemma that it is what the function does. -/
namespace Go.Proofs.Ytmpkiaghkhhlhaa
open Go.RowKit

theorem mixed_M6 : Try.prog.follows .mixedOrders = true := by kernel_rfl

abbrev N_slices_Repeat_int : FuncId := 47
/-- slices.Repeat[[]int,int] -/
def M_slices_Repeat_int (σ : Hp) (x_A : Option Addr) (x_n : Nat) (x_c : Nat) (count : Int) (R : Value → Hp → Prop) : Prop :=
  cut (α := Hp → Prop) (fun  σ2 => ∀ _ : Nat → Value, wk .u64 (((x_n : Nat) : Int)) (fun n4 => wk .u64 (count) (fun n5 => 
    cl Try.prog (.func (.func 86) #[] #[]) #[(.int .u64 n4), (.int .u64 n5)] σ2 (fun v6 σ7 => ∃ n8 : Int, ∃ n9 : Int, (v6 = (.tuple #[(.int .u64 n8), (.int .u64 n9)]) ∧ 
    cut (α := Hp → Prop) (fun  σ11 => ∀ _ : Nat → Value, wk .i64 (n9) (fun n13 => (0 ≤ n13 ∧ n13 ≤ n13 ∧ 
    n13 ≤ (1000000000 : Int) ∧ exl 3 [.int .i64] (List.replicate (n13 : Int).toNat 0 : List Int) σ11 (fun A14 l14 c14 σ15 => 
    cpy Try.prog #[22, 22] 3 #[(.slice A14 l14 c14), (.slice x_A x_n x_c)] σ15 (fun n16 σ17 => cut (α := Hp → Prop) (fun  σ19 => 
    ∀ _ : Nat → Value, rt σ19 R (.slice A14 l14 c14)) (fun J20 => ∃ I23 : Nat → Int → Hp → Prop, (∃ n240, I23 n240 n16 σ17) ∧ 
    ∀ n24 : Nat, ∀ n25 : Int, ∀ σ22 : Hp, I23 n24 n25 σ22 → ∀ _ : Nat → Value, bc (decide (n25 < ((l14 : Nat) : Int))) ((0 ≤ n25 ∧ 
    n25 ≤ ((l14 : Nat) : Int) ∧ (0 ≤ n25 ∧ n25 ≤ ((c14 : Nat) : Int) ∧ cpy Try.prog #[22, 22] 3 #[(.slice (if c14 = (n25 : Int).toNat then (A14 : Option Addr) else (A14 : Option Addr).map (fun x => 
    x.add ((n25 : Int).toNat * 1))) (l14 - (n25 : Int).toNat) (c14 - (n25 : Int).toNat)), (.slice A14 ((n25 : Int).toNat) c14)] σ22 (fun n26 σ27 => 
    wk .i64 (n25 + n26) (fun n28 => bk σ27 n24 (fun m29 σ30 => I23 m29 n28 σ30)))))) (J20 σ22))))))) (fun J12 => 
    cut (α := Bool → Hp → Prop) (fun t34 σ32 => ∀ _ : Nat → Value, bc t34 (False) (J12 σ32)) (fun J33 => 
    bc (decide ((0 : Int) < n8)) (J33 true σ7) (J33 (decide ((9223372036854775807 : Int) < n9)) σ7)))))))) (fun J3 => 
    bc (decide (count < 0)) (False) (J3 σ))
def M_slices_Repeat_int_an : MAn := (.seq (.txt []) (.cut ⟨[], 0, [], [(0, true), (1, true)]⟩ (.seq (.txt []) (.cond (.txt []) .leaf)) (.seq (.txt []) (.cut ⟨[], 0, [], [(0, true), (6, true)]⟩ (.cut ⟨[], 0, [.slot 26 (.sc (.bool))], [(0, true), (6, true)]⟩ (.txt [⟨[], false, []⟩, ⟨[], false, []⟩, ⟨[], true, []⟩]) (.cond (.txt []) .leaf)) (.seq (.txt []) (.seq (.txt []) (.cut ⟨[false], 1, [], [(7, true)]⟩ (.block (.loop ⟨[false], 1, [.slot 8 (.sc (.int .i64))], [(7, true)]⟩ (.seq (.seq (.txt []) (.cond .leaf .leaf)) (.block (.plan [7] (.take 0 ⟨[], false, []⟩ (.take 1 ⟨[], false, []⟩ (.take 2 ⟨[], false, []⟩ (.take 3 ⟨[], false, []⟩ (.take 4 ⟨[], false, []⟩ (.take 5 ⟨[], false, []⟩ (.take 6 ⟨[], false, []⟩ (.alt 7 false ⟨[], false, []⟩ (.take 8 ⟨[], false, []⟩ (.take 9 ⟨[], false, []⟩ .done)) .done))))))))))))) (.seq (.txt []) .leaf))))))))
set_option maxRecDepth 100000 in
theorem M_slices_Repeat_int_ok (σ : Hp) (x_A : Option Addr) (x_n : Nat) (x_c : Nat) (count : Int) (R : Value → Hp → Prop) (h : M_slices_Repeat_int σ x_A x_n x_c count R) : FCalls Try.prog 47 #[(.slice x_A x_n x_c), (.int .i64 count)] σ R :=
  fcalls_of_M mixed_M6 M_slices_Repeat_int_an Try.func47 rfl (by kernel_rfl) (by kernel_rfl) (M := M_slices_Repeat_int σ x_A x_n x_c count R) (by kernel_rfl) h
theorem M_slices_Repeat_int_enter : enterB Try.prog 47 = true := by kernel_rfl

abbrev N_slices_Repeat_api_Site : FuncId := 95
/-- slices.Repeat[[]waltzer/api.Site,waltzer/api.Site] -/
def M_slices_Repeat_api_Site (σ : Hp) (x_A : Option Addr) (x_n : Nat) (x_c : Nat) (count : Int) (R : Value → Hp → Prop) : Prop :=
  cut (α := Hp → Prop) (fun  σ2 => ∀ _ : Nat → Value, wk .u64 (((x_n : Nat) : Int)) (fun n4 => wk .u64 (count) (fun n5 => 
    cl Try.prog (.func (.func 86) #[] #[]) #[(.int .u64 n4), (.int .u64 n5)] σ2 (fun v6 σ7 => ∃ n8 : Int, ∃ n9 : Int, (v6 = (.tuple #[(.int .u64 n8), (.int .u64 n9)]) ∧ 
    cut (α := Hp → Prop) (fun  σ11 => ∀ _ : Nat → Value, wk .i64 (n9) (fun n13 => (0 ≤ n13 ∧ n13 ≤ n13 ∧ 
    n13 ≤ (1000000000 : Int) ∧ exl 50 [.int .i64, .bool] (List.replicate (n13 : Int).toNat (0, false) : List (Int × Bool)) σ11 (fun A14 l14 c14 σ15 => 
    cpy Try.prog #[26, 26] 3 #[(.slice A14 l14 c14), (.slice x_A x_n x_c)] σ15 (fun n16 σ17 => cut (α := Hp → Prop) (fun  σ19 => 
    ∀ _ : Nat → Value, rt σ19 R (.slice A14 l14 c14)) (fun J20 => ∃ I23 : Nat → Int → Hp → Prop, (∃ n240, I23 n240 n16 σ17) ∧ 
    ∀ n24 : Nat, ∀ n25 : Int, ∀ σ22 : Hp, I23 n24 n25 σ22 → ∀ _ : Nat → Value, bc (decide (n25 < ((l14 : Nat) : Int))) ((0 ≤ n25 ∧ 
    n25 ≤ ((l14 : Nat) : Int) ∧ (0 ≤ n25 ∧ n25 ≤ ((c14 : Nat) : Int) ∧ cpy Try.prog #[26, 26] 3 #[(.slice (if c14 = (n25 : Int).toNat then (A14 : Option Addr) else (A14 : Option Addr).map (fun x => 
    x.add ((n25 : Int).toNat * 2))) (l14 - (n25 : Int).toNat) (c14 - (n25 : Int).toNat)), (.slice A14 ((n25 : Int).toNat) c14)] σ22 (fun n26 σ27 => 
    wk .i64 (n25 + n26) (fun n28 => bk σ27 n24 (fun m29 σ30 => I23 m29 n28 σ30)))))) (J20 σ22))))))) (fun J12 => 
    cut (α := Bool → Hp → Prop) (fun t34 σ32 => ∀ _ : Nat → Value, bc t34 (False) (J12 σ32)) (fun J33 => 
    bc (decide ((0 : Int) < n8)) (J33 true σ7) (J33 (decide ((9223372036854775807 : Int) < n9)) σ7)))))))) (fun J3 => 
    bc (decide (count < 0)) (False) (J3 σ))
def M_slices_Repeat_api_Site_an : MAn := (.seq (.txt []) (.cut ⟨[], 0, [], [(0, true), (1, true)]⟩ (.seq (.txt []) (.cond (.txt []) .leaf)) (.seq (.txt []) (.cut ⟨[], 0, [], [(0, true), (6, true)]⟩ (.cut ⟨[], 0, [.slot 26 (.sc (.bool))], [(0, true), (6, true)]⟩ (.txt [⟨[], false, []⟩, ⟨[], false, []⟩, ⟨[], true, []⟩]) (.cond (.txt []) .leaf)) (.seq (.txt []) (.seq (.txt []) (.cut ⟨[false], 1, [], [(7, true)]⟩ (.block (.loop ⟨[false], 1, [.slot 8 (.sc (.int .i64))], [(7, true)]⟩ (.seq (.seq (.txt []) (.cond .leaf .leaf)) (.block (.plan [7] (.take 0 ⟨[], false, []⟩ (.take 1 ⟨[], false, []⟩ (.take 2 ⟨[], false, []⟩ (.take 3 ⟨[], false, []⟩ (.take 4 ⟨[], false, []⟩ (.take 5 ⟨[], false, []⟩ (.take 6 ⟨[], false, []⟩ (.alt 7 false ⟨[], false, []⟩ (.take 8 ⟨[], false, []⟩ (.take 9 ⟨[], false, []⟩ .done)) .done))))))))))))) (.seq (.txt []) .leaf))))))))
set_option maxRecDepth 100000 in
theorem M_slices_Repeat_api_Site_ok (σ : Hp) (x_A : Option Addr) (x_n : Nat) (x_c : Nat) (count : Int) (R : Value → Hp → Prop) (h : M_slices_Repeat_api_Site σ x_A x_n x_c count R) : FCalls Try.prog 95 #[(.slice x_A x_n x_c), (.int .i64 count)] σ R :=
  fcalls_of_M mixed_M6 M_slices_Repeat_api_Site_an Try.func95 rfl (by kernel_rfl) (by kernel_rfl) (M := M_slices_Repeat_api_Site σ x_A x_n x_c count R) (by kernel_rfl) h
theorem M_slices_Repeat_api_Site_enter : enterB Try.prog 95 = true := by kernel_rfl

end Go.Proofs.Ytmpkiaghkhhlhaa

