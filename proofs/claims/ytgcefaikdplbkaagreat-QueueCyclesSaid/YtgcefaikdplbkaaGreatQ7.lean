/- M-forms, printed by wip/gen/genm.py out of the translation: each function as a proposition over its local objects, with the lemma that it is what the function does. -/
import Derived.Test.YtgcefaikdplbkaaGreatB11
namespace Go.Proofs.YtgcefaikdplbkaaGreat
open Go.RowKit

theorem mixed_Q7 : Tryz.prog.follows .mixedOrders = true := by kernel_rfl

abbrev N_queue_Lines : FuncId := 8
/-- waltzer/queue.Lines -/
def M_queue_Lines (σ : Hp) (f_Rides_A : Option Addr) (f_Rides_n : Nat) (f_Rides_c : Nat) (f_Walk : Int) (l_A : Option Addr) (l_n : Nat) (l_c : Nat) (R : Value → Hp → Prop) : Prop :=
  cl Tryz.prog (.func (.func 22) #[] #[]) #[(.agg #[(.slice f_Rides_A f_Rides_n f_Rides_c), (.int .i64 f_Walk)]), (.slice l_A l_n l_c), (.func (.func 23) #[] #[]), (.func (.func 24) #[] #[])] σ (fun v1 σ2 => 
    ∃ A3 : Option Addr, ∃ l3 : Nat, ∃ c3 : Nat, ∃ n4 : Int, (v1 = (.tuple #[(.slice A3 l3 c3), (.int .i64 n4)]) ∧ 
    rt σ2 R (.tuple #[(.slice A3 l3 c3), (.int .i64 n4)])))
def M_queue_Lines_an : MAn := (.seq (.txt []) (.seq (.txt []) .leaf))
set_option maxRecDepth 100000 in
theorem M_queue_Lines_ok (σ : Hp) (f_Rides_A : Option Addr) (f_Rides_n : Nat) (f_Rides_c : Nat) (f_Walk : Int) (l_A : Option Addr) (l_n : Nat) (l_c : Nat) (R : Value → Hp → Prop) (h : M_queue_Lines σ f_Rides_A f_Rides_n f_Rides_c f_Walk l_A l_n l_c R) : FCalls Tryz.prog 8 #[(.agg #[(.slice f_Rides_A f_Rides_n f_Rides_c), (.int .i64 f_Walk)]), (.slice l_A l_n l_c)] σ R :=
  fcalls_of_M mixed_Q7 M_queue_Lines_an Tryz.func8 rfl (by kernel_rfl) (by kernel_rfl) (M := M_queue_Lines σ f_Rides_A f_Rides_n f_Rides_c f_Walk l_A l_n l_c R) (by kernel_rfl) h
theorem M_queue_Lines_enter : enterB Tryz.prog 8 = true := by kernel_rfl

abbrev N_ref07_Lines : FuncId := 11
/-- waltzer/waltzerref07.Lines -/
def M_ref07_Lines (σ : Hp) (f_Rides_A : Option Addr) (f_Rides_n : Nat) (f_Rides_c : Nat) (f_Walk : Int) (l_A : Option Addr) (l_n : Nat) (l_c : Nat) (R : Value → Hp → Prop) : Prop :=
  cl Tryz.prog (.func (.func 25) #[] #[]) #[(.agg #[(.slice f_Rides_A f_Rides_n f_Rides_c), (.int .i64 f_Walk)]), (.slice l_A l_n l_c)] σ (fun v1 σ2 => 
    ∃ n3 : Int, (v1 = (.int .i64 n3) ∧ bc (!decide (n3 = 0)) (rt σ2 R (.tuple #[(.slice none 0 0), (.int .i64 n3)])) (cl Tryz.prog (.func (.func 26) #[] #[]) #[(.agg #[(.slice f_Rides_A f_Rides_n f_Rides_c), (.int .i64 f_Walk)]), (.slice l_A l_n l_c)] σ2 (fun v4 σ5 => 
    ∃ p6 : Option Addr, (v4 = (.pointer p6) ∧ dr p6 (fun b7 o8 => ldS σ5 b7 (o8 + 10) (fun A9 l9 c9 => rt σ5 R (.tuple #[(.slice A9 l9 c9), (.int .i64 0)]))))))))
def M_ref07_Lines_an : MAn := (.seq (.txt []) (.seq (.txt []) (.seq (.seq (.txt []) (.cond (.seq (.txt []) .leaf) .leaf)) (.seq (.txt []) .leaf))))
set_option maxRecDepth 100000 in
theorem M_ref07_Lines_ok (σ : Hp) (f_Rides_A : Option Addr) (f_Rides_n : Nat) (f_Rides_c : Nat) (f_Walk : Int) (l_A : Option Addr) (l_n : Nat) (l_c : Nat) (R : Value → Hp → Prop) (h : M_ref07_Lines σ f_Rides_A f_Rides_n f_Rides_c f_Walk l_A l_n l_c R) : FCalls Tryz.prog 11 #[(.agg #[(.slice f_Rides_A f_Rides_n f_Rides_c), (.int .i64 f_Walk)]), (.slice l_A l_n l_c)] σ R :=
  fcalls_of_M mixed_Q7 M_ref07_Lines_an Tryz.func11 rfl (by kernel_rfl) (by kernel_rfl) (M := M_ref07_Lines σ f_Rides_A f_Rides_n f_Rides_c f_Walk l_A l_n l_c R) (by kernel_rfl) h
theorem M_ref07_Lines_enter : enterB Tryz.prog 11 = true := by kernel_rfl

abbrev N_queue_Waits : FuncId := 12
/-- waltzer/queue.Waits -/
def M_queue_Waits (σ : Hp) (f_Rides_A : Option Addr) (f_Rides_n : Nat) (f_Rides_c : Nat) (f_Walk : Int) (l_A : Option Addr) (l_n : Nat) (l_c : Nat) (R : Value → Hp → Prop) : Prop :=
  cl Tryz.prog (.func (.func 27) #[] #[]) #[(.agg #[(.slice f_Rides_A f_Rides_n f_Rides_c), (.int .i64 f_Walk)]), (.slice l_A l_n l_c)] σ (fun v1 σ2 => 
    ∃ n3 : Int, (v1 = (.int .i64 n3) ∧ bc (!decide (n3 = 0)) (rt σ2 R (.tuple #[(.int .i64 0), (.int .i64 0), (.int .i64 n3)])) (cl Tryz.prog (.func (.func 28) #[] #[]) #[(.agg #[(.slice f_Rides_A f_Rides_n f_Rides_c), (.int .i64 f_Walk)]), (.slice l_A l_n l_c)] σ2 (fun v4 σ5 => 
    ∃ p6 : Option Addr, (v4 = (.pointer p6) ∧ cl Tryz.prog (.func (.func 29) #[] #[]) #[(.pointer p6)] σ5 (fun v7 σ8 => 
    ∃ n9 : Int, ∃ n10 : Int, (v7 = (.tuple #[(.int .i64 n9), (.int .i64 n10)]) ∧ rt σ8 R (.tuple #[(.int .i64 n9), (.int .i64 n10), (.int .i64 0)]))))))))
def M_queue_Waits_an : MAn := (.seq (.txt []) (.seq (.seq (.txt []) (.seq (.txt []) (.cond (.seq (.txt []) .leaf) .leaf))) (.seq (.txt []) (.seq (.txt []) .leaf))))
set_option maxRecDepth 100000 in
theorem M_queue_Waits_ok (σ : Hp) (f_Rides_A : Option Addr) (f_Rides_n : Nat) (f_Rides_c : Nat) (f_Walk : Int) (l_A : Option Addr) (l_n : Nat) (l_c : Nat) (R : Value → Hp → Prop) (h : M_queue_Waits σ f_Rides_A f_Rides_n f_Rides_c f_Walk l_A l_n l_c R) : FCalls Tryz.prog 12 #[(.agg #[(.slice f_Rides_A f_Rides_n f_Rides_c), (.int .i64 f_Walk)]), (.slice l_A l_n l_c)] σ R :=
  fcalls_of_M mixed_Q7 M_queue_Waits_an Tryz.func12 rfl (by kernel_rfl) (by kernel_rfl) (M := M_queue_Waits σ f_Rides_A f_Rides_n f_Rides_c f_Walk l_A l_n l_c R) (by kernel_rfl) h
theorem M_queue_Waits_enter : enterB Tryz.prog 12 = true := by kernel_rfl

abbrev N_ref07_Waits : FuncId := 13
/-- waltzer/waltzerref07.Waits -/
def M_ref07_Waits (σ : Hp) (f_Rides_A : Option Addr) (f_Rides_n : Nat) (f_Rides_c : Nat) (f_Walk : Int) (l_A : Option Addr) (l_n : Nat) (l_c : Nat) (R : Value → Hp → Prop) : Prop :=
  cl Tryz.prog (.func (.func 25) #[] #[]) #[(.agg #[(.slice f_Rides_A f_Rides_n f_Rides_c), (.int .i64 f_Walk)]), (.slice l_A l_n l_c)] σ (fun v1 σ2 => 
    ∃ n3 : Int, (v1 = (.int .i64 n3) ∧ bc (!decide (n3 = 0)) (rt σ2 R (.tuple #[(.int .i64 0), (.int .i64 0), (.int .i64 n3)])) (cl Tryz.prog (.func (.func 30) #[] #[]) #[(.agg #[(.slice f_Rides_A f_Rides_n f_Rides_c), (.int .i64 f_Walk)]), (.slice l_A l_n l_c)] σ2 (fun v4 σ5 => 
    ∃ n6 : Int, ∃ n7 : Int, (v4 = (.tuple #[(.int .i64 n6), (.int .i64 n7)]) ∧ rt σ5 R (.tuple #[(.int .i64 n6), (.int .i64 n7), (.int .i64 0)]))))))
def M_ref07_Waits_an : MAn := (.seq (.txt []) (.seq (.txt []) (.seq (.seq (.txt []) (.cond (.seq (.txt []) .leaf) .leaf)) (.seq (.txt []) (.seq (.txt []) .leaf)))))
set_option maxRecDepth 100000 in
theorem M_ref07_Waits_ok (σ : Hp) (f_Rides_A : Option Addr) (f_Rides_n : Nat) (f_Rides_c : Nat) (f_Walk : Int) (l_A : Option Addr) (l_n : Nat) (l_c : Nat) (R : Value → Hp → Prop) (h : M_ref07_Waits σ f_Rides_A f_Rides_n f_Rides_c f_Walk l_A l_n l_c R) : FCalls Tryz.prog 13 #[(.agg #[(.slice f_Rides_A f_Rides_n f_Rides_c), (.int .i64 f_Walk)]), (.slice l_A l_n l_c)] σ R :=
  fcalls_of_M mixed_Q7 M_ref07_Waits_an Tryz.func13 rfl (by kernel_rfl) (by kernel_rfl) (M := M_ref07_Waits σ f_Rides_A f_Rides_n f_Rides_c f_Walk l_A l_n l_c R) (by kernel_rfl) h
theorem M_ref07_Waits_enter : enterB Tryz.prog 13 = true := by kernel_rfl

abbrev N_queue_Lines_1 : FuncId := 24
/-- waltzer/queue.Lines$1 -/
def M_queue_Lines_1 (σ : Hp) (r : Option Addr) (R : Value → Hp → Prop) : Prop :=
  dr r (fun b1 o2 => ldI σ .i64 b1 (o2 + 10) (fun n3 => rt σ R (.int .i64 n3)))
def M_queue_Lines_1_an : MAn := (.seq (.txt []) (.seq (.txt []) .leaf))
set_option maxRecDepth 100000 in
theorem M_queue_Lines_1_ok (σ : Hp) (r : Option Addr) (R : Value → Hp → Prop) (h : M_queue_Lines_1 σ r R) : FCalls Tryz.prog 24 #[(.pointer r)] σ R :=
  fcalls_of_M mixed_Q7 M_queue_Lines_1_an Tryz.func24 rfl (by kernel_rfl) (by kernel_rfl) (M := M_queue_Lines_1 σ r R) (by kernel_rfl) h
theorem M_queue_Lines_1_enter : enterB Tryz.prog 24 = true := by kernel_rfl

abbrev N_queue_night_waits : FuncId := 29
/-- (*waltzer/queue.night).waits -/
def M_queue_night_waits (σ : Hp) (n : Option Addr) (R : Value → Hp → Prop) : Prop :=
  cut (α := Int → Int → Hp → Prop) (fun n4 n5 σ2 => ∀ _ : Nat → Value, rt σ2 R (.tuple #[(.int .i64 n4), (.int .i64 n5)])) (fun J3 => 
    dr n (fun b6 o7 => ldS σ b6 (o7 + 4) (fun A8 l8 _ => ∃ I11 : Nat → Int → Int → Int → Hp → Prop, (∃ n120, I11 n120 0 0 0 σ) ∧ 
    ∀ n12 : Nat, ∀ n13 : Int, ∀ n14 : Int, ∀ n15 : Int, ∀ σ10 : Hp, I11 n12 n13 n14 n15 σ10 → ∀ _ : Nat → Value, bc (decide (n15 < ((l8 : Nat) : Int))) (cut (α := Int → Int → Hp → Prop) (fun n19 n20 σ17 => 
    ∀ _ : Nat → Value, wk .i64 (n15 + 1) (fun n21 => bk σ17 n12 (fun m22 σ23 => I11 m22 n19 n20 n21 σ23))) (fun J18 => 
    ix A8 l8 n15 6 (fun b24 a25 => ldI σ10 .i64 b24 a25 (fun n26 => ldI σ10 .i64 b24 (a25 + 1) (fun _ => 
    ldI σ10 .i64 b24 (a25 + 2) (fun _ => ldB σ10 b24 (a25 + 3) (fun t29 => ldI σ10 .i64 b24 (a25 + 4) (fun n30 => 
    ldI σ10 .i64 b24 (a25 + 5) (fun n31 => bc t29 (dr n (fun b32 o33 => ldS σ10 b32 (o33 + 2) (fun A34 l34 _ => 
    ix A34 l34 n26 1 (fun b35 a36 => ldP σ10 b35 a36 (fun p37 => dr p37 (fun b38 o39 => ldI σ10 .i64 b38 (o39 + 1) (fun n40 => 
    wk .i64 (n31 - n30) (fun n41 => wk .i64 (n40 * n41) (fun n42 => wk .i64 (n13 + n42) (fun n43 => wk .i64 (n14 + n40) (fun n44 => 
    J18 n43 n44 σ10))))))))))) (J18 n13 n14 σ10)))))))))) (J3 n13 n14 σ10))))
def M_queue_night_waits_an : MAn := (.seq (.txt []) (.cut ⟨[], 0, [.slot 2 (.sc (.int .i64)), .slot 3 (.sc (.int .i64))], []⟩ (.seq (.txt []) (.block (.loop ⟨[], 0, [.slot 2 (.sc (.int .i64)), .slot 3 (.sc (.int .i64)), .slot 12 (.sc (.int .i64))], [(0, true), (10, true), (11, true)]⟩ (.seq (.txt []) (.seq (.cond .leaf .leaf) (.cut ⟨[], 0, [.slot 2 (.sc (.int .i64)), .slot 3 (.sc (.int .i64))], [(0, true), (10, true), (11, true), (12, true)]⟩ (.block (.seq (.txt []) (.seq (.txt []) (.cond (.seq (.plan [] (.take 0 ⟨[], false, []⟩ (.take 1 ⟨[], false, []⟩ (.take 2 ⟨[], false, []⟩ (.take 3 ⟨[], false, []⟩ (.take 4 ⟨[], false, []⟩ (.take 5 ⟨[], false, []⟩ (.take 6 ⟨[], false, []⟩ (.take 7 ⟨[], false, []⟩ (.take 8 ⟨[], false, []⟩ (.take 9 ⟨[], false, []⟩ (.take 10 ⟨[], false, []⟩ (.take 11 ⟨[], false, []⟩ (.take 12 ⟨[], false, []⟩ .done)))))))))))))) (.seq (.txt []) (.txt []))) .leaf)))) (.txt []))))))) (.seq (.txt []) .leaf)))
set_option maxRecDepth 100000 in
theorem M_queue_night_waits_ok (σ : Hp) (n : Option Addr) (R : Value → Hp → Prop) (h : M_queue_night_waits σ n R) : FCalls Tryz.prog 29 #[(.pointer n)] σ R :=
  fcalls_of_M mixed_Q7 M_queue_night_waits_an Tryz.func29 rfl (by kernel_rfl) (by kernel_rfl) (M := M_queue_night_waits σ n R) (by kernel_rfl) h
theorem M_queue_night_waits_enter : enterB Tryz.prog 29 = true := by kernel_rfl

abbrev N_ref07_waits : FuncId := 30
/-- waltzer/waltzerref07.waits -/
def M_ref07_waits (σ : Hp) (f_Rides_A : Option Addr) (f_Rides_n : Nat) (f_Rides_c : Nat) (f_Walk : Int) (l_A : Option Addr) (l_n : Nat) (l_c : Nat) (R : Value → Hp → Prop) : Prop :=
  cl Tryz.prog (.func (.func 26) #[] #[]) #[(.agg #[(.slice f_Rides_A f_Rides_n f_Rides_c), (.int .i64 f_Walk)]), (.slice l_A l_n l_c)] σ (fun v1 σ2 => 
    ∃ p3 : Option Addr, (v1 = (.pointer p3) ∧ dr p3 (fun b4 o5 => ldS σ2 b4 (o5 + 8) (fun A6 l6 _ => cut (α := Int → Int → Hp → Prop) (fun n10 n11 σ8 => 
    ∀ _ : Nat → Value, rt σ8 R (.tuple #[(.int .i64 n10), (.int .i64 n11)])) (fun J9 => ∃ I14 : Nat → Int → Int → Int → Hp → Prop, (∃ n150, I14 n150 0 0 0 σ2) ∧ 
    ∀ n15 : Nat, ∀ n16 : Int, ∀ n17 : Int, ∀ n18 : Int, ∀ σ13 : Hp, I14 n15 n16 n17 n18 σ13 → ∀ _ : Nat → Value, bc (decide (n18 < ((l6 : Nat) : Int))) (cut (α := Int → Int → Hp → Prop) (fun n22 n23 σ20 => 
    ∀ _ : Nat → Value, wk .i64 (n18 + 1) (fun n24 => bk σ20 n15 (fun m25 σ26 => I14 m25 n22 n23 n24 σ26))) (fun J21 => 
    ix A6 l6 n18 6 (fun b27 a28 => ldB σ13 b27 (a28 + 3) (fun t29 => bc t29 (ix A6 l6 n18 6 (fun b30 a31 => 
    ldI σ13 .i64 b30 (a31 + 5) (fun n32 => ix A6 l6 n18 6 (fun b33 a34 => ldI σ13 .i64 b33 (a34 + 4) (fun n35 => 
    wk .i64 (n32 - n35) (fun n36 => ix A6 l6 n18 6 (fun b37 a38 => ldI σ13 .i64 b37 a38 (fun n39 => ix l_A l_n n39 5 (fun b40 a41 => 
    ldI σ13 .i64 b40 (a41 + 1) (fun n42 => wk .i64 (n36 * n42) (fun n43 => wk .i64 (n16 + n43) (fun n44 => 
    ix A6 l6 n18 6 (fun b45 a46 => ldI σ13 .i64 b45 a46 (fun n47 => ix l_A l_n n47 5 (fun b48 a49 => ldI σ13 .i64 b48 (a49 + 1) (fun n50 => 
    wk .i64 (n17 + n50) (fun n51 => J21 n44 n51 σ13))))))))))))))))) (J21 n16 n17 σ13))))) (J9 n16 n17 σ13))))))
def M_ref07_waits_an : MAn := (.seq (.txt []) (.seq (.txt []) (.seq (.txt []) (.cut ⟨[true], 1, [.slot 6 (.sc (.int .i64)), .slot 7 (.sc (.int .i64))], []⟩ (.seq (.txt []) (.block (.loop ⟨[true], 1, [.slot 6 (.sc (.int .i64)), .slot 7 (.sc (.int .i64)), .slot 9 (.sc (.int .i64))], [(1, true), (8, true)]⟩ (.seq (.seq (.txt []) (.cond .leaf .leaf)) (.cut ⟨[true], 1, [.slot 6 (.sc (.int .i64)), .slot 7 (.sc (.int .i64))], [(1, true), (8, true), (9, true)]⟩ (.block (.seq (.txt []) (.cond (.seq (.plan [] (.take 0 ⟨[], false, []⟩ (.take 1 ⟨[], false, []⟩ (.take 2 ⟨[], false, []⟩ (.take 3 ⟨[], false, []⟩ (.take 4 ⟨[], false, []⟩ (.take 5 ⟨[], false, []⟩ (.take 6 ⟨[], false, []⟩ (.take 7 ⟨[], false, []⟩ (.take 8 ⟨[], false, []⟩ (.take 9 ⟨[], false, []⟩ (.take 10 ⟨[], false, []⟩ (.take 11 ⟨[], false, []⟩ (.take 12 ⟨[], false, []⟩ (.take 13 ⟨[], false, []⟩ (.take 14 ⟨[], false, []⟩ (.take 15 ⟨[], false, []⟩ (.take 16 ⟨[], false, []⟩ (.take 17 ⟨[], false, []⟩ (.take 18 ⟨[], false, []⟩ (.take 19 ⟨[], false, []⟩ (.take 20 ⟨[], false, []⟩ (.take 21 ⟨[], false, []⟩ (.take 22 ⟨[], false, []⟩ (.take 23 ⟨[], false, []⟩ .done))))))))))))))))))))))))) (.txt [])) .leaf))) (.txt [])))))) (.seq (.txt []) .leaf)))))
set_option maxRecDepth 100000 in
theorem M_ref07_waits_ok (σ : Hp) (f_Rides_A : Option Addr) (f_Rides_n : Nat) (f_Rides_c : Nat) (f_Walk : Int) (l_A : Option Addr) (l_n : Nat) (l_c : Nat) (R : Value → Hp → Prop) (h : M_ref07_waits σ f_Rides_A f_Rides_n f_Rides_c f_Walk l_A l_n l_c R) : FCalls Tryz.prog 30 #[(.agg #[(.slice f_Rides_A f_Rides_n f_Rides_c), (.int .i64 f_Walk)]), (.slice l_A l_n l_c)] σ R :=
  fcalls_of_M mixed_Q7 M_ref07_waits_an Tryz.func30 rfl (by kernel_rfl) (by kernel_rfl) (M := M_ref07_waits σ f_Rides_A f_Rides_n f_Rides_c f_Walk l_A l_n l_c R) (by kernel_rfl) h
theorem M_ref07_waits_enter : enterB Tryz.prog 30 = true := by kernel_rfl

end Go.Proofs.YtgcefaikdplbkaaGreat
