/- Trimmed by wip/trim.py to what this claim rests on. -/
import Derived.Test.YtkdjkkimngeloaaXB11
namespace Go.Proofs.Ytkdjkkimngeloaa
open Go.RowKit
theorem Dl : Try.prog.follows .mixedOrders = true := by kernel_rfl
abbrev C2 : FuncId := 82
def B2 (σ : Hp) (c_ticks : Int) (IF : Int) (d_ticks : Int) (d_legs : Int) (R : Value → Hp → Prop) : Prop :=
  wk .i64 (c_ticks - d_ticks) (fun n1 => wk .i64 (IF - d_legs) (fun n2 => exl 3 [.int .i64] ([n1, n2] : List Int) σ (fun A3 l3 c3 σ4 => 
    cl Try.prog (.func (.func 100) #[] #[]) #[(.slice A3 l3 c3)] σ4 (fun v5 σ6 => ∃ n7 : Int, (v5 = (.int .i64 n7) ∧ 
    rt σ6 R (.int .i64 n7))))))
def Es : MAn := (.seq (.txt []) (.seq (.txt []) .leaf))
set_option maxRecDepth 100000 in
theorem EI (σ : Hp) (c_ticks : Int) (IF : Int) (d_ticks : Int) (d_legs : Int) (R : Value → Hp → Prop) (h : B2 σ c_ticks IF d_ticks d_legs R) : Af Try.prog 82 #[(.agg #[(.int .i64 c_ticks), (.int .i64 IF)]), (.agg #[(.int .i64 d_ticks), (.int .i64 d_legs)])] σ R :=
  Am Dl Es Try.func82 rfl (by kernel_rfl) (by kernel_rfl) (M := B2 σ c_ticks IF d_ticks d_legs R) (by kernel_rfl) h
theorem DP : AA Try.prog 82 = true := by kernel_rfl
abbrev LR : FuncId := 100
def FG (σ : Hp) (vals_A : Option Addr) (vals_n : Nat) (_ : Nat) (R : Value → Hp → Prop) : Prop :=
  cut (α := Hp → Prop) (fun  σ2 => ∀ _ : Nat → Value, rt σ2 R (.int .i64 0)) (fun J3 => ∃ I6 : Nat → Int → Hp → Prop, (∃ n70, I6 n70 0 σ) ∧ 
    ∀ n7 : Nat, ∀ n8 : Int, ∀ σ5 : Hp, I6 n7 n8 σ5 → ∀ _ : Nat → Value, bc (decide (n8 < ((vals_n : Nat) : Int))) (ix vals_A vals_n n8 1 (fun b9 a10 => 
    ldI σ5 .i64 b9 a10 (fun n11 => bc (!decide (n11 = 0)) (rt σ5 R (.int .i64 n11)) (wk .i64 (n8 + 1) (fun n12 => 
    bk σ5 n7 (fun m13 σ14 => I6 m13 n12 σ14)))))) (J3 σ5))
def Ju : MAn := (.seq (.txt []) (.seq (.txt []) (.cut ⟨[], 0, [], [(3, true)]⟩ (.seq (.txt []) (.block (.loop ⟨[], 0, [.slot 8 (.sc (.int .i64))], [(3, true), (6, true), (7, true)]⟩ (.seq (.txt []) (.seq (.cond .leaf .leaf) (.seq (.block (.seq (.txt []) (.seq (.txt []) (.cond (.seq (.txt []) .leaf) .leaf)))) (.txt []))))))) (.seq (.txt []) .leaf))))
set_option maxRecDepth 100000 in
theorem Jt (σ : Hp) (vals_A : Option Addr) (vals_n : Nat) (vals_c : Nat) (R : Value → Hp → Prop) (h : FG σ vals_A vals_n vals_c R) : Af Try.prog 100 #[(.slice vals_A vals_n vals_c)] σ R :=
  Am Dl Ju Try.func100 rfl (by kernel_rfl) (by kernel_rfl) (M := FG σ vals_A vals_n vals_c R) (by kernel_rfl) h
theorem Hl : AA Try.prog 100 = true := by kernel_rfl
abbrev G9 : FuncId := 85
def DE (σ : Hp) (a_m_Parking_A : Option Addr) (a_m_Parking_n : Nat) (a_m_Parking_c : Nat) (a_m_Roads_A : Option Addr) (a_m_Roads_n : Nat) (a_m_Roads_c : Nat) (a_l_Height : Int) (a_l_Weight : Int) (a_l_From : Int) (a_l_Ready : Int) (a_l_Drive : Int) (a_l_Rest : Int) (from_town : Int) (from_used : Int) (R : Value → Hp → Prop) : Prop :=
  bx σ (.cells #[(.slice a_m_Parking_A a_m_Parking_n a_m_Parking_c), (.slice a_m_Roads_A a_m_Roads_n a_m_Roads_c), (.int .i64 a_l_Height), (.int .i64 a_l_Weight), (.int .i64 a_l_From), (.int .i64 a_l_Ready), (.int .i64 a_l_Drive), (.int .i64 a_l_Rest)] 84) (fun b1 σ2 => 
    bx σ2 (.cells #[(.int .i64 from_town), (.int .i64 from_used)] 132) (fun b3 σ4 => rt σ4 R (.func (.func 102) #[] #[(.pointer (some ⟨b1, 0, none⟩)), (.pointer (some ⟨b3, 0, none⟩))])))
def Fp : MAn := (.seq (.txt []) (.seq (.txt []) .leaf))
set_option maxRecDepth 100000 in
theorem FE (σ : Hp) (a_m_Parking_A : Option Addr) (a_m_Parking_n : Nat) (a_m_Parking_c : Nat) (a_m_Roads_A : Option Addr) (a_m_Roads_n : Nat) (a_m_Roads_c : Nat) (a_l_Height : Int) (a_l_Weight : Int) (a_l_From : Int) (a_l_Ready : Int) (a_l_Drive : Int) (a_l_Rest : Int) (from_town : Int) (from_used : Int) (R : Value → Hp → Prop) (h : DE σ a_m_Parking_A a_m_Parking_n a_m_Parking_c a_m_Roads_A a_m_Roads_n a_m_Roads_c a_l_Height a_l_Weight a_l_From a_l_Ready a_l_Drive a_l_Rest from_town from_used R) : Af Try.prog 85 #[(.agg #[(.slice a_m_Parking_A a_m_Parking_n a_m_Parking_c), (.slice a_m_Roads_A a_m_Roads_n a_m_Roads_c), (.int .i64 a_l_Height), (.int .i64 a_l_Weight), (.int .i64 a_l_From), (.int .i64 a_l_Ready), (.int .i64 a_l_Drive), (.int .i64 a_l_Rest)]), (.agg #[(.int .i64 from_town), (.int .i64 from_used)])] σ R :=
  Am Dl Fp Try.func85 rfl (by kernel_rfl) (by kernel_rfl) (M := DE σ a_m_Parking_A a_m_Parking_n a_m_Parking_c a_m_Roads_A a_m_Roads_n a_m_Roads_c a_l_Height a_l_Weight a_l_From a_l_Ready a_l_Drive a_l_Rest from_town from_used R) (by kernel_rfl) h
theorem BC : AA Try.prog 85 = true := by kernel_rfl
abbrev C5 : FuncId := 102
def BY (σ : Hp) (a0 : Value) (cap0 : Option Addr) (cap1 : Option Addr) (R : Value → Hp → Prop) : Prop :=
  dr cap0 (fun b1 o2 => ldS σ b1 (o2 + 1) (fun A3 l3 _ => ∃ I7 : Nat → Int → Hp → Prop, (∃ n80, I7 n80 0 σ) ∧ 
    ∀ n8 : Nat, ∀ n9 : Int, ∀ σ6 : Hp, I7 n8 n9 σ6 → ∀ _ : Nat → Value, bc (decide (n9 < ((l3 : Nat) : Int))) (cut (α := Hp → Prop) (fun  σ11 => 
    ∀ _ : Nat → Value, wk .i64 (n9 + 1) (fun n13 => bk σ11 n8 (fun m14 σ15 => I7 m14 n13 σ15))) (fun J12 => 
    ix A3 l3 n9 5 (fun b16 a17 => ldI σ6 .i64 b16 a17 (fun n18 => ldI σ6 .i64 b16 (a17 + 1) (fun n19 => ldI σ6 .i64 b16 (a17 + 2) (fun n20 => 
    ldI σ6 .i64 b16 (a17 + 3) (fun n21 => ldI σ6 .i64 b16 (a17 + 4) (fun n22 => cut (α := Hp → Prop) (fun  σ24 => 
    ∀ _ : Nat → Value, wk .i64 (n18 + n19) (fun n26 => dr cap1 (fun b27 o28 => ldI σ24 .i64 b27 o28 (fun n29 => 
    wk .i64 (n26 - n29) (fun n30 => cut (α := Hp → Prop) (fun  σ32 => ∀ _ : Nat → Value, cut (α := Bool → Hp → Prop) (fun t37 σ35 => 
    ∀ _ : Nat → Value, cut (α := Bool → Hp → Prop) (fun t41 σ39 => ∀ _ : Nat → Value, bc t41 (rt σ39 R (.tuple #[])) (J12 σ39)) (fun J40 => 
    bc t37 (dr cap0 (fun b42 o43 => ldI σ35 .i64 b42 ((o43 + 2) + 5) (fun n44 => dr cap0 (fun b45 o46 => 
    ldI σ35 .i64 b45 ((o46 + 2) + 5) (fun n47 => wk .i64 (n47 + n20) (fun n48 => cl Try.prog a0 #[(.agg #[(.int .i64 n9), (.int .i64 n44), (.int .i64 n30), (.int .i64 n20), (.int .i64 n48), (.int .i64 1)])] σ35 (fun v49 σ50 => 
    ∃ t51 : Bool, (v49 = (.bool t51) ∧ J40 (!t51) σ50)))))))) (J40 false σ35))) (fun J36 => dr cap0 (fun b52 o53 => 
    ldS σ32 b52 o53 (fun A54 l54 _ => dr cap1 (fun b55 o56 => ldI σ32 .i64 b55 o56 (fun n57 => ix A54 l54 n57 1 (fun b58 a59 => 
    ldB σ32 b58 a59 (fun t60 => bc t60 (dr cap1 (fun b61 o62 => ldI σ32 .i64 b61 (o62 + 1) (fun n63 => bc (decide ((0 : Int) < n63)) (dr cap0 (fun b64 o65 => 
    ldI σ32 .i64 b64 ((o65 + 2) + 4) (fun n66 => J36 (decide (n20 ≤ n66)) σ32))) (J36 false σ32)))) (J36 false σ32))))))))) (fun J33 => 
    cut (α := Bool → Hp → Prop) (fun t70 σ68 => ∀ _ : Nat → Value, bc t70 (rt σ68 R (.tuple #[])) (J33 σ68)) (fun J69 => 
    dr cap1 (fun b71 o72 => ldI σ24 .i64 b71 (o72 + 1) (fun n73 => wk .i64 (n73 + n20) (fun n74 => dr cap0 (fun b75 o76 => 
    ldI σ24 .i64 b75 ((o76 + 2) + 4) (fun n77 => bc (decide (n74 ≤ n77)) (dr cap1 (fun b78 o79 => ldI σ24 .i64 b78 (o79 + 1) (fun n80 => 
    wk .i64 (n80 + n20) (fun n81 => cl Try.prog a0 #[(.agg #[(.int .i64 n9), (.int .i64 0), (.int .i64 n30), (.int .i64 n81), (.int .i64 n20), (.int .i64 1)])] σ24 (fun v82 σ83 => 
    ∃ t84 : Bool, (v82 = (.bool t84) ∧ J69 (!t84) σ83)))))) (J69 false σ24))))))))))))) (fun J25 => cut (α := Bool → Hp → Prop) (fun t88 σ86 => 
    ∀ _ : Nat → Value, bc t88 (J12 σ86) (J25 σ86)) (fun J87 => dr cap1 (fun b89 o90 => ldI σ6 .i64 b89 o90 (fun n91 => 
    bc (!decide (n18 = n91)) (dr cap1 (fun b92 o93 => ldI σ6 .i64 b92 o93 (fun n94 => bc (!decide (n19 = n94)) (J87 true σ6) (dr cap0 (fun b95 o96 => 
    ldI σ6 .i64 b95 (o96 + 2) (fun n97 => ldI σ6 .i64 b95 ((o96 + 2) + 1) (fun n98 => ldI σ6 .i64 b95 ((o96 + 2) + 2) (fun n99 => 
    ldI σ6 .i64 b95 ((o96 + 2) + 3) (fun n100 => ldI σ6 .i64 b95 ((o96 + 2) + 4) (fun n101 => ldI σ6 .i64 b95 ((o96 + 2) + 5) (fun n102 => 
    cl Try.prog (.func (.func 59) #[] #[]) #[(.agg #[(.int .i64 n18), (.int .i64 n19), (.int .i64 n20), (.int .i64 n21), (.int .i64 n22)]), (.agg #[(.int .i64 n97), (.int .i64 n98), (.int .i64 n99), (.int .i64 n100), (.int .i64 n101), (.int .i64 n102)])] σ6 (fun v103 σ104 => 
    ∃ t105 : Bool, (v103 = (.bool t105) ∧ J87 (!t105) σ104))))))))))))) (dr cap0 (fun b106 o107 => ldI σ6 .i64 b106 (o107 + 2) (fun n108 => 
    ldI σ6 .i64 b106 ((o107 + 2) + 1) (fun n109 => ldI σ6 .i64 b106 ((o107 + 2) + 2) (fun n110 => ldI σ6 .i64 b106 ((o107 + 2) + 3) (fun n111 => 
    ldI σ6 .i64 b106 ((o107 + 2) + 4) (fun n112 => ldI σ6 .i64 b106 ((o107 + 2) + 5) (fun n113 => cl Try.prog (.func (.func 59) #[] #[]) #[(.agg #[(.int .i64 n18), (.int .i64 n19), (.int .i64 n20), (.int .i64 n21), (.int .i64 n22)]), (.agg #[(.int .i64 n108), (.int .i64 n109), (.int .i64 n110), (.int .i64 n111), (.int .i64 n112), (.int .i64 n113)])] σ6 (fun v114 σ115 => 
    ∃ t116 : Bool, (v114 = (.bool t116) ∧ J87 (!t116) σ115)))))))))))))))))))))) (rt σ6 R (.tuple #[]))))
def Ad : OA := ⟨[], false, []⟩
def EF : MAn := (.seq (.txt []) (.block (.loop ⟨[], 0, [.slot 12 (.sc (.int .i64))], [(0, false), (1, true), (2, true), (10, true), (11, true)]⟩ (.seq (.txt []) (.seq (.cond .leaf .leaf) (.cut ⟨[], 0, [], [(0, false), (1, true), (2, true), (10, true), (11, true), (12, true)]⟩ (.block (.seq (.txt []) (.cut ⟨[true], 1, [.slot 5 (.hb 0 0)], [(0, false), (1, true), (2, true), (4, true), (10, true), (11, true), (12, true)]⟩ (.cut ⟨[true], 1, [.slot 5 (.hb 0 0), .slot 35 (.sc (.bool))], [(0, false), (1, true), (2, true), (4, true), (10, true), (11, true), (12, true)]⟩ (.txt [Ad, Ad, Ad, Ad, Ad, ⟨[], true, []⟩, Ad, Ad, Ad, Ad, Ad, Ad, ⟨[], true, []⟩]) (.cond .leaf .leaf)) (.seq (.txt []) (.cut ⟨[true], 1, [.slot 5 (.hb 0 0)], [(0, false), (1, true), (2, true), (4, true), (6, true), (10, true), (11, true), (12, true)]⟩ (.cut ⟨[true], 1, [.slot 5 (.hb 0 0), .slot 69 (.sc (.bool))], [(0, false), (1, true), (2, true), (4, true), (6, true), (10, true), (11, true), (12, true)]⟩ (.txt [Ad, Ad, Ad, Ad, Ad, Ad, Ad, Ad, Ad, ⟨[], true, []⟩]) (.cond .leaf .leaf)) (.cut ⟨[true], 1, [.slot 5 (.hb 0 0), .slot 7 (.sc (.bool))], [(0, false), (1, true), (2, true), (4, true), (6, true), (10, true), (11, true), (12, true)]⟩ (.txt [Ad, Ad, Ad, Ad, Ad, Ad, Ad, ⟨[], true, []⟩, Ad, Ad, Ad, Ad, ⟨[], true, []⟩]) (.cut ⟨[true], 1, [.slot 111 (.sc (.bool))], [(0, false), (1, true), (2, true), (10, true), (11, true), (12, true)]⟩ (.txt [Ad, ⟨[], true, []⟩]) (.cond .leaf .leaf)))))))) (.txt [])))))))
set_option maxRecDepth 100000 in
theorem ED (σ : Hp) (a0 : Value) (cap0 : Option Addr) (cap1 : Option Addr) (R : Value → Hp → Prop) (h : BY σ a0 cap0 cap1 R) : Af Try.prog 102 #[a0, (.pointer cap0), (.pointer cap1)] σ R :=
  Am Dl EF Try.func102 rfl (by kernel_rfl) (by kernel_rfl) (M := BY σ a0 cap0 cap1 R) (by kernel_rfl) h
theorem Bn : AA Try.prog 102 = true := by kernel_rfl
abbrev GD : FuncId := 81
def Ca (σ : Hp) (a0_m_Parking_A : Option Addr) (a0_m_Parking_n : Nat) (a0_m_Parking_c : Nat) (a0_m_Roads_A : Option Addr) (a0_m_Roads_n : Nat) (a0_m_Roads_c : Nat) (a0_l_Height : Int) (a0_l_Weight : Int) (a0_l_From : Int) (a0_l_Ready : Int) (a0_l_Drive : Int) (a0_l_Rest : Int) (R : Value → Hp → Prop) : Prop :=
  mkm σ (fun b1 σ2 => upm Try.prog 128 (.map (some b1)) (.agg #[(.int .i64 a0_l_From), (.int .i64 0)]) (.agg #[(.int .i64 0), (.int .i64 0)]) σ2 (fun σ3 => 
    mkm σ3 (fun b4 σ5 => exl 156 [.int .i64, .int .i64, .int .i64, .int .i64] ([(a0_l_From, 0, 0, 0)] : List (Int × Int × Int × Int)) σ5 (fun A6 l6 c6 σ7 => 
    bx σ7 (.cells #[(.slice A6 l6 c6)] 158) (fun b8 σ9 => cut (α := Option Addr → Hp → Prop) (fun p13 σ11 => 
    ∀ _ : Nat → Value, dr p13 (fun b14 o15 => ldM σ11 b14 o15 (fun m16 => rt σ11 R (.map m16)))) (fun J12 => 
    ∃ I19 : Nat → Option Addr → Option Addr → Hp → Prop, (∃ n200, bx σ9 (.cells #[(.map (some b1))] 128) (fun b21 σ22 => 
    bx σ22 (.cells #[(.iface 154 (.pointer (some ⟨b8, 0, none⟩)))] 160) (fun b23 σ24 => I19 n200 (some ⟨b21, 0, none⟩) (some ⟨b23, 0, none⟩) σ24))) ∧ 
    ∀ n20 : Nat, ∀ p25 : Option Addr, ∀ p26 : Option Addr, ∀ σ18 : Hp, I19 n20 p25 p26 σ18 → ∀ _ : Nat → Value, dr p26 (fun b27 o28 => 
    ldV σ18 b27 o28 (fun v29 => ivk Try.prog v29 "Len" #[] σ18 (fun v30 σ31 => ∃ n32 : Int, (v30 = (.int .i64 n32) ∧ 
    bc (decide ((0 : Int) < n32)) (dr p26 (fun b33 o34 => ldV σ31 b33 o34 (fun v35 => cl Try.prog (.func (.func 98) #[] #[]) #[v35] σ31 (fun v36 σ37 => 
    ∃ v38 : Value, (v36 = v38 ∧ tas Try.prog v38 20 156 σ37 (fun v39 => ∃ n40 : Int, ∃ n41 : Int, ∃ n42 : Int, ∃ n43 : Int, (v39 = (.agg #[(.int .i64 n40), (.int .i64 n41), (.int .i64 n42), (.int .i64 n43)]) ∧ 
    lkp Try.prog 153 (.map (some b4)) (.agg #[(.int .i64 n40), (.int .i64 n41)]) σ37 (fun v44 => ∃ n45 : Int, (v44 = (.int .i64 n45) ∧ 
    bc (decide (n45 = 1)) (bk σ37 n20 (fun m46 σ47 => I19 m46 p25 p26 σ47)) (upm Try.prog 153 (.map (some b4)) (.agg #[(.int .i64 n40), (.int .i64 n41)]) (.int .i64 1) σ37 (fun σ48 => 
    cl Try.prog (.func (.func 85) #[] #[]) #[(.agg #[(.slice a0_m_Parking_A a0_m_Parking_n a0_m_Parking_c), (.slice a0_m_Roads_A a0_m_Roads_n a0_m_Roads_c), (.int .i64 a0_l_Height), (.int .i64 a0_l_Weight), (.int .i64 a0_l_From), (.int .i64 a0_l_Ready), (.int .i64 a0_l_Drive), (.int .i64 a0_l_Rest)]), (.agg #[(.int .i64 n40), (.int .i64 n41)])] σ48 (fun v49 σ50 => 
    ∃ v51 : Value, (v49 = v51 ∧ bx σ50 (.cells #[(.int .i64 n40), (.int .i64 n41), (.int .i64 n42), (.int .i64 n43)] 156) (fun b52 σ53 => 
    QQ Try.prog v51 σ53 (fun l54 Rec55 ag56 σ57 R58 => ∃ n62 : Int, ∃ n63 : Int, ∃ n64 : Int, ∃ n65 : Int, ∃ n66 : Int, ∃ n67 : Int, (ag56 = #[(.agg #[(.int .i64 n62), (.int .i64 n63), (.int .i64 n64), (.int .i64 n65), (.int .i64 n66), (.int .i64 n67)])] ∧ 
    ∀ _ : Nat → Value, rgb l54 Rec55 σ57 (fun σ68 => ldI σ68 .i64 b52 2 (fun n69 => wk .i64 (n69 + n66) (fun n70 => 
    ldI σ68 .i64 b52 3 (fun n71 => wk .i64 (n71 + n67) (fun n72 => dr p25 (fun b73 o74 => ldM σ68 b73 o74 (fun m75 => 
    lko Try.prog 128 (.map m75) (.agg #[(.int .i64 n64), (.int .i64 n65)]) σ68 (fun v76 t77 => ∃ n78 : Int, ∃ n79 : Int, (v76 = (.agg #[(.int .i64 n78), (.int .i64 n79)]) ∧ 
    cut (α := Bool → Hp → Prop) (fun t83 σ81 => ∀ _ : Nat → Value, bc t83 (dr p25 (fun b84 o85 => ldM σ81 b84 o85 (fun m86 => 
    upm Try.prog 128 (.map m86) (.agg #[(.int .i64 n64), (.int .i64 n65)]) (.agg #[(.int .i64 n70), (.int .i64 n72)]) σ81 (fun σ87 => 
    dr p26 (fun b88 o89 => ldV σ87 b88 o89 (fun v90 => cl Try.prog (.func (.func 99) #[] #[]) #[v90, (.iface 156 (.agg #[(.int .i64 n64), (.int .i64 n65), (.int .i64 n70), (.int .i64 n72)]))] σ87 (fun _ σ92 => 
    rgo l54 Rec55 R58 σ92))))))) (rgo l54 Rec55 R58 σ81)) (fun J82 => bc (!t77) (J82 true σ68) (cl Try.prog (.func (.func 82) #[] #[]) #[(.agg #[(.int .i64 n70), (.int .i64 n72)]), (.agg #[(.int .i64 n78), (.int .i64 n79)])] σ68 (fun v93 σ94 => 
    ∃ n95 : Int, (v93 = (.int .i64 n95) ∧ J82 (decide (n95 < 0)) σ94))))))))))))))) (fun p59 σ60 => aft p59 (bk σ60 n20 (fun m100 σ101 => 
    I19 m100 p25 p26 σ101)) (rt σ60 R (.map none)) (fun i => exb i 2 (bk σ60 n20 (fun m98 σ99 => I19 m98 p25 p26 σ99)) (exb i 1 (bk σ60 n20 (fun m96 σ97 => 
    I19 m96 p25 p26 σ97)) (exb i 0 (J12 p25 σ60) (False))))))))))))))))))) (J12 p25 σ31)))))))))))
def Ax : OA := ⟨[], false, []⟩
def E0 : MAn := (.seq (.txt []) (.seq (.txt []) (.seq (.txt []) (.seq (.txt []) (.seq (.txt []) (.cut ⟨[true, true, false, false, false, false], 6, [.slot 4 (.sc (.ptr))], []⟩ (.block (.loop ⟨[true, true, false, false, false, false], 6, [.slot 1 (.hb 0 0), .slot 4 (.sc (.ptr)), .slot 6 (.sc (.ptr))], [(2, true), (5, true)]⟩ (.seq (.seq (.txt []) (.cond .leaf .leaf)) (.block (.seq (.txt [Ax, Ax, ⟨[], false, [.ty 32 true [.int .i64, .int .i64, .int .i64, .int .i64]]⟩]) (.seq (.seq (.txt [Ax, Ax, Ax, ⟨[], false, [.ty 36 false [.int .i64]]⟩]) (.cond .leaf .leaf)) (.seq (.txt []) (.seq (.txt []) (.block (.rng [.exp 7] [(4, true), (6, true), (7, true)] [140] (.txt []) (.block (.seq (.txt []) (.seq (.txt [Ax, Ax, Ax, Ax, Ax, ⟨[], false, [.ty 66 true [.int .i64, .int .i64]]⟩]) (.cut ⟨[true, true, true], 3, [.slot 8 (.hb 0 0), .slot 9 (.hb 1 0), .slot 75 (.sc (.bool))], [(4, true), (6, true)]⟩ (.txt [Ax, Ax, ⟨[], true, []⟩]) (.cond (.seq (.txt []) (.txt [])) .leaf))))))))))))))) (.seq (.txt []) .leaf)))))))
set_option maxRecDepth 100000 in
theorem EZ (σ : Hp) (a0_m_Parking_A : Option Addr) (a0_m_Parking_n : Nat) (a0_m_Parking_c : Nat) (a0_m_Roads_A : Option Addr) (a0_m_Roads_n : Nat) (a0_m_Roads_c : Nat) (a0_l_Height : Int) (a0_l_Weight : Int) (a0_l_From : Int) (a0_l_Ready : Int) (a0_l_Drive : Int) (a0_l_Rest : Int) (R : Value → Hp → Prop) (h : Ca σ a0_m_Parking_A a0_m_Parking_n a0_m_Parking_c a0_m_Roads_A a0_m_Roads_n a0_m_Roads_c a0_l_Height a0_l_Weight a0_l_From a0_l_Ready a0_l_Drive a0_l_Rest R) : Af Try.prog 81 #[(.agg #[(.slice a0_m_Parking_A a0_m_Parking_n a0_m_Parking_c), (.slice a0_m_Roads_A a0_m_Roads_n a0_m_Roads_c), (.int .i64 a0_l_Height), (.int .i64 a0_l_Weight), (.int .i64 a0_l_From), (.int .i64 a0_l_Ready), (.int .i64 a0_l_Drive), (.int .i64 a0_l_Rest)])] σ R :=
  Am Dl E0 Try.func81 rfl (by kernel_rfl) (by kernel_rfl) (M := Ca σ a0_m_Parking_A a0_m_Parking_n a0_m_Parking_c a0_m_Roads_A a0_m_Roads_n a0_m_Roads_c a0_l_Height a0_l_Weight a0_l_From a0_l_Ready a0_l_Drive a0_l_Rest R) (by kernel_rfl) h
theorem Ce : AA Try.prog 81 = true := by kernel_rfl
abbrev Fu : FuncId := 56
def BU (σ : Hp) (a_m_Parking_A : Option Addr) (a_m_Parking_n : Nat) (a_m_Parking_c : Nat) (a_m_Roads_A : Option Addr) (a_m_Roads_n : Nat) (a_m_Roads_c : Nat) (a_l_Height : Int) (a_l_Weight : Int) (a_l_From : Int) (a_l_Ready : Int) (a_l_Drive : Int) (a_l_Rest : Int) (to : Int) (R : Value → Hp → Prop) : Prop :=
  cut (α := Bool → Int → Int → Hp → Prop) (fun t4 n5 n6 σ2 => ∀ _ : Nat → Value, rt σ2 R (.tuple #[(.agg #[(.int .i64 n5), (.int .i64 n6)]), (.bool t4)])) (fun J3 => 
    cl Try.prog (.func (.func 81) #[] #[]) #[(.agg #[(.slice a_m_Parking_A a_m_Parking_n a_m_Parking_c), (.slice a_m_Roads_A a_m_Roads_n a_m_Roads_c), (.int .i64 a_l_Height), (.int .i64 a_l_Weight), (.int .i64 a_l_From), (.int .i64 a_l_Ready), (.int .i64 a_l_Drive), (.int .i64 a_l_Rest)])] σ (fun v7 σ8 => 
    ∃ m9 : Option Nat, (v7 = (.map m9) ∧ rgm Try.prog 128 (.map m9) σ8 (fun b10 σ11 => ∃ I14 : Nat → Bool → Int → Int → Hp → Prop, (∃ n150, I14 n150 false 0 0 σ11) ∧ 
    ∀ n15 : Nat, ∀ t16 : Bool, ∀ n17 : Int, ∀ n18 : Int, ∀ σ13 : Hp, I14 n15 t16 n17 n18 σ13 → ∀ _ : Nat → Value, nxm Try.prog (.pointer (some ⟨b10, 0, none⟩)) false 0 σ13 (fun t19 _ σ21 => 
    bc t19 (ent Try.prog (.pointer (some ⟨b10, 0, none⟩)) σ21 (fun v22 v23 => ∃ n24 : Int, ∃ n25 : Int, (v22 = (.agg #[(.int .i64 n24), (.int .i64 n25)]) ∧ 
    ∃ n26 : Int, ∃ n27 : Int, (v23 = (.agg #[(.int .i64 n26), (.int .i64 n27)]) ∧ cut (α := Bool → Hp → Prop) (fun t31 σ29 => 
    ∀ _ : Nat → Value, bc t31 (bk σ29 n15 (fun m32 σ33 => I14 m32 true n26 n27 σ33)) (bk σ29 n15 (fun m34 σ35 => 
    I14 m34 t16 n17 n18 σ35))) (fun J30 => bc (decide (n24 = to)) (bc (!t16) (J30 true σ21) (cl Try.prog (.func (.func 82) #[] #[]) #[(.agg #[(.int .i64 n26), (.int .i64 n27)]), (.agg #[(.int .i64 n17), (.int .i64 n18)])] σ21 (fun v36 σ37 => 
    ∃ n38 : Int, (v36 = (.int .i64 n38) ∧ J30 (decide (n38 < 0)) σ37)))) (J30 false σ21)))))) (J3 t16 n17 n18 σ21))))))
def Ed : MAn := (.seq (.txt []) (.cut ⟨[true, false], 2, [.slot 4 (.hb 1 0), .slot 5 (.sc (.bool)), .modb 1 98 [.sc (.int .i64), .sc (.int .i64)]], []⟩ (.seq (.txt []) (.block (.loop ⟨[true, false], 2, [.slot 4 (.hb 1 0), .slot 5 (.sc (.bool)), .modb 1 98 [.sc (.int .i64), .sc (.int .i64)]], [(1, true), (10, true)]⟩ (.seq (.txt []) (.seq (.cond .leaf .leaf) (.block (.seq (.txt [⟨[], false, []⟩, ⟨[], false, [.ty 14 true [.int .i64, .int .i64]]⟩, ⟨[], false, [.ty 15 true [.int .i64, .int .i64]]⟩]) (.cut ⟨[true, true, true, true], 4, [.slot 4 (.hb 1 0), .slot 7 (.hb 3 0), .slot 29 (.sc (.bool))], [(1, true), (5, true), (10, true)]⟩ (.txt [⟨[], false, []⟩, ⟨[], false, []⟩, ⟨[], false, []⟩, ⟨[], false, []⟩, ⟨[], true, []⟩, ⟨[], false, []⟩, ⟨[], false, []⟩, ⟨[], true, []⟩]) (.cond (.txt []) .leaf))))))))) (.seq (.txt []) .leaf)))
set_option maxRecDepth 100000 in
theorem Eh (σ : Hp) (a_m_Parking_A : Option Addr) (a_m_Parking_n : Nat) (a_m_Parking_c : Nat) (a_m_Roads_A : Option Addr) (a_m_Roads_n : Nat) (a_m_Roads_c : Nat) (a_l_Height : Int) (a_l_Weight : Int) (a_l_From : Int) (a_l_Ready : Int) (a_l_Drive : Int) (a_l_Rest : Int) (to : Int) (R : Value → Hp → Prop) (h : BU σ a_m_Parking_A a_m_Parking_n a_m_Parking_c a_m_Roads_A a_m_Roads_n a_m_Roads_c a_l_Height a_l_Weight a_l_From a_l_Ready a_l_Drive a_l_Rest to R) : Af Try.prog 56 #[(.agg #[(.slice a_m_Parking_A a_m_Parking_n a_m_Parking_c), (.slice a_m_Roads_A a_m_Roads_n a_m_Roads_c), (.int .i64 a_l_Height), (.int .i64 a_l_Weight), (.int .i64 a_l_From), (.int .i64 a_l_Ready), (.int .i64 a_l_Drive), (.int .i64 a_l_Rest)]), (.int .i64 to)] σ R :=
  Am Dl Ed Try.func56 rfl (by kernel_rfl) (by kernel_rfl) (M := BU σ a_m_Parking_A a_m_Parking_n a_m_Parking_c a_m_Roads_A a_m_Roads_n a_m_Roads_c a_l_Height a_l_Weight a_l_From a_l_Ready a_l_Drive a_l_Rest to R) (by kernel_rfl) h
theorem Bi : AA Try.prog 56 = true := by kernel_rfl
abbrev GB : FuncId := 51
def B6 (σ : Hp) (a0_m_Parking_A : Option Addr) (a0_m_Parking_n : Nat) (a0_m_Parking_c : Nat) (a0_m_Roads_A : Option Addr) (a0_m_Roads_n : Nat) (a0_m_Roads_c : Nat) (a0_l_Height : Int) (a0_l_Weight : Int) (a0_l_From : Int) (a0_l_Ready : Int) (a0_l_Drive : Int) (a0_l_Rest : Int) (a1 : Int) (R : Value → Hp → Prop) : Prop :=
  cl Try.prog (.func (.func 56) #[] #[]) #[(.agg #[(.slice a0_m_Parking_A a0_m_Parking_n a0_m_Parking_c), (.slice a0_m_Roads_A a0_m_Roads_n a0_m_Roads_c), (.int .i64 a0_l_Height), (.int .i64 a0_l_Weight), (.int .i64 a0_l_From), (.int .i64 a0_l_Ready), (.int .i64 a0_l_Drive), (.int .i64 a0_l_Rest)]), (.int .i64 a1)] σ (fun v1 σ2 => 
    ∃ n3 : Int, ∃ n4 : Int, ∃ t5 : Bool, (v1 = (.tuple #[(.agg #[(.int .i64 n3), (.int .i64 n4)]), (.bool t5)]) ∧ 
    bc (!t5) (rt σ2 R (.tuple #[(.slice none 0 0), (.bool false)])) (mkm σ2 (fun b6 σ7 => cl Try.prog (.func (.func 81) #[] #[]) #[(.agg #[(.slice a0_m_Parking_A a0_m_Parking_n a0_m_Parking_c), (.slice a0_m_Roads_A a0_m_Roads_n a0_m_Roads_c), (.int .i64 a0_l_Height), (.int .i64 a0_l_Weight), (.int .i64 a0_l_From), (.int .i64 a0_l_Ready), (.int .i64 a0_l_Drive), (.int .i64 a0_l_Rest)])] σ7 (fun v8 σ9 => 
    ∃ m10 : Option Nat, (v8 = (.map m10) ∧ cut (α := Option Addr → Nat → Nat → Hp → Prop) (fun A14 l14 c14 σ12 => 
    ∀ _ : Nat → Value, bx σ12 (.cells #[(.map m10)] 128) (fun b15 σ16 => cl Try.prog (.func (.func 83) #[] #[]) #[(.slice A14 l14 c14), (.func (.func 84) #[] #[(.pointer (some ⟨b15, 0, none⟩))])] σ16 (fun _ σ18 => 
    cut (α := Option Addr → Hp → Prop) (fun p22 σ20 => ∀ _ : Nat → Value, cut (α := Option Addr → Option Addr → Hp → Prop) (fun p26 p27 σ24 => 
    ∀ _ : Nat → Value, cut (α := Option Addr → Hp → Prop) (fun p31 σ29 => ∀ _ : Nat → Value, dr p31 (fun b32 o33 => 
    ldS σ29 b32 o33 (fun A34 l34 c34 => dr p31 (fun b35 o36 => st σ29 b35 o36 (.slice A34 l34 c34) (fun σ37 => 
    dr p31 (fun b38 o39 => ldS σ37 b38 o39 (fun A40 l40 c40 => rt σ37 R (.tuple #[(.slice A40 l40 c40), (.bool true)])))))))) (fun J30 => 
    ∃ I43 : Nat → Option Addr → Hp → Prop, (∃ n440, bx σ24 (.cells #[(.slice none 0 0)] 32) (fun b45 σ46 => 
    I43 n440 (some ⟨b45, 0, none⟩) σ46)) ∧ ∀ n44 : Nat, ∀ p47 : Option Addr, ∀ σ42 : Hp, I43 n44 p47 σ42 → ∀ _ : Nat → Value, dr p26 (fun b48 o49 => 
    ldI σ42 .i64 b48 o49 (fun n50 => bc (!decide (n50 = a1)) (dr p26 (fun b51 o52 => ldI σ42 .i64 b51 o52 (fun n53 => 
    ldI σ42 .i64 b51 (o52 + 1) (fun n54 => cl Try.prog (.func (.func 85) #[] #[]) #[(.agg #[(.slice a0_m_Parking_A a0_m_Parking_n a0_m_Parking_c), (.slice a0_m_Roads_A a0_m_Roads_n a0_m_Roads_c), (.int .i64 a0_l_Height), (.int .i64 a0_l_Weight), (.int .i64 a0_l_From), (.int .i64 a0_l_Ready), (.int .i64 a0_l_Drive), (.int .i64 a0_l_Rest)]), (.agg #[(.int .i64 n53), (.int .i64 n54)])] σ42 (fun v55 σ56 => 
    ∃ v57 : Value, (v55 = v57 ∧ QQ Try.prog v57 σ56 (fun l58 Rec59 ag60 σ61 R62 => ∃ n66 : Int, ∃ n67 : Int, ∃ n68 : Int, ∃ n69 : Int, ∃ n70 : Int, ∃ n71 : Int, (ag60 = #[(.agg #[(.int .i64 n66), (.int .i64 n67), (.int .i64 n68), (.int .i64 n69), (.int .i64 n70), (.int .i64 n71)])] ∧ 
    ∀ _ : Nat → Value, rgb l58 Rec59 σ61 (fun σ72 => dr p22 (fun b73 o74 => ldM σ72 b73 o74 (fun m75 => 
    lko Try.prog 128 (.map m75) (.agg #[(.int .i64 n68), (.int .i64 n69)]) σ72 (fun v76 t77 => ∃ n78 : Int, ∃ n79 : Int, (v76 = (.agg #[(.int .i64 n78), (.int .i64 n79)]) ∧ 
    cut (α := Hp → Prop) (fun  σ81 => ∀ _ : Nat → Value, dr p47 (fun b83 o84 => ldS σ81 b83 o84 (fun A85 l85 c85 => 
    dr p27 (fun b86 o87 => ldI σ81 .i64 b86 o87 (fun n88 => wk .i64 (n88 + n67) (fun n89 => adp 60 [.int .i64, .int .i64] A85 l85 c85 σ81 (fun (xs90 : List (Int × Int)) σ91 => 
    BG (List.length xs90 + List.length ([(n66, n89)] : List (Int × Int))) (exl 60 [.int .i64, .int .i64] (xs90 ++ ([(n66, n89)] : List (Int × Int))) σ91 (fun A92 l92 c92 σ93 => 
    dr p47 (fun b94 o95 => st σ93 b94 o95 (.slice A92 l92 c92) (fun σ96 => dr p27 (fun b97 o98 => ldI σ96 .i64 b97 o98 (fun n99 => 
    wk .i64 (n99 + n70) (fun n100 => dr p27 (fun b101 o102 => st σ96 b101 o102 (.int .i64 n100) (fun σ103 => 
    dr p26 (fun b104 o105 => st σ103 b104 o105 (.int .i64 n68) (fun σ106 => st σ106 b104 (o105 + 1) (.int .i64 n69) (fun σ107 => 
    rgx l58 Rec59 R62 σ107 (.exit 8)))))))))))))))))))) (fun J82 => cut (α := Bool → Hp → Prop) (fun t111 σ109 => 
    ∀ _ : Nat → Value, bc t111 (rgo l58 Rec59 R62 σ109) (J82 σ109)) (fun J110 => bc (!t77) (J110 true σ72) (wk .i64 (n78 + n70) (fun n112 => 
    wk .i64 (n79 + 1) (fun n113 => dr p22 (fun b114 o115 => ldM σ72 b114 o115 (fun m116 => dr p26 (fun b117 o118 => 
    ldI σ72 .i64 b117 o118 (fun n119 => ldI σ72 .i64 b117 (o118 + 1) (fun n120 => lkp Try.prog 128 (.map m116) (.agg #[(.int .i64 n119), (.int .i64 n120)]) σ72 (fun v121 => 
    (Hp.Sub σ72 σ72 ∧ ∃ n122 : Int, ∃ n123 : Int, (v121 = (.agg #[(.int .i64 n122), (.int .i64 n123)]) ∧ 
    J110 (!(decide (n112 = n122) && decide (n113 = n123))) σ72)))))))))))))))))))) (fun p63 σ64 => aft p63 (bk σ64 n44 (fun m128 σ129 => 
    I43 m128 p47 σ129)) (dr p47 (fun b130 o131 => ldS σ64 b130 o131 (fun A132 l132 c132 => rt σ64 R (.tuple #[(.slice A132 l132 c132), (.bool t5)])))) (fun i => 
    exb i 8 (bk σ64 n44 (fun m126 σ127 => I43 m126 p47 σ127)) (exb i 7 (bk σ64 n44 (fun m124 σ125 => I43 m124 p47 σ125)) (exb i 6 (J30 p47 σ64) (False))))))))))) (J30 p47 σ42))))) (fun J25 => 
    ((bx σ20 (.cells #[(.int .i64 a0_l_From), (.int .i64 0)] 132) (fun b133 σ134 => bx σ134 (.cells #[(.int .i64 a0_l_Ready)] 3) (fun b135 σ136 => 
    J25 (some ⟨b133, 0, none⟩) (some ⟨b135, 0, none⟩) σ136))) ∧ (bx σ20 (.cells #[(.int .i64 a0_l_From), (.int .i64 0)] 132) (fun b137 σ138 => 
    bx σ138 (.cells #[(.int .i64 a0_l_Ready)] 3) (fun b139 σ140 => J25 (some ⟨b137, 0, none⟩) (some ⟨b139, 0, none⟩) σ140)))))) (fun J21 => 
    ∃ I143 : Nat → Option Addr → Int → Hp → Prop, (∃ n1440, bx σ18 (.cells #[(.map (some b6))] 128) (fun b145 σ146 => 
    I143 n1440 (some ⟨b145, 0, none⟩) 0 σ146)) ∧ ∀ n144 : Nat, ∀ p147 : Option Addr, ∀ n148 : Int, ∀ σ142 : Hp, I143 n144 p147 n148 σ142 → ∀ _ : Nat → Value, bc (decide (n148 < ((l14 : Nat) : Int))) (cut (α := Hp → Prop) (fun  σ150 => 
    ∀ _ : Nat → Value, wk .i64 (n148 + 1) (fun n152 => bk σ150 n144 (fun m153 σ154 => I143 m153 p147 n152 σ154))) (fun J151 => 
    ix A14 l14 n148 2 (fun b155 a156 => ldI σ142 .i64 b155 a156 (fun n157 => ldI σ142 .i64 b155 (a156 + 1) (fun n158 => 
    bc (decide (n157 = a1)) (dr p147 (fun b159 o160 => ldM σ142 b159 o160 (fun m161 => upm Try.prog 128 (.map m161) (.agg #[(.int .i64 n157), (.int .i64 n158)]) (.agg #[(.int .i64 0), (.int .i64 0)]) σ142 (fun σ162 => 
    J151 σ162)))) (cl Try.prog (.func (.func 85) #[] #[]) #[(.agg #[(.slice a0_m_Parking_A a0_m_Parking_n a0_m_Parking_c), (.slice a0_m_Roads_A a0_m_Roads_n a0_m_Roads_c), (.int .i64 a0_l_Height), (.int .i64 a0_l_Weight), (.int .i64 a0_l_From), (.int .i64 a0_l_Ready), (.int .i64 a0_l_Drive), (.int .i64 a0_l_Rest)]), (.agg #[(.int .i64 n157), (.int .i64 n158)])] σ142 (fun v163 σ164 => 
    ∃ v165 : Value, (v163 = v165 ∧ bx σ164 (.cells #[(.int .i64 n157), (.int .i64 n158)] 132) (fun b166 σ167 => 
    QQ Try.prog v165 σ167 (fun l168 Rec169 ag170 σ171 R172 => ∃ n176 : Int, ∃ n177 : Int, ∃ n178 : Int, ∃ n179 : Int, ∃ n180 : Int, ∃ n181 : Int, (ag170 = #[(.agg #[(.int .i64 n176), (.int .i64 n177), (.int .i64 n178), (.int .i64 n179), (.int .i64 n180), (.int .i64 n181)])] ∧ 
    ∀ _ : Nat → Value, rgb l168 Rec169 σ171 (fun σ182 => dr p147 (fun b183 o184 => ldM σ182 b183 o184 (fun m185 => 
    lko Try.prog 128 (.map m185) (.agg #[(.int .i64 n178), (.int .i64 n179)]) σ182 (fun v186 t187 => ∃ n188 : Int, ∃ n189 : Int, (v186 = (.agg #[(.int .i64 n188), (.int .i64 n189)]) ∧ 
    wk .i64 (n188 + n180) (fun n190 => wk .i64 (n189 + 1) (fun n191 => dr p147 (fun b192 o193 => ldM σ182 b192 o193 (fun m194 => 
    ldI σ182 .i64 b166 0 (fun n195 => ldI σ182 .i64 b166 1 (fun n196 => lko Try.prog 128 (.map m194) (.agg #[(.int .i64 n195), (.int .i64 n196)]) σ182 (fun v197 t198 => 
    ∃ n199 : Int, ∃ n200 : Int, (v197 = (.agg #[(.int .i64 n199), (.int .i64 n200)]) ∧ cut (α := Bool → Hp → Prop) (fun t204 σ202 => 
    ∀ _ : Nat → Value, bc t204 (dr p147 (fun b205 o206 => ldM σ202 b205 o206 (fun m207 => ldI σ202 .i64 b166 0 (fun n208 => 
    ldI σ202 .i64 b166 1 (fun n209 => upm Try.prog 128 (.map m207) (.agg #[(.int .i64 n208), (.int .i64 n209)]) (.agg #[(.int .i64 n190), (.int .i64 n191)]) σ202 (fun σ210 => 
    rgo l168 Rec169 R172 σ210)))))) (rgo l168 Rec169 R172 σ202)) (fun J203 => bc t187 (bc (!t198) (J203 true σ182) (cl Try.prog (.func (.func 82) #[] #[]) #[(.agg #[(.int .i64 n190), (.int .i64 n191)]), (.agg #[(.int .i64 n199), (.int .i64 n200)])] σ182 (fun v211 σ212 => 
    ∃ n213 : Int, (v211 = (.int .i64 n213) ∧ J203 (decide (n213 < 0)) σ212)))) (J203 false σ182))))))))))))))))) (fun p173 σ174 => 
    aft p173 (J151 σ174) (rt σ174 R (.tuple #[(.slice none 0 0), (.bool t5)])) (fun i => exb i 4 (J151 σ174) (exb i 3 (J151 σ174) (exb i 2 (J21 p147 σ174) (False)))))))))))))) (J21 p147 σ142))))) (fun J13 => 
    rgm Try.prog 128 (.map m10) σ9 (fun b214 σ215 => ∃ I218 : Nat → Option Addr → Nat → Nat → Hp → Prop, (∃ n2190, I218 n2190 none 0 0 σ215) ∧ 
    ∀ n219 : Nat, ∀ A220 : Option Addr, ∀ l220 : Nat, ∀ c220 : Nat, ∀ σ217 : Hp, I218 n219 A220 l220 c220 σ217 → ∀ _ : Nat → Value, nxm Try.prog (.pointer (some ⟨b214, 0, none⟩)) false 0 σ217 (fun t221 _ σ223 => 
    bc t221 (ent Try.prog (.pointer (some ⟨b214, 0, none⟩)) σ223 (fun v224 v225 => ∃ n226 : Int, ∃ n227 : Int, (v224 = (.agg #[(.int .i64 n226), (.int .i64 n227)]) ∧ 
    ∃ n228 : Int, ∃ n229 : Int, (v225 = (.agg #[(.int .i64 n228), (.int .i64 n229)]) ∧ cl Try.prog (.func (.func 82) #[] #[]) #[(.agg #[(.int .i64 n228), (.int .i64 n229)]), (.agg #[(.int .i64 n3), (.int .i64 n4)])] σ223 (fun v230 σ231 => 
    ∃ n232 : Int, (v230 = (.int .i64 n232) ∧ bc (decide (n232 ≤ 0)) (adp 132 [.int .i64, .int .i64] A220 l220 c220 σ231 (fun (xs233 : List (Int × Int)) σ234 => 
    BG (List.length xs233 + List.length ([(n226, n227)] : List (Int × Int))) (bk σ234 n219 (fun m235 σ236 => 
    exl 132 [.int .i64, .int .i64] (xs233 ++ ([(n226, n227)] : List (Int × Int))) σ236 (fun A237 l237 c237 σ238 => 
    I218 m235 A237 l237 c237 σ238))))) (bk σ231 n219 (fun m239 σ240 => I218 m239 A220 l220 c220 σ240)))))))) (J13 A220 l220 c220 σ223))))))))))
def Ab : OA := ⟨[], false, []⟩
def E7 : MAn := (.seq (.txt []) (.seq (.txt []) (.seq (.seq (.txt []) (.cond (.seq (.txt []) .leaf) .leaf)) (.seq (.txt []) (.seq (.txt []) (.seq (.txt []) (.cut ⟨[true, true, true, true, true], 5, [.slot 2 (.hb 0 0), .slot 4 (.hb 1 0), .slot 7 (.hb 3 0), .slot 8 (.hb 4 0), .slot 9 (.sc (.slc))], [(1, true), (5, true)]⟩ (.seq (.txt []) (.block (.loop ⟨[true, true, true, true, true], 5, [.slot 2 (.hb 0 0), .slot 4 (.hb 1 0), .slot 6 (.hb 2 0), .slot 7 (.hb 3 0), .slot 8 (.hb 4 0), .slot 9 (.sc (.slc))], [(1, true), (5, true), (37, true)]⟩ (.seq (.txt []) (.seq (.cond .leaf .leaf) (.block (.seq (.txt [Ab, ⟨[], false, [.ty 41 true [.int .i64, .int .i64]]⟩, ⟨[], false, [.ty 42 true [.int .i64, .int .i64]]⟩]) (.seq (.txt []) (.cond (.txt []) .leaf))))))))) (.seq (.txt []) (.cut ⟨[true, true, true, false, false], 5, [.slot 2 (.hb 0 0), .slot 4 (.hb 1 0), .slot 7 (.sc (.ptr))], [(1, true), (5, true)]⟩ (.seq (.txt []) (.block (.loop ⟨[true, true, true, false, false], 5, [.slot 2 (.hb 0 0), .slot 4 (.hb 1 0), .slot 7 (.sc (.ptr)), .slot 56 (.sc (.int .i64))], [(1, true), (5, true), (54, true), (55, true)]⟩ (.seq (.txt []) (.seq (.cond .leaf .leaf) (.cut ⟨[true, true, true, false, false], 5, [.slot 2 (.hb 0 0), .slot 4 (.hb 1 0)], [(1, true), (5, true), (7, true), (54, true), (55, true), (56, true)]⟩ (.block (.seq (.txt []) (.seq (.seq (.txt []) (.cond (.seq (.txt []) .leaf) .leaf)) (.seq (.txt []) (.block (.rng [.exp 13] [(7, true), (13, true)] [140] (.txt []) (.block (.seq (.txt [Ab, Ab, Ab, Ab, Ab, ⟨[], false, [.ty 76 true [.int .i64, .int .i64]]⟩]) (.seq (.txt []) (.seq (.txt [Ab, Ab, Ab, Ab, ⟨[], false, [.ty 92 true [.int .i64, .int .i64]]⟩]) (.cut ⟨[true, true, true, true], 4, [.slot 17 (.hb 2 0), .slot 104 (.sc (.bool))], [(7, true), (13, true)]⟩ (.txt [Ab, ⟨[], true, []⟩, Ab, Ab, ⟨[], true, []⟩]) (.cond (.txt []) .leaf)))))))))))) (.txt []))))))) (.cut ⟨[true, true, true, false, false], 5, [.slot 2 (.hb 0 0), .slot 4 (.hb 1 0), .slot 20 (.sc (.ptr)), .slot 21 (.sc (.ptr))], [(1, true), (5, true), (7, true)]⟩ (.plan [9, 10] (.take 0 Ab (.take 1 Ab (.take 2 Ab (.take 3 Ab (.take 4 Ab (.take 5 Ab (.new 7 Ab (.new 8 Ab (.alt 6 true Ab (.alt 9 false Ab (.alt 10 false Ab .done .done) .done) (.alt 9 false Ab (.take 6 Ab (.alt 10 false Ab .done .done)) .done))))))))))) (.cut ⟨[true, false, true, false, false], 5, [.slot 4 (.sc (.ptr))], []⟩ (.block (.loop ⟨[true, false, true, false, false], 5, [.slot 2 (.hb 0 0), .slot 4 (.sc (.ptr))], [(1, true), (5, true), (7, true), (20, true), (21, true)]⟩ (.seq (.seq (.txt []) (.cond .leaf .leaf)) (.block (.seq (.txt []) (.block (.rng [] [(4, true), (7, true), (20, true), (21, true)] [140] (.txt []) (.block (.seq (.txt [Ab, Ab, Ab, Ab, Ab, ⟨[], false, [.ty 129 true [.int .i64, .int .i64]]⟩]) (.cut ⟨[true, true], 2, [.slot 22 (.hb 0 0)], [(4, true), (20, true), (21, true)]⟩ (.cut ⟨[true, true], 2, [.slot 22 (.hb 0 0), .slot 148 (.sc (.bool))], [(4, true), (20, true), (21, true)]⟩ (.plan [] (.take 0 Ab (.take 1 Ab (.take 2 ⟨[], true, []⟩ (.take 3 Ab (.take 4 Ab (.take 5 Ab (.take 6 Ab (.take 7 Ab (.take 8 Ab (.take 9 Ab (.take 10 Ab (.take 11 Ab (.take 12 Ab (.take 13 Ab (.take 14 Ab (.alt 15 true ⟨[], false, [.ty 146 true [.int .i64, .int .i64]]⟩ (.take 16 Ab (.take 17 Ab .done)) .done))))))))))))))))) (.cond .leaf .leaf)) (.seq (.txt []) (.seq (.txt []) (.seq (.txt []) .leaf))))))))))))) (.seq (.txt []) .leaf))))))))))))
set_option maxRecDepth 100000 in
theorem ET (σ : Hp) (a0_m_Parking_A : Option Addr) (a0_m_Parking_n : Nat) (a0_m_Parking_c : Nat) (a0_m_Roads_A : Option Addr) (a0_m_Roads_n : Nat) (a0_m_Roads_c : Nat) (a0_l_Height : Int) (a0_l_Weight : Int) (a0_l_From : Int) (a0_l_Ready : Int) (a0_l_Drive : Int) (a0_l_Rest : Int) (a1 : Int) (R : Value → Hp → Prop) (h : B6 σ a0_m_Parking_A a0_m_Parking_n a0_m_Parking_c a0_m_Roads_A a0_m_Roads_n a0_m_Roads_c a0_l_Height a0_l_Weight a0_l_From a0_l_Ready a0_l_Drive a0_l_Rest a1 R) : Af Try.prog 51 #[(.agg #[(.slice a0_m_Parking_A a0_m_Parking_n a0_m_Parking_c), (.slice a0_m_Roads_A a0_m_Roads_n a0_m_Roads_c), (.int .i64 a0_l_Height), (.int .i64 a0_l_Weight), (.int .i64 a0_l_From), (.int .i64 a0_l_Ready), (.int .i64 a0_l_Drive), (.int .i64 a0_l_Rest)]), (.int .i64 a1)] σ R :=
  Am Dl E7 Try.func51 rfl (by kernel_rfl) (by kernel_rfl) (M := B6 σ a0_m_Parking_A a0_m_Parking_n a0_m_Parking_c a0_m_Roads_A a0_m_Roads_n a0_m_Roads_c a0_l_Height a0_l_Weight a0_l_From a0_l_Ready a0_l_Drive a0_l_Rest a1 R) (by kernel_rfl) h
theorem B4 : AA Try.prog 51 = true := by kernel_rfl
abbrev AX : FuncId := 84
def BR (σ : Hp) (p_town : Int) (p_used : Int) (q_town : Int) (q_used : Int) (cap0 : Option Addr) (R : Value → Hp → Prop) : Prop :=
  dr cap0 (fun b1 o2 => ldM σ b1 o2 (fun m3 => dr cap0 (fun b4 o5 => ldM σ b4 o5 (fun m6 => ((lkp Try.prog 128 (.map m3) (.agg #[(.int .i64 q_town), (.int .i64 q_used)]) σ (fun v7 => 
    (Hp.Sub σ σ ∧ ∃ n8 : Int, ∃ n9 : Int, (v7 = (.agg #[(.int .i64 n8), (.int .i64 n9)]) ∧ lkp Try.prog 128 (.map m6) (.agg #[(.int .i64 p_town), (.int .i64 p_used)]) σ (fun v10 => 
    (Hp.Sub σ σ ∧ ∃ n11 : Int, ∃ n12 : Int, (v10 = (.agg #[(.int .i64 n11), (.int .i64 n12)]) ∧ cl Try.prog (.func (.func 82) #[] #[]) #[(.agg #[(.int .i64 n8), (.int .i64 n9)]), (.agg #[(.int .i64 n11), (.int .i64 n12)])] σ (fun v13 σ14 => 
    ∃ n15 : Int, (v13 = (.int .i64 n15) ∧ rt σ14 R (.int .i64 n15)))))))))) ∧ (lkp Try.prog 128 (.map m6) (.agg #[(.int .i64 p_town), (.int .i64 p_used)]) σ (fun v16 => 
    (Hp.Sub σ σ ∧ ∃ n17 : Int, ∃ n18 : Int, (v16 = (.agg #[(.int .i64 n17), (.int .i64 n18)]) ∧ lkp Try.prog 128 (.map m3) (.agg #[(.int .i64 q_town), (.int .i64 q_used)]) σ (fun v19 => 
    (Hp.Sub σ σ ∧ ∃ n20 : Int, ∃ n21 : Int, (v19 = (.agg #[(.int .i64 n20), (.int .i64 n21)]) ∧ cl Try.prog (.func (.func 82) #[] #[]) #[(.agg #[(.int .i64 n20), (.int .i64 n21)]), (.agg #[(.int .i64 n17), (.int .i64 n18)])] σ (fun v22 σ23 => 
    ∃ n24 : Int, (v22 = (.int .i64 n24) ∧ rt σ23 R (.int .i64 n24)))))))))))))))
def Ej : MAn := (.seq (.txt []) (.seq (.plan [6] (.take 0 ⟨[], false, []⟩ (.take 1 ⟨[], false, []⟩ (.take 3 ⟨[], false, []⟩ (.take 4 ⟨[], false, []⟩ (.alt 2 true ⟨[], false, [.ty 8 true [.int .i64, .int .i64]]⟩ (.alt 5 true ⟨[], false, [.ty 11 true [.int .i64, .int .i64]]⟩ (.alt 6 false ⟨[], false, []⟩ (.take 7 ⟨[], false, []⟩ .done) .done) .done) (.alt 5 true ⟨[], false, [.ty 11 true [.int .i64, .int .i64]]⟩ (.alt 2 true ⟨[], false, [.ty 8 true [.int .i64, .int .i64]]⟩ (.alt 6 false ⟨[], false, []⟩ (.take 7 ⟨[], false, []⟩ .done) .done) .done) .done))))))) .leaf))
set_option maxRecDepth 100000 in
theorem Ei (σ : Hp) (p_town : Int) (p_used : Int) (q_town : Int) (q_used : Int) (cap0 : Option Addr) (R : Value → Hp → Prop) (h : BR σ p_town p_used q_town q_used cap0 R) : Af Try.prog 84 #[(.agg #[(.int .i64 p_town), (.int .i64 p_used)]), (.agg #[(.int .i64 q_town), (.int .i64 q_used)]), (.pointer cap0)] σ R :=
  Am Dl Ej Try.func84 rfl (by kernel_rfl) (by kernel_rfl) (M := BR σ p_town p_used q_town q_used cap0 R) (by kernel_rfl) h
end Go.Proofs.Ytkdjkkimngeloaa
