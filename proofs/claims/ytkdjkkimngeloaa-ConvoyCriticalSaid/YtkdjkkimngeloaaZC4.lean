/- Trimmed by wip/trim.py to what this claim rests on. -/
import Derived.Test.YtkdjkkimngeloaaZB11
namespace Go.Proofs.Ytkdjkkimngeloaa
open Go.RowKit
theorem D9 : Try.prog.follows .mixedOrders = true := by kernel_rfl
abbrev KF : FuncId := 19
def D3 (σ : Hp) (m_Parking_A : Option Addr) (m_Parking_n : Nat) (m_Parking_c : Nat) (m_Roads_A : Option Addr) (m_Roads_n : Nat) (m_Roads_c : Nat) (l_Height : Int) (l_Weight : Int) (l_From : Int) (l_Ready : Int) (l_Drive : Int) (l_Rest : Int) (to : Int) (R : Value → Hp → Prop) : Prop :=
  exl 27 [.int .i64, .int .i64, .int .i64, .int .i64, .int .i64, .int .i64] ([(l_Height, l_Weight, l_From, l_Ready, l_Drive, l_Rest)] : List (Int × Int × Int × Int × Int × Int)) σ (fun A1 l1 c1 σ2 => 
    cl Try.prog (.func (.func 50) #[] #[]) #[(.agg #[(.slice m_Parking_A m_Parking_n m_Parking_c), (.slice m_Roads_A m_Roads_n m_Roads_c)]), (.int .i64 to), (.slice A1 l1 c1)] σ2 (fun v3 σ4 => 
    ∃ n5 : Int, (v3 = (.int .i64 n5) ∧ bc (!decide (n5 = 0)) (rt σ4 R (.tuple #[(.slice none 0 0), (.int .i64 n5)])) (cl Try.prog (.func (.func 51) #[] #[]) #[(.agg #[(.slice m_Parking_A m_Parking_n m_Parking_c), (.slice m_Roads_A m_Roads_n m_Roads_c), (.int .i64 l_Height), (.int .i64 l_Weight), (.int .i64 l_From), (.int .i64 l_Ready), (.int .i64 l_Drive), (.int .i64 l_Rest)]), (.int .i64 to)] σ4 (fun v6 σ7 => 
    ∃ A8 : Option Addr, ∃ l8 : Nat, ∃ c8 : Nat, ∃ t9 : Bool, (v6 = (.tuple #[(.slice A8 l8 c8), (.bool t9)]) ∧ 
    bc (!t9) (rt σ7 R (.tuple #[(.slice none 0 0), (.int .i64 3)])) (rt σ7 R (.tuple #[(.slice A8 l8 c8), (.int .i64 0)]))))))))
def Iw : MAn := (.seq (.txt []) (.seq (.seq (.txt []) (.seq (.txt []) (.cond (.seq (.txt []) .leaf) .leaf))) (.seq (.txt []) (.seq (.seq (.txt []) (.cond (.seq (.txt []) .leaf) .leaf)) (.seq (.txt []) .leaf)))))
set_option maxRecDepth 100000 in
theorem IN (σ : Hp) (m_Parking_A : Option Addr) (m_Parking_n : Nat) (m_Parking_c : Nat) (m_Roads_A : Option Addr) (m_Roads_n : Nat) (m_Roads_c : Nat) (l_Height : Int) (l_Weight : Int) (l_From : Int) (l_Ready : Int) (l_Drive : Int) (l_Rest : Int) (to : Int) (R : Value → Hp → Prop) (h : D3 σ m_Parking_A m_Parking_n m_Parking_c m_Roads_A m_Roads_n m_Roads_c l_Height l_Weight l_From l_Ready l_Drive l_Rest to R) : Ah Try.prog 19 #[(.agg #[(.slice m_Parking_A m_Parking_n m_Parking_c), (.slice m_Roads_A m_Roads_n m_Roads_c)]), (.agg #[(.int .i64 l_Height), (.int .i64 l_Weight), (.int .i64 l_From), (.int .i64 l_Ready), (.int .i64 l_Drive), (.int .i64 l_Rest)]), (.int .i64 to)] σ R :=
  Aj D9 Iw Try.func19 rfl (by kernel_rfl) (by kernel_rfl) (M := D3 σ m_Parking_A m_Parking_n m_Parking_c m_Roads_A m_Roads_n m_Roads_c l_Height l_Weight l_From l_Ready l_Drive l_Rest to R) (by kernel_rfl) h
theorem GF : Aw Try.prog 19 = true := by kernel_rfl
abbrev Jo : FuncId := 23
def Dc (σ : Hp) (m_Parking_A : Option Addr) (m_Parking_n : Nat) (m_Parking_c : Nat) (m_Roads_A : Option Addr) (m_Roads_n : Nat) (m_Roads_c : Nat) (l_Height : Int) (l_Weight : Int) (l_From : Int) (l_Ready : Int) (l_Drive : Int) (l_Rest : Int) (to : Int) (R : Value → Hp → Prop) : Prop :=
  exl 27 [.int .i64, .int .i64, .int .i64, .int .i64, .int .i64, .int .i64] ([(l_Height, l_Weight, l_From, l_Ready, l_Drive, l_Rest)] : List (Int × Int × Int × Int × Int × Int)) σ (fun A1 l1 c1 σ2 => 
    cl Try.prog (.func (.func 50) #[] #[]) #[(.agg #[(.slice m_Parking_A m_Parking_n m_Parking_c), (.slice m_Roads_A m_Roads_n m_Roads_c)]), (.int .i64 to), (.slice A1 l1 c1)] σ2 (fun v3 σ4 => 
    ∃ n5 : Int, (v3 = (.int .i64 n5) ∧ bc (!decide (n5 = 0)) (rt σ4 R (.tuple #[(.int .i64 0), (.int .i64 n5)])) (cut (α := List Int → Hp → Prop) (fun xs9 σ7 => 
    ∀ _ : Nat → Value, exl 3 [.int .i64] xs9 σ7 (fun A10 l10 c10 σ11 => cl Try.prog (.func (.func 54) #[] #[]) #[(.slice A10 l10 c10)] σ11 (fun _ σ13 => 
    adp 3 [.int .i64] A10 l10 c10 σ13 (fun (xs14 : List Int) σ15 => cut (α := Option Addr → Option Addr → Hp → Prop) (fun p19 p20 σ17 => 
    ∀ _ : Nat → Value, dr p19 (fun b21 o22 => st σ17 b21 o22 (.int .i64 0) (fun σ23 => dr p20 (fun b24 o25 => 
    st σ23 b24 o25 (.int .i64 3) (fun σ26 => dr p19 (fun b27 o28 => ldI σ26 .i64 b27 o28 (fun n29 => dr p20 (fun b30 o31 => 
    ldI σ26 .i64 b30 o31 (fun n32 => rt σ26 R (.tuple #[(.int .i64 n29), (.int .i64 n32)])))))))))) (fun J18 => 
    exl 3 [.int .i64] xs14 σ15 (fun A33 l33 c33 σ34 => cl Try.prog (.func (.func 55) #[] #[]) #[(.slice A33 l33 c33)] σ34 (fun v35 σ36 => 
    ∃ v37 : Value, (v35 = v37 ∧ bx σ36 (.cells #[(.slice m_Parking_A m_Parking_n m_Parking_c), (.slice m_Roads_A m_Roads_n m_Roads_c)] 25) (fun b38 σ39 => 
    bx σ39 (.cells #[(.int .i64 l_Height), (.int .i64 l_Weight), (.int .i64 l_From), (.int .i64 l_Ready), (.int .i64 l_Drive), (.int .i64 l_Rest)] 27) (fun b40 σ41 => 
    bx σ41 (.cells #[(.int .i64 to)] 3) (fun b42 σ43 => bx σ43 (.cells #[(.int .i64 0)] 3) (fun b44 σ45 => 
    bx σ45 (.cells #[(.int .i64 0)] 33) (fun b46 σ47 => RP Try.prog v37 σ47 (fun l48 Rec49 ag50 σ51 R52 => 
    ∃ n56 : Int, ∃ n57 : Int, (ag50 = #[(.int .i64 n56), (.int .i64 n57)] ∧ ∀ _ : Nat → Value, rgb l48 Rec49 σ51 (fun σ58 => 
    st σ58 b40 0 (.int .i64 n57) (fun σ59 => ldS σ59 b38 0 (fun A60 l60 c60 => ldS σ59 b38 1 (fun A61 l61 c61 => 
    ldI σ59 .i64 b40 0 (fun n62 => ldI σ59 .i64 b40 1 (fun n63 => ldI σ59 .i64 b40 2 (fun n64 => ldI σ59 .i64 b40 3 (fun n65 => 
    ldI σ59 .i64 b40 4 (fun n66 => ldI σ59 .i64 b40 5 (fun n67 => ldI σ59 .i64 b42 0 (fun n68 => cl Try.prog (.func (.func 56) #[] #[]) #[(.agg #[(.slice A60 l60 c60), (.slice A61 l61 c61), (.int .i64 n62), (.int .i64 n63), (.int .i64 n64), (.int .i64 n65), (.int .i64 n66), (.int .i64 n67)]), (.int .i64 n68)] σ59 (fun v69 σ70 => 
    ∃ n71 : Int, ∃ n72 : Int, ∃ t73 : Bool, (v69 = (.tuple #[(.agg #[(.int .i64 n71), (.int .i64 n72)]), (.bool t73)]) ∧ 
    bc t73 (st σ70 b44 0 (.int .i64 n57) (fun σ74 => st σ74 b46 0 (.int .i64 0) (fun σ75 => rgx l48 Rec49 R52 σ75 .ret))) (rgo l48 Rec49 R52 σ70)))))))))))))))) (fun p53 σ54 => 
    aft p53 (J18 (some ⟨b44, 0, none⟩) (some ⟨b46, 0, none⟩) σ54) (ldI σ54 .i64 b44 0 (fun n76 => ldI σ54 .i64 b46 0 (fun n77 => 
    rt σ54 R (.tuple #[(.int .i64 n76), (.int .i64 n77)])))) (fun i => exb i 2 (J18 (some ⟨b44, 0, none⟩) (some ⟨b46, 0, none⟩) σ54) (False)))))))))))))))) (fun J8 => 
    ∃ I80 : Nat → List Int → Int → Hp → Prop, (∃ n810, I80 n810 ([1000] : List Int) 0 σ4) ∧ ∀ n81 : Nat, ∀ xs82 : List Int, ∀ n83 : Int, ∀ σ79 : Hp, I80 n81 xs82 n83 σ79 → ∀ _ : Nat → Value, bc (decide (n83 < ((m_Roads_n : Nat) : Int))) (ix m_Roads_A m_Roads_n n83 5 (fun b84 a85 => 
    ldI σ79 .i64 b84 a85 (fun _ => ldI σ79 .i64 b84 (a85 + 1) (fun _ => ldI σ79 .i64 b84 (a85 + 2) (fun _ => 
    ldI σ79 .i64 b84 (a85 + 3) (fun n89 => ldI σ79 .i64 b84 (a85 + 4) (fun _ => Bx (List.length xs82 + List.length ([n89] : List Int)) (wk .i64 (n83 + 1) (fun n91 => 
    bk σ79 n81 (fun m92 σ93 => I80 m92 (xs82 ++ ([n89] : List Int)) n91 σ93)))))))))) (J8 xs82 σ79))))))
def Hq : MAn := (.seq (.txt []) (.seq (.seq (.txt []) (.seq (.txt []) (.cond (.seq (.txt []) .leaf) .leaf))) (.seq (.txt []) (.cut ⟨[true, true, true, true, true, false, false], 7, [.slot 3 (.hb 0 0), .slot 4 (.hb 1 0), .slot 5 (.hb 2 0), .slot 6 (.hb 3 0), .slot 7 (.hb 4 0), .slot 9 (.hl 6 0), .modl 6 0 3 [.int .i64]], []⟩ (.seq (.txt []) (.block (.loop ⟨[true, true, true, true, true, false, false], 7, [.slot 3 (.hb 0 0), .slot 4 (.hb 1 0), .slot 5 (.hb 2 0), .slot 6 (.hb 3 0), .slot 7 (.hb 4 0), .slot 9 (.lst 6 3 [.int .i64]), .slot 28 (.sc (.int .i64))], [(26, true), (27, true)]⟩ (.seq (.txt []) (.seq (.cond .leaf .leaf) (.seq (.block (.seq (.txt []) (.txt []))) (.txt []))))))) (.seq (.txt [⟨[], false, []⟩, ⟨[], false, [.adl 9 3 [.int .i64]]⟩]) (.cut ⟨[false, false, false, false, false, false, false, false], 8, [.slot 6 (.sc (.ptr)), .slot 7 (.sc (.ptr))], []⟩ (.seq (.txt []) (.block (.rng [.exp 3, .exp 4, .exp 5, .exp 6, .exp 7] [(3, true), (4, true), (5, true), (6, true), (7, true)] [3, 3] (.txt []) (.block (.seq (.txt []) (.seq (.txt []) (.seq (.txt []) (.cond (.seq (.txt []) .leaf) .leaf)))))))) (.seq (.txt []) .leaf)))))))
set_option maxRecDepth 100000 in
theorem Hm (σ : Hp) (m_Parking_A : Option Addr) (m_Parking_n : Nat) (m_Parking_c : Nat) (m_Roads_A : Option Addr) (m_Roads_n : Nat) (m_Roads_c : Nat) (l_Height : Int) (l_Weight : Int) (l_From : Int) (l_Ready : Int) (l_Drive : Int) (l_Rest : Int) (to : Int) (R : Value → Hp → Prop) (h : Dc σ m_Parking_A m_Parking_n m_Parking_c m_Roads_A m_Roads_n m_Roads_c l_Height l_Weight l_From l_Ready l_Drive l_Rest to R) : Ah Try.prog 23 #[(.agg #[(.slice m_Parking_A m_Parking_n m_Parking_c), (.slice m_Roads_A m_Roads_n m_Roads_c)]), (.agg #[(.int .i64 l_Height), (.int .i64 l_Weight), (.int .i64 l_From), (.int .i64 l_Ready), (.int .i64 l_Drive), (.int .i64 l_Rest)]), (.int .i64 to)] σ R :=
  Aj D9 Hq Try.func23 rfl (by kernel_rfl) (by kernel_rfl) (M := Dc σ m_Parking_A m_Parking_n m_Parking_c m_Roads_A m_Roads_n m_Roads_c l_Height l_Weight l_From l_Ready l_Drive l_Rest to R) (by kernel_rfl) h
theorem FG : Aw Try.prog 23 = true := by kernel_rfl
abbrev IW : FuncId := 43
def CS (σ : Hp) (a0_Parking_A : Option Addr) (a0_Parking_n : Nat) (a0_Parking_c : Nat) (a0_Roads_A : Option Addr) (a0_Roads_n : Nat) (a0_Roads_c : Nat) (a1_Height : Int) (a1_Weight : Int) (a1_From : Int) (a1_Ready : Int) (a1_Drive : Int) (a1_Rest : Int) (a2 : Int) (R : Value → Hp → Prop) : Prop :=
  exl 27 [.int .i64, .int .i64, .int .i64, .int .i64, .int .i64, .int .i64] ([(a1_Height, a1_Weight, a1_From, a1_Ready, a1_Drive, a1_Rest)] : List (Int × Int × Int × Int × Int × Int)) σ (fun A1 l1 c1 σ2 => 
    cl Try.prog (.func (.func 50) #[] #[]) #[(.agg #[(.slice a0_Parking_A a0_Parking_n a0_Parking_c), (.slice a0_Roads_A a0_Roads_n a0_Roads_c)]), (.int .i64 a2), (.slice A1 l1 c1)] σ2 (fun v3 σ4 => 
    ∃ n5 : Int, (v3 = (.int .i64 n5) ∧ bc (!decide (n5 = 0)) (rt σ4 R (.tuple #[(.slice none 0 0), (.int .i64 n5)])) (cl Try.prog (.func (.func 56) #[] #[]) #[(.agg #[(.slice a0_Parking_A a0_Parking_n a0_Parking_c), (.slice a0_Roads_A a0_Roads_n a0_Roads_c), (.int .i64 a1_Height), (.int .i64 a1_Weight), (.int .i64 a1_From), (.int .i64 a1_Ready), (.int .i64 a1_Drive), (.int .i64 a1_Rest)]), (.int .i64 a2)] σ4 (fun v6 σ7 => 
    ∃ n8 : Int, ∃ n9 : Int, ∃ t10 : Bool, (v6 = (.tuple #[(.agg #[(.int .i64 n8), (.int .i64 n9)]), (.bool t10)]) ∧ 
    bc (!t10) (rt σ7 R (.tuple #[(.slice none 0 0), (.int .i64 3)])) (cut (α := Option Addr → Nat → Nat → Hp → Prop) (fun A14 l14 c14 σ12 => 
    ∀ _ : Nat → Value, rt σ12 R (.tuple #[(.slice A14 l14 c14), (.int .i64 0)])) (fun J13 => ∃ I17 : Nat → Option Addr → Nat → Nat → Int → Hp → Prop, (∃ n180, I17 n180 none 0 0 0 σ7) ∧ 
    ∀ n18 : Nat, ∀ A19 : Option Addr, ∀ l19 : Nat, ∀ c19 : Nat, ∀ n20 : Int, ∀ σ16 : Hp, I17 n18 A19 l19 c19 n20 σ16 → ∀ _ : Nat → Value, bc (decide (n20 < ((a0_Roads_n : Nat) : Int))) (cut (α := Option Addr → Nat → Nat → Hp → Prop) (fun A24 l24 c24 σ22 => 
    ∀ _ : Nat → Value, wk .i64 (n20 + 1) (fun n25 => bk σ22 n18 (fun m26 σ27 => I17 m26 A24 l24 c24 n25 σ27))) (fun J23 => 
    (0 ≤ n20 ∧ n20 ≤ ((a0_Roads_c : Nat) : Int) ∧ wk .i64 (n20 + 1) (fun n28 => (0 ≤ n28 ∧ n28 ≤ ((a0_Roads_n : Nat) : Int) ∧ 
    exl 23 [.slc] ([(a0_Roads_A, ((n20 : Int).toNat), a0_Roads_c), ((if a0_Roads_c = (n28 : Int).toNat then (a0_Roads_A : Option Addr) else (a0_Roads_A : Option Addr).map (fun x => 
    x.add ((n28 : Int).toNat * 5))), (a0_Roads_n - (n28 : Int).toNat), (a0_Roads_c - (n28 : Int).toNat))] : List ((Option Addr × Nat × Nat))) σ16 (fun A29 l29 c29 σ30 => 
    cl Try.prog (.func (.func 73) #[] #[]) #[(.slice A29 l29 c29)] σ30 (fun v31 σ32 => ∃ A33 : Option Addr, ∃ l33 : Nat, ∃ c33 : Nat, (v31 = (.slice A33 l33 c33) ∧ 
    cl Try.prog (.func (.func 56) #[] #[]) #[(.agg #[(.slice a0_Parking_A a0_Parking_n a0_Parking_c), (.slice A33 l33 c33), (.int .i64 a1_Height), (.int .i64 a1_Weight), (.int .i64 a1_From), (.int .i64 a1_Ready), (.int .i64 a1_Drive), (.int .i64 a1_Rest)]), (.int .i64 a2)] σ32 (fun v34 σ35 => 
    ∃ n36 : Int, ∃ n37 : Int, ∃ t38 : Bool, (v34 = (.tuple #[(.agg #[(.int .i64 n36), (.int .i64 n37)]), (.bool t38)]) ∧ 
    bc (!t38) (adp 3 [.int .i64] A19 l19 c19 σ35 (fun (xs39 : List Int) σ40 => Bx (List.length xs39 + List.length ([n20] : List Int)) (exl 3 [.int .i64] (xs39 ++ ([n20] : List Int)) σ40 (fun A41 l41 c41 σ42 => 
    J23 A41 l41 c41 σ42)))) (J23 A19 l19 c19 σ35))))))))))) (J13 A19 l19 c19 σ16)))))))))
def AD : OA := ⟨[], false, []⟩
def GY : MAn := (.seq (.txt []) (.seq (.seq (.txt []) (.seq (.txt []) (.cond (.seq (.txt []) .leaf) .leaf))) (.seq (.seq (.txt []) (.seq (.txt []) (.cond (.seq (.txt []) .leaf) .leaf))) (.cut ⟨[true, true, false, true], 4, [.slot 6 (.sc (.slc))], []⟩ (.seq (.txt []) (.block (.loop ⟨[true, true, false, true], 4, [.slot 3 (.hb 0 0), .slot 4 (.hb 1 0), .slot 6 (.sc (.slc)), .slot 36 (.sc (.int .i64))], [(2, true), (35, true)]⟩ (.seq (.txt []) (.seq (.cond .leaf .leaf) (.cut ⟨[true, true, false, true], 4, [.slot 3 (.hb 0 0), .slot 4 (.hb 1 0), .slot 6 (.sc (.slc))], [(2, true), (35, true), (36, true)]⟩ (.block (.seq (.txt []) (.seq (.txt []) (.seq (.plan [12, 10] (.take 0 AD (.take 1 AD (.take 2 AD (.take 3 AD (.take 4 AD (.take 5 AD (.take 6 AD (.take 7 AD (.take 8 AD (.alt 9 true AD (.alt 10 false AD (.take 11 AD (.alt 12 false AD .done .done)) .done) .done))))))))))) (.seq (.txt []) (.seq (.txt []) (.cond (.txt []) .leaf))))))) (.txt []))))))) (.seq (.txt []) .leaf)))))
set_option maxRecDepth 100000 in
theorem GH (σ : Hp) (a0_Parking_A : Option Addr) (a0_Parking_n : Nat) (a0_Parking_c : Nat) (a0_Roads_A : Option Addr) (a0_Roads_n : Nat) (a0_Roads_c : Nat) (a1_Height : Int) (a1_Weight : Int) (a1_From : Int) (a1_Ready : Int) (a1_Drive : Int) (a1_Rest : Int) (a2 : Int) (R : Value → Hp → Prop) (h : CS σ a0_Parking_A a0_Parking_n a0_Parking_c a0_Roads_A a0_Roads_n a0_Roads_c a1_Height a1_Weight a1_From a1_Ready a1_Drive a1_Rest a2 R) : Ah Try.prog 43 #[(.agg #[(.slice a0_Parking_A a0_Parking_n a0_Parking_c), (.slice a0_Roads_A a0_Roads_n a0_Roads_c)]), (.agg #[(.int .i64 a1_Height), (.int .i64 a1_Weight), (.int .i64 a1_From), (.int .i64 a1_Ready), (.int .i64 a1_Drive), (.int .i64 a1_Rest)]), (.int .i64 a2)] σ R :=
  Aj D9 GY Try.func43 rfl (by kernel_rfl) (by kernel_rfl) (M := CS σ a0_Parking_A a0_Parking_n a0_Parking_c a0_Roads_A a0_Roads_n a0_Roads_c a1_Height a1_Weight a1_From a1_Ready a1_Drive a1_Rest a2 R) (by kernel_rfl) h
theorem Fb : Aw Try.prog 43 = true := by kernel_rfl
abbrev Gk : FuncId := 55
def CX (σ : Hp) (s_A : Option Addr) (s_n : Nat) (s_c : Nat) (R : Value → Hp → Prop) : Prop :=
  bx σ (.cells #[(.slice s_A s_n s_c)] 45) (fun b1 σ2 => rt σ2 R (.func (.func 91) #[] #[(.pointer (some ⟨b1, 0, none⟩))]))
def EZ : MAn := (.seq (.txt []) (.seq (.txt []) .leaf))
set_option maxRecDepth 100000 in
theorem EU (σ : Hp) (s_A : Option Addr) (s_n : Nat) (s_c : Nat) (R : Value → Hp → Prop) (h : CX σ s_A s_n s_c R) : Ah Try.prog 55 #[(.slice s_A s_n s_c)] σ R :=
  Aj D9 EZ Try.func55 rfl (by kernel_rfl) (by kernel_rfl) (M := CX σ s_A s_n s_c R) (by kernel_rfl) h
theorem DI : Aw Try.prog 55 = true := by kernel_rfl
abbrev CB : FuncId := 91
def BN (σ : Hp) (yield : Value) (cap0 : Option Addr) (R : Value → Hp → Prop) : Prop :=
  dr cap0 (fun b1 o2 => ldS σ b1 o2 (fun _ l3 _ => wk .i64 (((l3 : Nat) : Int) - 1) (fun n4 => ∃ I8 : Nat → Int → Hp → Prop, (∃ n90, I8 n90 n4 σ) ∧ 
    ∀ n9 : Nat, ∀ n10 : Int, ∀ σ7 : Hp, I8 n9 n10 σ7 → ∀ _ : Nat → Value, bc (decide ((0 : Int) ≤ n10)) (dr cap0 (fun b11 o12 => 
    ldS σ7 b11 o12 (fun A13 l13 _ => ix A13 l13 n10 1 (fun b14 a15 => ldI σ7 .i64 b14 a15 (fun n16 => cl Try.prog yield #[(.int .i64 n10), (.int .i64 n16)] σ7 (fun v17 σ18 => 
    ∃ t19 : Bool, (v17 = (.bool t19) ∧ bc (!t19) (rt σ18 R (.tuple #[])) (wk .i64 (n10 - 1) (fun n20 => bk σ18 n9 (fun m21 σ22 => 
    I8 m21 n20 σ22)))))))))) (rt σ7 R (.tuple #[])))))
def D5 : MAn := (.seq (.txt []) (.block (.loop ⟨[], 0, [.slot 3 (.sc (.int .i64))], [(0, false), (1, true)]⟩ (.seq (.seq (.txt []) (.cond .leaf .leaf)) (.seq (.block (.seq (.txt []) (.cond .leaf .leaf))) (.txt []))))))
set_option maxRecDepth 100000 in
theorem DX (σ : Hp) (yield : Value) (cap0 : Option Addr) (R : Value → Hp → Prop) (h : BN σ yield cap0 R) : Ah Try.prog 91 #[yield, (.pointer cap0)] σ R :=
  Aj D9 D5 Try.func91 rfl (by kernel_rfl) (by kernel_rfl) (M := BN σ yield cap0 R) (by kernel_rfl) h
theorem Ds : Aw Try.prog 91 = true := by kernel_rfl
abbrev EF : FuncId := 73
def BJ (σ : Hp) (slices_A : Option Addr) (slices_n : Nat) (_ : Nat) (R : Value → Hp → Prop) : Prop :=
  cut (α := Int → Hp → Prop) (fun n4 σ2 => ∀ _ : Nat → Value, cl Try.prog (.func (.func 92) #[] #[]) #[(.slice none 0 0), (.int .i64 n4)] σ2 (fun v5 σ6 => 
    ∃ A7 : Option Addr, ∃ l7 : Nat, ∃ c7 : Nat, (v5 = (.slice A7 l7 c7) ∧ cut (α := Option Addr → Nat → Nat → Hp → Prop) (fun A11 l11 c11 σ9 => 
    ∀ _ : Nat → Value, rt σ9 R (.slice A11 l11 c11)) (fun J10 => ∃ I14 : Nat → Option Addr → Nat → Nat → Int → Hp → Prop, (∃ n150, I14 n150 A7 l7 c7 0 σ6) ∧ 
    ∀ n15 : Nat, ∀ A16 : Option Addr, ∀ l16 : Nat, ∀ c16 : Nat, ∀ n17 : Int, ∀ σ13 : Hp, I14 n15 A16 l16 c16 n17 σ13 → ∀ _ : Nat → Value, bc (decide (n17 < ((slices_n : Nat) : Int))) (ix slices_A slices_n n17 1 (fun b18 a19 => 
    ldS σ13 b18 a19 (fun A20 l20 _ => adp 51 [.int .i64, .int .i64, .int .i64, .int .i64, .int .i64] A16 l16 c16 σ13 (fun (xs21 : List (Int × Int × Int × Int × Int)) σ22 => 
    ∃ ys23 : List (Int × Int × Int × Int × Int), RdS [.int .i64, .int .i64, .int .i64, .int .i64, .int .i64] σ22 A20 l20 ys23 ∧ 
    Bx (List.length xs21 + List.length ys23) (wk .i64 (n17 + 1) (fun n24 => bk σ22 n15 (fun m25 σ26 => 
    exl 51 [.int .i64, .int .i64, .int .i64, .int .i64, .int .i64] (xs21 ++ ys23) σ26 (fun A27 l27 c27 σ28 => 
    I14 m25 A27 l27 c27 n24 σ28)))))))) (J10 A16 l16 c16 σ13))))) (fun J3 => ∃ I31 : Nat → Int → Int → Hp → Prop, (∃ n320, I31 n320 0 0 σ) ∧ 
    ∀ n32 : Nat, ∀ n33 : Int, ∀ n34 : Int, ∀ σ30 : Hp, I31 n32 n33 n34 σ30 → ∀ _ : Nat → Value, bc (decide (n34 < ((slices_n : Nat) : Int))) (cut (α := Int → Hp → Prop) (fun n38 σ36 => 
    ∀ _ : Nat → Value, wk .i64 (n34 + 1) (fun n39 => bk σ36 n32 (fun m40 σ41 => I31 m40 n38 n39 σ41))) (fun J37 => 
    ix slices_A slices_n n34 1 (fun b42 a43 => ldS σ30 b42 a43 (fun _ l44 _ => wk .i64 (n33 + ((l44 : Nat) : Int)) (fun n45 => 
    bc (decide (n45 < 0)) (False) (J37 n45 σ30)))))) (J3 n33 σ30))
def DK : MAn := (.seq (.txt []) (.seq (.txt []) (.cut ⟨[], 0, [.slot 3 (.sc (.int .i64))], [(0, true)]⟩ (.seq (.txt []) (.block (.loop ⟨[], 0, [.slot 3 (.sc (.int .i64)), .slot 11 (.sc (.int .i64))], [(0, true), (9, true), (10, true)]⟩ (.seq (.txt []) (.seq (.cond .leaf .leaf) (.cut ⟨[], 0, [.slot 3 (.sc (.int .i64))], [(0, true), (9, true), (10, true), (11, true)]⟩ (.block (.seq (.txt []) (.seq (.txt []) (.seq (.txt []) (.cond (.txt []) .leaf))))) (.txt []))))))) (.seq (.txt []) (.cut ⟨[], 0, [.slot 6 (.sc (.slc))], []⟩ (.seq (.txt []) (.block (.loop ⟨[], 0, [.slot 6 (.sc (.slc)), .slot 27 (.sc (.int .i64))], [(25, true), (26, true)]⟩ (.seq (.txt []) (.seq (.cond .leaf .leaf) (.seq (.block (.seq (.txt []) (.txt []))) (.txt []))))))) (.seq (.txt []) .leaf))))))
set_option maxRecDepth 100000 in
theorem DH (σ : Hp) (slices_A : Option Addr) (slices_n : Nat) (slices_c : Nat) (R : Value → Hp → Prop) (h : BJ σ slices_A slices_n slices_c R) : Ah Try.prog 73 #[(.slice slices_A slices_n slices_c)] σ R :=
  Aj D9 DK Try.func73 rfl (by kernel_rfl) (by kernel_rfl) (M := BJ σ slices_A slices_n slices_c R) (by kernel_rfl) h
theorem C6 : Aw Try.prog 73 = true := by kernel_rfl
abbrev Fw : FuncId := 92
def BT (σ : Hp) (s_A : Option Addr) (s_n : Nat) (s_c : Nat) (n : Int) (R : Value → Hp → Prop) : Prop :=
  cut (α := Hp → Prop) (fun  σ2 => ∀ _ : Nat → Value, cut (α := Option Addr → Nat → Nat → Hp → Prop) (fun A7 l7 c7 σ5 => 
    ∀ _ : Nat → Value, rt σ5 R (.slice A7 l7 c7)) (fun J6 => wk .i64 (((s_c : Nat) : Int) - ((s_n : Nat) : Int)) (fun n8 => 
    wk .i64 (n - n8) (fun n9 => bc (decide ((0 : Int) < n9)) ((0 ≤ ((s_c : Nat) : Int) ∧ ((s_c : Nat) : Int) ≤ ((s_c : Nat) : Int) ∧ 
    apr Try.prog #[23, 3] 23 #[(.slice s_A ((((s_c : Nat) : Int) : Int).toNat) s_c), (.int .i64 n9)] σ2 (fun A10 _ c12 σ13 => 
    (0 ≤ ((s_n : Nat) : Int) ∧ ((s_n : Nat) : Int) ≤ ((c12 : Nat) : Int) ∧ J6 A10 ((((s_n : Nat) : Int) : Int).toNat) c12 σ13)))) (J6 s_A s_n s_c σ2))))) (fun J3 => 
    bc (decide (n < 0)) (False) (J3 σ))
def Ei : MAn := (.seq (.txt []) (.cut ⟨[], 0, [], [(0, true), (1, true)]⟩ (.seq (.txt []) (.cond (.txt []) .leaf)) (.cut ⟨[], 0, [.slot 0 (.sc (.slc))], []⟩ (.seq (.txt []) (.seq (.txt []) (.cond (.txt []) .leaf))) (.seq (.txt []) .leaf))))
set_option maxRecDepth 100000 in
theorem Ef (σ : Hp) (s_A : Option Addr) (s_n : Nat) (s_c : Nat) (n : Int) (R : Value → Hp → Prop) (h : BT σ s_A s_n s_c n R) : Ah Try.prog 92 #[(.slice s_A s_n s_c), (.int .i64 n)] σ R :=
  Aj D9 Ei Try.func92 rfl (by kernel_rfl) (by kernel_rfl) (M := BT σ s_A s_n s_c n R) (by kernel_rfl) h
theorem Dx : Aw Try.prog 92 = true := by kernel_rfl
end Go.Proofs.Ytkdjkkimngeloaa
