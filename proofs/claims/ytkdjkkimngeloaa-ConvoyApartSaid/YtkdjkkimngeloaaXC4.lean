/- Trimmed by wip/trim.py to what this claim rests on. -/
import Derived.Test.YtkdjkkimngeloaaXB11
namespace Go.Proofs.Ytkdjkkimngeloaa
open Go.RowKit
theorem Gf : Try.prog.follows .mixedOrders = true := by kernel_rfl
abbrev KA : FuncId := 19
def DW (σ : Hp) (m_Parking_A : Option Addr) (m_Parking_n : Nat) (m_Parking_c : Nat) (m_Roads_A : Option Addr) (m_Roads_n : Nat) (m_Roads_c : Nat) (l_Height : Int) (l_Weight : Int) (l_From : Int) (l_Ready : Int) (l_Drive : Int) (l_Rest : Int) (to : Int) (R : Value → Hp → Prop) : Prop :=
  exl 27 [.int .i64, .int .i64, .int .i64, .int .i64, .int .i64, .int .i64] ([(l_Height, l_Weight, l_From, l_Ready, l_Drive, l_Rest)] : List (Int × Int × Int × Int × Int × Int)) σ (fun A1 l1 c1 σ2 => 
    cl Try.prog (.func (.func 50) #[] #[]) #[(.agg #[(.slice m_Parking_A m_Parking_n m_Parking_c), (.slice m_Roads_A m_Roads_n m_Roads_c)]), (.int .i64 to), (.slice A1 l1 c1)] σ2 (fun v3 σ4 => 
    ∃ n5 : Int, (v3 = (.int .i64 n5) ∧ bc (!decide (n5 = 0)) (rt σ4 R (.tuple #[(.slice none 0 0), (.int .i64 n5)])) (cl Try.prog (.func (.func 51) #[] #[]) #[(.agg #[(.slice m_Parking_A m_Parking_n m_Parking_c), (.slice m_Roads_A m_Roads_n m_Roads_c), (.int .i64 l_Height), (.int .i64 l_Weight), (.int .i64 l_From), (.int .i64 l_Ready), (.int .i64 l_Drive), (.int .i64 l_Rest)]), (.int .i64 to)] σ4 (fun v6 σ7 => 
    ∃ A8 : Option Addr, ∃ l8 : Nat, ∃ c8 : Nat, ∃ t9 : Bool, (v6 = (.tuple #[(.slice A8 l8 c8), (.bool t9)]) ∧ 
    bc (!t9) (rt σ7 R (.tuple #[(.slice none 0 0), (.int .i64 3)])) (rt σ7 R (.tuple #[(.slice A8 l8 c8), (.int .i64 0)]))))))))
def HG : MAn := (.seq (.txt []) (.seq (.seq (.txt []) (.seq (.txt []) (.cond (.seq (.txt []) .leaf) .leaf))) (.seq (.txt []) (.seq (.seq (.txt []) (.cond (.seq (.txt []) .leaf) .leaf)) (.seq (.txt []) .leaf)))))
set_option maxRecDepth 100000 in
theorem Ik (σ : Hp) (m_Parking_A : Option Addr) (m_Parking_n : Nat) (m_Parking_c : Nat) (m_Roads_A : Option Addr) (m_Roads_n : Nat) (m_Roads_c : Nat) (l_Height : Int) (l_Weight : Int) (l_From : Int) (l_Ready : Int) (l_Drive : Int) (l_Rest : Int) (to : Int) (R : Value → Hp → Prop) (h : DW σ m_Parking_A m_Parking_n m_Parking_c m_Roads_A m_Roads_n m_Roads_c l_Height l_Weight l_From l_Ready l_Drive l_Rest to R) : Af Try.prog 19 #[(.agg #[(.slice m_Parking_A m_Parking_n m_Parking_c), (.slice m_Roads_A m_Roads_n m_Roads_c)]), (.agg #[(.int .i64 l_Height), (.int .i64 l_Weight), (.int .i64 l_From), (.int .i64 l_Ready), (.int .i64 l_Drive), (.int .i64 l_Rest)]), (.int .i64 to)] σ R :=
  Am Gf HG Try.func19 rfl (by kernel_rfl) (by kernel_rfl) (M := DW σ m_Parking_A m_Parking_n m_Parking_c m_Roads_A m_Roads_n m_Roads_c l_Height l_Weight l_From l_Ready l_Drive l_Rest to R) (by kernel_rfl) h
theorem Gb : AA Try.prog 19 = true := by kernel_rfl
abbrev J0 : FuncId := 30
def DU (σ : Hp) (m_Parking_A : Option Addr) (m_Parking_n : Nat) (m_Parking_c : Nat) (m_Roads_A : Option Addr) (m_Roads_n : Nat) (m_Roads_c : Nat) (l_Height : Int) (l_Weight : Int) (l_From : Int) (l_Ready : Int) (l_Drive : Int) (l_Rest : Int) (R : Value → Hp → Prop) : Prop :=
  exl 27 [.int .i64, .int .i64, .int .i64, .int .i64, .int .i64, .int .i64] ([(l_Height, l_Weight, l_From, l_Ready, l_Drive, l_Rest)] : List (Int × Int × Int × Int × Int × Int)) σ (fun A1 l1 c1 σ2 => 
    cl Try.prog (.func (.func 57) #[] #[]) #[(.agg #[(.slice m_Parking_A m_Parking_n m_Parking_c), (.slice m_Roads_A m_Roads_n m_Roads_c)]), (.slice A1 l1 c1)] σ2 (fun v3 σ4 => 
    ∃ n5 : Int, (v3 = (.int .i64 n5) ∧ bc (!decide (n5 = 0)) (rt σ4 R (.tuple #[(.slice none 0 0), (.int .i64 n5)])) (cut (α := List Int → Hp → Prop) (fun xs9 σ7 => 
    ∀ _ : Nat → Value, exl 3 [.int .i64] xs9 σ7 (fun A10 l10 c10 σ11 => rt σ11 R (.tuple #[(.slice A10 l10 c10), (.int .i64 0)]))) (fun J8 => 
    ∃ I14 : Nat → List Int → Int → Hp → Prop, (∃ n150, adp 3 [.int .i64] none 0 0 σ4 (fun (xs16 : List Int) σ17 => 
    I14 n150 xs16 0 σ17)) ∧ ∀ n15 : Nat, ∀ xs18 : List Int, ∀ n19 : Int, ∀ σ13 : Hp, I14 n15 xs18 n19 σ13 → ∀ _ : Nat → Value, bc (decide (n19 < ((m_Parking_n : Nat) : Int))) (cut (α := List Int → Hp → Prop) (fun xs23 σ21 => 
    ∀ _ : Nat → Value, wk .i64 (n19 + 1) (fun n24 => bk σ21 n15 (fun m25 σ26 => I14 m25 xs23 n24 σ26))) (fun J22 => 
    cl Try.prog (.func (.func 56) #[] #[]) #[(.agg #[(.slice m_Parking_A m_Parking_n m_Parking_c), (.slice m_Roads_A m_Roads_n m_Roads_c), (.int .i64 l_Height), (.int .i64 l_Weight), (.int .i64 l_From), (.int .i64 l_Ready), (.int .i64 l_Drive), (.int .i64 l_Rest)]), (.int .i64 n19)] σ13 (fun v27 σ28 => 
    ∃ n29 : Int, ∃ n30 : Int, ∃ t31 : Bool, (v27 = (.tuple #[(.agg #[(.int .i64 n29), (.int .i64 n30)]), (.bool t31)]) ∧ 
    bc (!t31) (BG (List.length xs18 + List.length ([(-1)] : List Int)) (J22 (xs18 ++ ([(-1)] : List Int)) σ28)) (wk .i64 (l_Ready + n29) (fun n32 => 
    BG (List.length xs18 + List.length ([n32] : List Int)) (J22 (xs18 ++ ([n32] : List Int)) σ28))))))) (J8 xs18 σ13))))))
def HK : MAn := (.seq (.txt []) (.seq (.seq (.txt []) (.seq (.txt []) (.cond (.seq (.txt []) .leaf) .leaf))) (.cut ⟨[true, true, false], 4, [.slot 4 (.lst 3 3 [.int .i64])], []⟩ (.seq (.txt []) (.block (.loop ⟨[true, true, false], 4, [.slot 2 (.hb 0 0), .slot 3 (.hb 1 0), .slot 4 (.lst 3 3 [.int .i64]), .slot 20 (.sc (.int .i64))], [(19, true)]⟩ (.seq (.txt []) (.seq (.cond .leaf .leaf) (.cut ⟨[true, true, false, false], 4, [.slot 2 (.hb 0 0), .slot 3 (.hb 1 0), .slot 4 (.lst 3 3 [.int .i64])], [(19, true), (20, true)]⟩ (.block (.seq (.txt []) (.seq (.txt []) (.seq (.seq (.txt []) (.cond (.seq (.txt []) .leaf) .leaf)) (.txt []))))) (.txt []))))))) (.seq (.txt []) .leaf))))
set_option maxRecDepth 100000 in
theorem HI (σ : Hp) (m_Parking_A : Option Addr) (m_Parking_n : Nat) (m_Parking_c : Nat) (m_Roads_A : Option Addr) (m_Roads_n : Nat) (m_Roads_c : Nat) (l_Height : Int) (l_Weight : Int) (l_From : Int) (l_Ready : Int) (l_Drive : Int) (l_Rest : Int) (R : Value → Hp → Prop) (h : DU σ m_Parking_A m_Parking_n m_Parking_c m_Roads_A m_Roads_n m_Roads_c l_Height l_Weight l_From l_Ready l_Drive l_Rest R) : Af Try.prog 30 #[(.agg #[(.slice m_Parking_A m_Parking_n m_Parking_c), (.slice m_Roads_A m_Roads_n m_Roads_c)]), (.agg #[(.int .i64 l_Height), (.int .i64 l_Weight), (.int .i64 l_From), (.int .i64 l_Ready), (.int .i64 l_Drive), (.int .i64 l_Rest)])] σ R :=
  Am Gf HK Try.func30 rfl (by kernel_rfl) (by kernel_rfl) (M := DU σ m_Parking_A m_Parking_n m_Parking_c m_Roads_A m_Roads_n m_Roads_c l_Height l_Weight l_From l_Ready l_Drive l_Rest R) (by kernel_rfl) h
theorem GG : AA Try.prog 30 = true := by kernel_rfl
abbrev IL : FuncId := 23
def C7 (σ : Hp) (m_Parking_A : Option Addr) (m_Parking_n : Nat) (m_Parking_c : Nat) (m_Roads_A : Option Addr) (m_Roads_n : Nat) (m_Roads_c : Nat) (l_Height : Int) (l_Weight : Int) (l_From : Int) (l_Ready : Int) (l_Drive : Int) (l_Rest : Int) (to : Int) (R : Value → Hp → Prop) : Prop :=
  exl 27 [.int .i64, .int .i64, .int .i64, .int .i64, .int .i64, .int .i64] ([(l_Height, l_Weight, l_From, l_Ready, l_Drive, l_Rest)] : List (Int × Int × Int × Int × Int × Int)) σ (fun A1 l1 c1 σ2 => 
    cl Try.prog (.func (.func 50) #[] #[]) #[(.agg #[(.slice m_Parking_A m_Parking_n m_Parking_c), (.slice m_Roads_A m_Roads_n m_Roads_c)]), (.int .i64 to), (.slice A1 l1 c1)] σ2 (fun v3 σ4 => 
    ∃ n5 : Int, (v3 = (.int .i64 n5) ∧ bc (!decide (n5 = 0)) (rt σ4 R (.tuple #[(.int .i64 0), (.int .i64 n5)])) (cut (α := List Int → Hp → Prop) (fun xs9 σ7 => 
    ∀ _ : Nat → Value, exl 3 [.int .i64] xs9 σ7 (fun A10 l10 c10 σ11 => cl Try.prog (.func (.func 54) #[] #[]) #[(.slice A10 l10 c10)] σ11 (fun _ σ13 => 
    adp 3 [.int .i64] A10 l10 c10 σ13 (fun (xs14 : List Int) σ15 => cut (α := Option Addr → Option Addr → Hp → Prop) (fun p19 p20 σ17 => 
    ∀ _ : Nat → Value, dr p19 (fun b21 o22 => st σ17 b21 o22 (.int .i64 0) (fun σ23 => dr p20 (fun b24 o25 => 
    st σ23 b24 o25 (.int .i64 3) (fun σ26 => dr p19 (fun b27 o28 => ldI σ26 .i64 b27 o28 (fun n29 => dr p20 (fun b30 o31 => 
    ldI σ26 .i64 b30 o31 (fun n32 => rt σ26 R (.tuple #[(.int .i64 n29), (.int .i64 n32)])))))))))) (fun J18 => 
    exl 3 [.int .i64] xs14 σ15 (fun A33 l33 c33 σ34 => cl Try.prog (.func (.func 55) #[] #[]) #[(.slice A33 l33 c33)] σ34 (fun v35 σ36 => 
    ∃ v37 : Value, (v35 = v37 ∧ bx σ36 (.cells #[(.slice m_Parking_A m_Parking_n m_Parking_c), (.slice m_Roads_A m_Roads_n m_Roads_c)] 25) (fun b38 σ39 => 
    bx σ39 (.cells #[(.int .i64 l_Height), (.int .i64 l_Weight), (.int .i64 l_From), (.int .i64 l_Ready), (.int .i64 l_Drive), (.int .i64 l_Rest)] 27) (fun b40 σ41 => 
    bx σ41 (.cells #[(.int .i64 to)] 3) (fun b42 σ43 => bx σ43 (.cells #[(.int .i64 0)] 3) (fun b44 σ45 => 
    bx σ45 (.cells #[(.int .i64 0)] 33) (fun b46 σ47 => QQ Try.prog v37 σ47 (fun l48 Rec49 ag50 σ51 R52 => 
    ∃ n56 : Int, ∃ n57 : Int, (ag50 = #[(.int .i64 n56), (.int .i64 n57)] ∧ ∀ _ : Nat → Value, rgb l48 Rec49 σ51 (fun σ58 => 
    st σ58 b40 0 (.int .i64 n57) (fun σ59 => ldS σ59 b38 0 (fun A60 l60 c60 => ldS σ59 b38 1 (fun A61 l61 c61 => 
    ldI σ59 .i64 b40 0 (fun n62 => ldI σ59 .i64 b40 1 (fun n63 => ldI σ59 .i64 b40 2 (fun n64 => ldI σ59 .i64 b40 3 (fun n65 => 
    ldI σ59 .i64 b40 4 (fun n66 => ldI σ59 .i64 b40 5 (fun n67 => ldI σ59 .i64 b42 0 (fun n68 => cl Try.prog (.func (.func 56) #[] #[]) #[(.agg #[(.slice A60 l60 c60), (.slice A61 l61 c61), (.int .i64 n62), (.int .i64 n63), (.int .i64 n64), (.int .i64 n65), (.int .i64 n66), (.int .i64 n67)]), (.int .i64 n68)] σ59 (fun v69 σ70 => 
    ∃ n71 : Int, ∃ n72 : Int, ∃ t73 : Bool, (v69 = (.tuple #[(.agg #[(.int .i64 n71), (.int .i64 n72)]), (.bool t73)]) ∧ 
    bc t73 (st σ70 b44 0 (.int .i64 n57) (fun σ74 => st σ74 b46 0 (.int .i64 0) (fun σ75 => rgx l48 Rec49 R52 σ75 .ret))) (rgo l48 Rec49 R52 σ70)))))))))))))))) (fun p53 σ54 => 
    aft p53 (J18 (some ⟨b44, 0, none⟩) (some ⟨b46, 0, none⟩) σ54) (ldI σ54 .i64 b44 0 (fun n76 => ldI σ54 .i64 b46 0 (fun n77 => 
    rt σ54 R (.tuple #[(.int .i64 n76), (.int .i64 n77)])))) (fun i => exb i 2 (J18 (some ⟨b44, 0, none⟩) (some ⟨b46, 0, none⟩) σ54) (False)))))))))))))))) (fun J8 => 
    ∃ I80 : Nat → List Int → Int → Hp → Prop, (∃ n810, I80 n810 ([1000] : List Int) 0 σ4) ∧ ∀ n81 : Nat, ∀ xs82 : List Int, ∀ n83 : Int, ∀ σ79 : Hp, I80 n81 xs82 n83 σ79 → ∀ _ : Nat → Value, bc (decide (n83 < ((m_Roads_n : Nat) : Int))) (ix m_Roads_A m_Roads_n n83 5 (fun b84 a85 => 
    ldI σ79 .i64 b84 a85 (fun _ => ldI σ79 .i64 b84 (a85 + 1) (fun _ => ldI σ79 .i64 b84 (a85 + 2) (fun _ => 
    ldI σ79 .i64 b84 (a85 + 3) (fun n89 => ldI σ79 .i64 b84 (a85 + 4) (fun _ => BG (List.length xs82 + List.length ([n89] : List Int)) (wk .i64 (n83 + 1) (fun n91 => 
    bk σ79 n81 (fun m92 σ93 => I80 m92 (xs82 ++ ([n89] : List Int)) n91 σ93)))))))))) (J8 xs82 σ79))))))
def Ha : MAn := (.seq (.txt []) (.seq (.seq (.txt []) (.seq (.txt []) (.cond (.seq (.txt []) .leaf) .leaf))) (.seq (.txt []) (.cut ⟨[true, true, true, true, true, false, false], 7, [.slot 3 (.hb 0 0), .slot 4 (.hb 1 0), .slot 5 (.hb 2 0), .slot 6 (.hb 3 0), .slot 7 (.hb 4 0), .slot 9 (.hl 6 0), .modl 6 0 3 [.int .i64]], []⟩ (.seq (.txt []) (.block (.loop ⟨[true, true, true, true, true, false, false], 7, [.slot 3 (.hb 0 0), .slot 4 (.hb 1 0), .slot 5 (.hb 2 0), .slot 6 (.hb 3 0), .slot 7 (.hb 4 0), .slot 9 (.lst 6 3 [.int .i64]), .slot 28 (.sc (.int .i64))], [(26, true), (27, true)]⟩ (.seq (.txt []) (.seq (.cond .leaf .leaf) (.seq (.block (.seq (.txt []) (.txt []))) (.txt []))))))) (.seq (.txt [⟨[], false, []⟩, ⟨[], false, [.adl 9 3 [.int .i64]]⟩]) (.cut ⟨[false, false, false, false, false, false, false, false], 8, [.slot 6 (.sc (.ptr)), .slot 7 (.sc (.ptr))], []⟩ (.seq (.txt []) (.block (.rng [.exp 3, .exp 4, .exp 5, .exp 6, .exp 7] [(3, true), (4, true), (5, true), (6, true), (7, true)] [3, 3] (.txt []) (.block (.seq (.txt []) (.seq (.txt []) (.seq (.txt []) (.cond (.seq (.txt []) .leaf) .leaf)))))))) (.seq (.txt []) .leaf)))))))
set_option maxRecDepth 100000 in
theorem G0 (σ : Hp) (m_Parking_A : Option Addr) (m_Parking_n : Nat) (m_Parking_c : Nat) (m_Roads_A : Option Addr) (m_Roads_n : Nat) (m_Roads_c : Nat) (l_Height : Int) (l_Weight : Int) (l_From : Int) (l_Ready : Int) (l_Drive : Int) (l_Rest : Int) (to : Int) (R : Value → Hp → Prop) (h : C7 σ m_Parking_A m_Parking_n m_Parking_c m_Roads_A m_Roads_n m_Roads_c l_Height l_Weight l_From l_Ready l_Drive l_Rest to R) : Af Try.prog 23 #[(.agg #[(.slice m_Parking_A m_Parking_n m_Parking_c), (.slice m_Roads_A m_Roads_n m_Roads_c)]), (.agg #[(.int .i64 l_Height), (.int .i64 l_Weight), (.int .i64 l_From), (.int .i64 l_Ready), (.int .i64 l_Drive), (.int .i64 l_Rest)]), (.int .i64 to)] σ R :=
  Am Gf Ha Try.func23 rfl (by kernel_rfl) (by kernel_rfl) (M := C7 σ m_Parking_A m_Parking_n m_Parking_c m_Roads_A m_Roads_n m_Roads_c l_Height l_Weight l_From l_Ready l_Drive l_Rest to R) (by kernel_rfl) h
theorem FJ : AA Try.prog 23 = true := by kernel_rfl
abbrev FV : FuncId := 55
def C4 (σ : Hp) (s_A : Option Addr) (s_n : Nat) (s_c : Nat) (R : Value → Hp → Prop) : Prop :=
  bx σ (.cells #[(.slice s_A s_n s_c)] 45) (fun b1 σ2 => rt σ2 R (.func (.func 91) #[] #[(.pointer (some ⟨b1, 0, none⟩))]))
def Et : MAn := (.seq (.txt []) (.seq (.txt []) .leaf))
set_option maxRecDepth 100000 in
theorem EL (σ : Hp) (s_A : Option Addr) (s_n : Nat) (s_c : Nat) (R : Value → Hp → Prop) (h : C4 σ s_A s_n s_c R) : Af Try.prog 55 #[(.slice s_A s_n s_c)] σ R :=
  Am Gf Et Try.func55 rfl (by kernel_rfl) (by kernel_rfl) (M := C4 σ s_A s_n s_c R) (by kernel_rfl) h
theorem DM : AA Try.prog 55 = true := by kernel_rfl
abbrev Cz : FuncId := 91
def BL (σ : Hp) (yield : Value) (cap0 : Option Addr) (R : Value → Hp → Prop) : Prop :=
  dr cap0 (fun b1 o2 => ldS σ b1 o2 (fun _ l3 _ => wk .i64 (((l3 : Nat) : Int) - 1) (fun n4 => ∃ I8 : Nat → Int → Hp → Prop, (∃ n90, I8 n90 n4 σ) ∧ 
    ∀ n9 : Nat, ∀ n10 : Int, ∀ σ7 : Hp, I8 n9 n10 σ7 → ∀ _ : Nat → Value, bc (decide ((0 : Int) ≤ n10)) (dr cap0 (fun b11 o12 => 
    ldS σ7 b11 o12 (fun A13 l13 _ => ix A13 l13 n10 1 (fun b14 a15 => ldI σ7 .i64 b14 a15 (fun n16 => cl Try.prog yield #[(.int .i64 n10), (.int .i64 n16)] σ7 (fun v17 σ18 => 
    ∃ t19 : Bool, (v17 = (.bool t19) ∧ bc (!t19) (rt σ18 R (.tuple #[])) (wk .i64 (n10 - 1) (fun n20 => bk σ18 n9 (fun m21 σ22 => 
    I8 m21 n20 σ22)))))))))) (rt σ7 R (.tuple #[])))))
def D9 : MAn := (.seq (.txt []) (.block (.loop ⟨[], 0, [.slot 3 (.sc (.int .i64))], [(0, false), (1, true)]⟩ (.seq (.seq (.txt []) (.cond .leaf .leaf)) (.seq (.block (.seq (.txt []) (.cond .leaf .leaf))) (.txt []))))))
set_option maxRecDepth 100000 in
theorem DR (σ : Hp) (yield : Value) (cap0 : Option Addr) (R : Value → Hp → Prop) (h : BL σ yield cap0 R) : Af Try.prog 91 #[yield, (.pointer cap0)] σ R :=
  Am Gf D9 Try.func91 rfl (by kernel_rfl) (by kernel_rfl) (M := BL σ yield cap0 R) (by kernel_rfl) h
theorem Ds : AA Try.prog 91 = true := by kernel_rfl
end Go.Proofs.Ytkdjkkimngeloaa
