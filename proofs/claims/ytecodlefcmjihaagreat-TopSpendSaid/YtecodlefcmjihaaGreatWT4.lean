/- Trimmed by wip/trim.py to what this claim rests on. -/
import Derived.Test.YtecodlefcmjihaaGreatWB11
namespace Go.Proofs.YtecodlefcmjihaaGreat
open Go.RowKit
theorem UJ : Tryz.prog.follows .mixedOrders = true := by kernel_rfl
abbrev N3 : FuncId := 55
def BO (v107 : Value) (A109 : Option Addr) (l109 : Nat) (c109 : Nat) (σ15 : Hp) (σ108 : Hp) (f_Purses : Int) (f_Boxes : Int) (A16 : Option Addr) (l16 : Nat) (c16 : Nat) (J3 : Option Addr → Hp → Prop) : Prop :=
  (v107 = (.slice A109 l109 c109) ∧ (Hp.Sub σ15 σ108 ∧ 
    exl 63 [.int .i64, .int .i64] (List.replicate (f_Purses : Int).toNat (0, 0) : List (Int × Int)) σ108 (fun A110 l110 c110 σ111 => 
    exl 3 [.int .i64] (List.replicate (f_Boxes : Int).toNat 0 : List Int) σ111 (fun A112 l112 c112 σ113 => 
    bx σ113 (.cells #[(.slice A16 l16 c16), (.slice A109 l109 c109), (.slice A110 l110 c110), (.slice A112 l112 c112), (.int .i64 0)] 52) (fun b114 σ115 => 
    J3 (some ⟨b114, 0, none⟩) σ115)))))
def BK (f_Cash_A : Option Addr) (f_Cash_n : Nat) (f_Cash_c : Nat) (σ15 : Hp) (f_Purses : Int) (f_Boxes : Int) (A16 : Option Addr) (l16 : Nat) (c16 : Nat) (J3 : Option Addr → Hp → Prop) : Prop :=
  ((cl Tryz.prog (.func (.func 92) #[] #[]) #[(.slice f_Cash_A f_Cash_n f_Cash_c)] σ15 (fun v98 σ99 => 
    ∃ A100 : Option Addr, ∃ l100 : Nat, ∃ c100 : Nat, (v98 = (.slice A100 l100 c100) ∧ (Hp.Sub σ15 σ99 ∧ 
    (0 ≤ f_Purses ∧ f_Purses ≤ f_Purses ∧ f_Purses ≤ (1000000000 : Int) ∧ exl 63 [.int .i64, .int .i64] (List.replicate (f_Purses : Int).toNat (0, 0) : List (Int × Int)) σ99 (fun A101 l101 c101 σ102 => 
    exl 3 [.int .i64] (List.replicate (f_Boxes : Int).toNat 0 : List Int) σ102 (fun A103 l103 c103 σ104 => 
    bx σ104 (.cells #[(.slice A16 l16 c16), (.slice A100 l100 c100), (.slice A101 l101 c101), (.slice A103 l103 c103), (.int .i64 0)] 52) (fun b105 σ106 => 
    J3 (some ⟨b105, 0, none⟩) σ106)))))))) ∧ (0 ≤ f_Purses ∧ f_Purses ≤ f_Purses ∧ f_Purses ≤ (1000000000 : Int) ∧ 
    cl Tryz.prog (.func (.func 92) #[] #[]) #[(.slice f_Cash_A f_Cash_n f_Cash_c)] σ15 (fun v107 σ108 => 
    ∃ A109 : Option Addr, ∃ l109 : Nat, ∃ c109 : Nat, (BO v107 A109 l109 c109 σ15 σ108 f_Purses f_Boxes A16 l16 c16 J3))))
def B7 (f_Cash_A : Option Addr) (f_Cash_n : Nat) (f_Cash_c : Nat) (σ15 : Hp) (f_Boxes : Int) (f_Purses : Int) (A16 : Option Addr) (l16 : Nat) (c16 : Nat) (J3 : Option Addr → Hp → Prop) : Prop :=
  ((cl Tryz.prog (.func (.func 92) #[] #[]) #[(.slice f_Cash_A f_Cash_n f_Cash_c)] σ15 (fun v125 σ126 => 
    ∃ A127 : Option Addr, ∃ l127 : Nat, ∃ c127 : Nat, (v125 = (.slice A127 l127 c127) ∧ (Hp.Sub σ15 σ126 ∧ 
    (0 ≤ f_Boxes ∧ f_Boxes ≤ f_Boxes ∧ f_Boxes ≤ (1000000000 : Int) ∧ exl 63 [.int .i64, .int .i64] (List.replicate (f_Purses : Int).toNat (0, 0) : List (Int × Int)) σ126 (fun A128 l128 c128 σ129 => 
    exl 3 [.int .i64] (List.replicate (f_Boxes : Int).toNat 0 : List Int) σ129 (fun A130 l130 c130 σ131 => 
    bx σ131 (.cells #[(.slice A16 l16 c16), (.slice A127 l127 c127), (.slice A128 l128 c128), (.slice A130 l130 c130), (.int .i64 0)] 52) (fun b132 σ133 => 
    J3 (some ⟨b132, 0, none⟩) σ133)))))))) ∧ (0 ≤ f_Boxes ∧ f_Boxes ≤ f_Boxes ∧ f_Boxes ≤ (1000000000 : Int) ∧ 
    cl Tryz.prog (.func (.func 92) #[] #[]) #[(.slice f_Cash_A f_Cash_n f_Cash_c)] σ15 (fun v134 σ135 => 
    ∃ A136 : Option Addr, ∃ l136 : Nat, ∃ c136 : Nat, (BO v134 A136 l136 c136 σ15 σ135 f_Purses f_Boxes A16 l16 c16 J3))))
def B5 (f_Cash_A : Option Addr) (f_Cash_n : Nat) (f_Cash_c : Nat) (σ15 : Hp) (f_Purses : Int) (f_Boxes : Int) (A16 : Option Addr) (l16 : Nat) (c16 : Nat) (J3 : Option Addr → Hp → Prop) : Prop :=
  (cl Tryz.prog (.func (.func 92) #[] #[]) #[(.slice f_Cash_A f_Cash_n f_Cash_c)] σ15 (fun v35 σ36 => 
    ∃ A37 : Option Addr, ∃ l37 : Nat, ∃ c37 : Nat, (v35 = (.slice A37 l37 c37) ∧ (Hp.Sub σ15 σ36 ∧ exl 63 [.int .i64, .int .i64] (List.replicate (f_Purses : Int).toNat (0, 0) : List (Int × Int)) σ36 (fun A38 l38 c38 σ39 => 
    exl 3 [.int .i64] (List.replicate (f_Boxes : Int).toNat 0 : List Int) σ39 (fun A40 l40 c40 σ41 => bx σ41 (.cells #[(.slice A16 l16 c16), (.slice A37 l37 c37), (.slice A38 l38 c38), (.slice A40 l40 c40), (.int .i64 0)] 52) (fun b42 σ43 => 
    J3 (some ⟨b42, 0, none⟩) σ43)))))))
def B6 (f_Cash_A : Option Addr) (f_Cash_n : Nat) (f_Cash_c : Nat) (σ162 : Hp) (f_Purses : Int) (f_Boxes : Int) (A163 : Option Addr) (l163 : Nat) (c163 : Nat) (J3 : Option Addr → Hp → Prop) : Prop :=
  ((cl Tryz.prog (.func (.func 92) #[] #[]) #[(.slice f_Cash_A f_Cash_n f_Cash_c)] σ162 (fun v173 σ174 => 
    ∃ A175 : Option Addr, ∃ l175 : Nat, ∃ c175 : Nat, (BO v173 A175 l175 c175 σ162 σ174 f_Purses f_Boxes A163 l163 c163 J3))) ∧ (cl Tryz.prog (.func (.func 92) #[] #[]) #[(.slice f_Cash_A f_Cash_n f_Cash_c)] σ162 (fun v182 σ183 => 
    ∃ A184 : Option Addr, ∃ l184 : Nat, ∃ c184 : Nat, (BO v182 A184 l184 c184 σ162 σ183 f_Purses f_Boxes A163 l163 c163 J3))))
def D6 (f_Cash_A : Option Addr) (f_Cash_n : Nat) (f_Cash_c : Nat) (σ15 : Hp) (f_Purses : Int) (f_Boxes : Int) (A16 : Option Addr) (l16 : Nat) (c16 : Nat) (J3 : Option Addr → Hp → Prop) : Prop :=
  ((cl Tryz.prog (.func (.func 92) #[] #[]) #[(.slice f_Cash_A f_Cash_n f_Cash_c)] σ15 (fun v116 σ117 => 
    ∃ A118 : Option Addr, ∃ l118 : Nat, ∃ c118 : Nat, (v116 = (.slice A118 l118 c118) ∧ (Hp.Sub σ15 σ117 ∧ 
    (0 ≤ f_Purses ∧ f_Purses ≤ f_Purses ∧ f_Purses ≤ (1000000000 : Int) ∧ (0 ≤ f_Boxes ∧ f_Boxes ≤ f_Boxes ∧ 
    f_Boxes ≤ (1000000000 : Int) ∧ exl 63 [.int .i64, .int .i64] (List.replicate (f_Purses : Int).toNat (0, 0) : List (Int × Int)) σ117 (fun A119 l119 c119 σ120 => 
    exl 3 [.int .i64] (List.replicate (f_Boxes : Int).toNat 0 : List Int) σ120 (fun A121 l121 c121 σ122 => 
    bx σ122 (.cells #[(.slice A16 l16 c16), (.slice A118 l118 c118), (.slice A119 l119 c119), (.slice A121 l121 c121), (.int .i64 0)] 52) (fun b123 σ124 => 
    J3 (some ⟨b123, 0, none⟩) σ124))))))))) ∧ (0 ≤ f_Purses ∧ f_Purses ≤ f_Purses ∧ f_Purses ≤ (1000000000 : Int) ∧ 
    (B7 f_Cash_A f_Cash_n f_Cash_c σ15 f_Boxes f_Purses A16 l16 c16 J3)) ∧ (0 ≤ f_Boxes ∧ f_Boxes ≤ f_Boxes ∧ f_Boxes ≤ (1000000000 : Int) ∧ 
    (BK f_Cash_A f_Cash_n f_Cash_c σ15 f_Purses f_Boxes A16 l16 c16 J3)))
def Bm (v230 : Value) (A232 : Option Addr) (l232 : Nat) (c232 : Nat) (σ : Hp) (σ231 : Hp) (f_Cash_A : Option Addr) (f_Cash_n : Nat) (f_Cash_c : Nat) (f_Purses : Int) (f_Boxes : Int) (J3 : Option Addr → Hp → Prop) : Prop :=
  (v230 = (.slice A232 l232 c232) ∧ (Hp.Sub σ σ231 ∧ 
    cl Tryz.prog (.func (.func 92) #[] #[]) #[(.slice f_Cash_A f_Cash_n f_Cash_c)] σ231 (fun v233 σ234 => 
    ∃ A235 : Option Addr, ∃ l235 : Nat, ∃ c235 : Nat, (BO v233 A235 l235 c235 σ231 σ234 f_Purses f_Boxes A232 l232 c232 J3))))
def DN (f_Cash_A : Option Addr) (f_Cash_n : Nat) (f_Cash_c : Nat) (σ15 : Hp) (f_Boxes : Int) (f_Purses : Int) (A16 : Option Addr) (l16 : Nat) (c16 : Nat) (J3 : Option Addr → Hp → Prop) : Prop :=
  (cl Tryz.prog (.func (.func 92) #[] #[]) #[(.slice f_Cash_A f_Cash_n f_Cash_c)] σ15 (fun v26 σ27 => 
    ∃ A28 : Option Addr, ∃ l28 : Nat, ∃ c28 : Nat, (v26 = (.slice A28 l28 c28) ∧ (Hp.Sub σ15 σ27 ∧ (0 ≤ f_Boxes ∧ 
    f_Boxes ≤ f_Boxes ∧ f_Boxes ≤ (1000000000 : Int) ∧ exl 63 [.int .i64, .int .i64] (List.replicate (f_Purses : Int).toNat (0, 0) : List (Int × Int)) σ27 (fun A29 l29 c29 σ30 => 
    exl 3 [.int .i64] (List.replicate (f_Boxes : Int).toNat 0 : List Int) σ30 (fun A31 l31 c31 σ32 => bx σ32 (.cells #[(.slice A16 l16 c16), (.slice A28 l28 c28), (.slice A29 l29 c29), (.slice A31 l31 c31), (.int .i64 0)] 52) (fun b33 σ34 => 
    J3 (some ⟨b33, 0, none⟩) σ34))))))))
def FO (σ : Hp) (f_Purses : Int) (f_Boxes : Int) (f_Stock_A : Option Addr) (f_Stock_n : Nat) (f_Stock_c : Nat) (f_Cash_A : Option Addr) (f_Cash_n : Nat) (f_Cash_c : Nat) (f_Bundles_A : Option Addr) (f_Bundles_n : Nat) (f_Bundles_c : Nat) (f_Refund : Int) (f_Band : Int) (f_Hours : Int) (R : Value → Hp → Prop) : Prop :=
  cut (α := Option Addr → Hp → Prop) (fun p4 σ2 => ∀ _ : Nat → Value, dr p4 (fun b5 o6 => ldS σ2 b5 o6 (fun A7 l7 c7 => 
    ldS σ2 b5 (o6 + 1) (fun A8 l8 c8 => ldS σ2 b5 (o6 + 2) (fun A9 l9 c9 => ldS σ2 b5 (o6 + 3) (fun A10 l10 c10 => 
    ldI σ2 .i64 b5 (o6 + 4) (fun n11 => bx σ2 (.cells #[(.int .i64 f_Purses), (.int .i64 f_Boxes), (.slice f_Stock_A f_Stock_n f_Stock_c), (.slice f_Cash_A f_Cash_n f_Cash_c), (.slice f_Bundles_A f_Bundles_n f_Bundles_c), (.int .i64 f_Refund), (.int .i64 f_Band), (.int .i64 f_Hours), (.slice A7 l7 c7), (.slice A8 l8 c8), (.slice A9 l9 c9), (.slice A10 l10 c10), (.int .i64 n11), (.int .i64 0), (.int .i64 0), (.int .i64 0), (.int .i64 0), (.int .i64 0), (.int .i64 0), (.int .i64 0)] 91) (fun b12 σ13 => 
    rt σ13 R (.pointer (some ⟨b12, 0, none⟩)))))))))) (fun J3 => ((cl Tryz.prog (.func (.func 92) #[] #[]) #[(.slice f_Stock_A f_Stock_n f_Stock_c)] σ (fun v14 σ15 => 
    ∃ A16 : Option Addr, ∃ l16 : Nat, ∃ c16 : Nat, (v14 = (.slice A16 l16 c16) ∧ (Hp.Sub σ σ15 ∧ ((cl Tryz.prog (.func (.func 92) #[] #[]) #[(.slice f_Cash_A f_Cash_n f_Cash_c)] σ15 (fun v17 σ18 => 
    ∃ A19 : Option Addr, ∃ l19 : Nat, ∃ c19 : Nat, (v17 = (.slice A19 l19 c19) ∧ (Hp.Sub σ15 σ18 ∧ (0 ≤ f_Purses ∧ 
    f_Purses ≤ f_Purses ∧ f_Purses ≤ (1000000000 : Int) ∧ (0 ≤ f_Boxes ∧ f_Boxes ≤ f_Boxes ∧ f_Boxes ≤ (1000000000 : Int) ∧ 
    exl 63 [.int .i64, .int .i64] (List.replicate (f_Purses : Int).toNat (0, 0) : List (Int × Int)) σ18 (fun A20 l20 c20 σ21 => 
    exl 3 [.int .i64] (List.replicate (f_Boxes : Int).toNat 0 : List Int) σ21 (fun A22 l22 c22 σ23 => bx σ23 (.cells #[(.slice A16 l16 c16), (.slice A19 l19 c19), (.slice A20 l20 c20), (.slice A22 l22 c22), (.int .i64 0)] 52) (fun b24 σ25 => 
    J3 (some ⟨b24, 0, none⟩) σ25))))))))) ∧ (0 ≤ f_Purses ∧ f_Purses ≤ f_Purses ∧ f_Purses ≤ (1000000000 : Int) ∧ 
    ((DN f_Cash_A f_Cash_n f_Cash_c σ15 f_Boxes f_Purses A16 l16 c16 J3) ∧ (0 ≤ f_Boxes ∧ f_Boxes ≤ f_Boxes ∧ f_Boxes ≤ (1000000000 : Int) ∧ 
    ((B5 f_Cash_A f_Cash_n f_Cash_c σ15 f_Purses f_Boxes A16 l16 c16 J3) ∧ (B5 f_Cash_A f_Cash_n f_Cash_c σ15 f_Purses f_Boxes A16 l16 c16 J3))) ∧ ((DN f_Cash_A f_Cash_n f_Cash_c σ15 f_Boxes f_Purses A16 l16 c16 J3) ∧ (0 ≤ f_Boxes ∧ f_Boxes ≤ f_Boxes ∧ f_Boxes ≤ (1000000000 : Int) ∧ 
    cl Tryz.prog (.func (.func 92) #[] #[]) #[(.slice f_Cash_A f_Cash_n f_Cash_c)] σ15 (fun v62 σ63 => ∃ A64 : Option Addr, ∃ l64 : Nat, ∃ c64 : Nat, (v62 = (.slice A64 l64 c64) ∧ 
    (Hp.Sub σ15 σ63 ∧ exl 63 [.int .i64, .int .i64] (List.replicate (f_Purses : Int).toNat (0, 0) : List (Int × Int)) σ63 (fun A65 l65 c65 σ66 => 
    exl 3 [.int .i64] (List.replicate (f_Boxes : Int).toNat 0 : List Int) σ66 (fun A67 l67 c67 σ68 => bx σ68 (.cells #[(.slice A16 l16 c16), (.slice A64 l64 c64), (.slice A65 l65 c65), (.slice A67 l67 c67), (.int .i64 0)] 52) (fun b69 σ70 => 
    J3 (some ⟨b69, 0, none⟩) σ70)))))))))) ∧ (0 ≤ f_Boxes ∧ f_Boxes ≤ f_Boxes ∧ f_Boxes ≤ (1000000000 : Int) ∧ 
    ((cl Tryz.prog (.func (.func 92) #[] #[]) #[(.slice f_Cash_A f_Cash_n f_Cash_c)] σ15 (fun v71 σ72 => 
    ∃ A73 : Option Addr, ∃ l73 : Nat, ∃ c73 : Nat, (v71 = (.slice A73 l73 c73) ∧ (Hp.Sub σ15 σ72 ∧ (0 ≤ f_Purses ∧ 
    f_Purses ≤ f_Purses ∧ f_Purses ≤ (1000000000 : Int) ∧ exl 63 [.int .i64, .int .i64] (List.replicate (f_Purses : Int).toNat (0, 0) : List (Int × Int)) σ72 (fun A74 l74 c74 σ75 => 
    exl 3 [.int .i64] (List.replicate (f_Boxes : Int).toNat 0 : List Int) σ75 (fun A76 l76 c76 σ77 => bx σ77 (.cells #[(.slice A16 l16 c16), (.slice A73 l73 c73), (.slice A74 l74 c74), (.slice A76 l76 c76), (.int .i64 0)] 52) (fun b78 σ79 => 
    J3 (some ⟨b78, 0, none⟩) σ79)))))))) ∧ (0 ≤ f_Purses ∧ f_Purses ≤ f_Purses ∧ f_Purses ≤ (1000000000 : Int) ∧ 
    ((B5 f_Cash_A f_Cash_n f_Cash_c σ15 f_Purses f_Boxes A16 l16 c16 J3) ∧ (B5 f_Cash_A f_Cash_n f_Cash_c σ15 f_Purses f_Boxes A16 l16 c16 J3))) ∧ (BK f_Cash_A f_Cash_n f_Cash_c σ15 f_Purses f_Boxes A16 l16 c16 J3))) ∧ (D6 f_Cash_A f_Cash_n f_Cash_c σ15 f_Purses f_Boxes A16 l16 c16 J3)))))) ∧ (0 ≤ f_Purses ∧ f_Purses ≤ f_Purses ∧ f_Purses ≤ (1000000000 : Int) ∧ 
    ((cl Tryz.prog (.func (.func 92) #[] #[]) #[(.slice f_Stock_A f_Stock_n f_Stock_c)] σ (fun v161 σ162 => 
    ∃ A163 : Option Addr, ∃ l163 : Nat, ∃ c163 : Nat, (v161 = (.slice A163 l163 c163) ∧ (Hp.Sub σ σ162 ∧ 
    ((cl Tryz.prog (.func (.func 92) #[] #[]) #[(.slice f_Cash_A f_Cash_n f_Cash_c)] σ162 (fun v164 σ165 => 
    ∃ A166 : Option Addr, ∃ l166 : Nat, ∃ c166 : Nat, (v164 = (.slice A166 l166 c166) ∧ (Hp.Sub σ162 σ165 ∧ 
    (0 ≤ f_Boxes ∧ f_Boxes ≤ f_Boxes ∧ f_Boxes ≤ (1000000000 : Int) ∧ exl 63 [.int .i64, .int .i64] (List.replicate (f_Purses : Int).toNat (0, 0) : List (Int × Int)) σ165 (fun A167 l167 c167 σ168 => 
    exl 3 [.int .i64] (List.replicate (f_Boxes : Int).toNat 0 : List Int) σ168 (fun A169 l169 c169 σ170 => 
    bx σ170 (.cells #[(.slice A163 l163 c163), (.slice A166 l166 c166), (.slice A167 l167 c167), (.slice A169 l169 c169), (.int .i64 0)] 52) (fun b171 σ172 => 
    J3 (some ⟨b171, 0, none⟩) σ172)))))))) ∧ (0 ≤ f_Boxes ∧ f_Boxes ≤ f_Boxes ∧ f_Boxes ≤ (1000000000 : Int) ∧ 
    (B6 f_Cash_A f_Cash_n f_Cash_c σ162 f_Purses f_Boxes A163 l163 c163 J3)) ∧ (B7 f_Cash_A f_Cash_n f_Cash_c σ162 f_Boxes f_Purses A163 l163 c163 J3)))))) ∧ (0 ≤ f_Boxes ∧ f_Boxes ≤ f_Boxes ∧ f_Boxes ≤ (1000000000 : Int) ∧ 
    ((cl Tryz.prog (.func (.func 92) #[] #[]) #[(.slice f_Stock_A f_Stock_n f_Stock_c)] σ (fun v209 σ210 => 
    ∃ A211 : Option Addr, ∃ l211 : Nat, ∃ c211 : Nat, (v209 = (.slice A211 l211 c211) ∧ (Hp.Sub σ σ210 ∧ 
    (B6 f_Cash_A f_Cash_n f_Cash_c σ210 f_Purses f_Boxes A211 l211 c211 J3))))) ∧ (cl Tryz.prog (.func (.func 92) #[] #[]) #[(.slice f_Stock_A f_Stock_n f_Stock_c)] σ (fun v230 σ231 => 
    ∃ A232 : Option Addr, ∃ l232 : Nat, ∃ c232 : Nat, (Bm v230 A232 l232 c232 σ σ231 f_Cash_A f_Cash_n f_Cash_c f_Purses f_Boxes J3))))) ∧ ((cl Tryz.prog (.func (.func 92) #[] #[]) #[(.slice f_Stock_A f_Stock_n f_Stock_c)] σ (fun v242 σ243 => 
    ∃ A244 : Option Addr, ∃ l244 : Nat, ∃ c244 : Nat, (v242 = (.slice A244 l244 c244) ∧ (Hp.Sub σ σ243 ∧ 
    (B7 f_Cash_A f_Cash_n f_Cash_c σ243 f_Boxes f_Purses A244 l244 c244 J3))))) ∧ (0 ≤ f_Boxes ∧ f_Boxes ≤ f_Boxes ∧ f_Boxes ≤ (1000000000 : Int) ∧ 
    cl Tryz.prog (.func (.func 92) #[] #[]) #[(.slice f_Stock_A f_Stock_n f_Stock_c)] σ (fun v263 σ264 => 
    ∃ A265 : Option Addr, ∃ l265 : Nat, ∃ c265 : Nat, (Bm v263 A265 l265 c265 σ σ264 f_Cash_A f_Cash_n f_Cash_c f_Purses f_Boxes J3)))))) ∧ (0 ≤ f_Boxes ∧ f_Boxes ≤ f_Boxes ∧ f_Boxes ≤ (1000000000 : Int) ∧ 
    ((cl Tryz.prog (.func (.func 92) #[] #[]) #[(.slice f_Stock_A f_Stock_n f_Stock_c)] σ (fun v275 σ276 => 
    ∃ A277 : Option Addr, ∃ l277 : Nat, ∃ c277 : Nat, (v275 = (.slice A277 l277 c277) ∧ (Hp.Sub σ σ276 ∧ 
    ((cl Tryz.prog (.func (.func 92) #[] #[]) #[(.slice f_Cash_A f_Cash_n f_Cash_c)] σ276 (fun v278 σ279 => 
    ∃ A280 : Option Addr, ∃ l280 : Nat, ∃ c280 : Nat, (v278 = (.slice A280 l280 c280) ∧ (Hp.Sub σ276 σ279 ∧ 
    (0 ≤ f_Purses ∧ f_Purses ≤ f_Purses ∧ f_Purses ≤ (1000000000 : Int) ∧ exl 63 [.int .i64, .int .i64] (List.replicate (f_Purses : Int).toNat (0, 0) : List (Int × Int)) σ279 (fun A281 l281 c281 σ282 => 
    exl 3 [.int .i64] (List.replicate (f_Boxes : Int).toNat 0 : List Int) σ282 (fun A283 l283 c283 σ284 => 
    bx σ284 (.cells #[(.slice A277 l277 c277), (.slice A280 l280 c280), (.slice A281 l281 c281), (.slice A283 l283 c283), (.int .i64 0)] 52) (fun b285 σ286 => 
    J3 (some ⟨b285, 0, none⟩) σ286)))))))) ∧ (0 ≤ f_Purses ∧ f_Purses ≤ f_Purses ∧ f_Purses ≤ (1000000000 : Int) ∧ 
    (B6 f_Cash_A f_Cash_n f_Cash_c σ276 f_Purses f_Boxes A277 l277 c277 J3)) ∧ (BK f_Cash_A f_Cash_n f_Cash_c σ276 f_Purses f_Boxes A277 l277 c277 J3)))))) ∧ (0 ≤ f_Purses ∧ f_Purses ≤ f_Purses ∧ f_Purses ≤ (1000000000 : Int) ∧ 
    ((cl Tryz.prog (.func (.func 92) #[] #[]) #[(.slice f_Stock_A f_Stock_n f_Stock_c)] σ (fun v323 σ324 => 
    ∃ A325 : Option Addr, ∃ l325 : Nat, ∃ c325 : Nat, (v323 = (.slice A325 l325 c325) ∧ (Hp.Sub σ σ324 ∧ 
    (B6 f_Cash_A f_Cash_n f_Cash_c σ324 f_Purses f_Boxes A325 l325 c325 J3))))) ∧ (cl Tryz.prog (.func (.func 92) #[] #[]) #[(.slice f_Stock_A f_Stock_n f_Stock_c)] σ (fun v344 σ345 => 
    ∃ A346 : Option Addr, ∃ l346 : Nat, ∃ c346 : Nat, (Bm v344 A346 l346 c346 σ σ345 f_Cash_A f_Cash_n f_Cash_c f_Purses f_Boxes J3))))) ∧ ((cl Tryz.prog (.func (.func 92) #[] #[]) #[(.slice f_Stock_A f_Stock_n f_Stock_c)] σ (fun v356 σ357 => 
    ∃ A358 : Option Addr, ∃ l358 : Nat, ∃ c358 : Nat, (v356 = (.slice A358 l358 c358) ∧ (Hp.Sub σ σ357 ∧ 
    (BK f_Cash_A f_Cash_n f_Cash_c σ357 f_Purses f_Boxes A358 l358 c358 J3))))) ∧ (0 ≤ f_Purses ∧ f_Purses ≤ f_Purses ∧ f_Purses ≤ (1000000000 : Int) ∧ 
    cl Tryz.prog (.func (.func 92) #[] #[]) #[(.slice f_Stock_A f_Stock_n f_Stock_c)] σ (fun v377 σ378 => 
    ∃ A379 : Option Addr, ∃ l379 : Nat, ∃ c379 : Nat, (Bm v377 A379 l379 c379 σ σ378 f_Cash_A f_Cash_n f_Cash_c f_Purses f_Boxes J3)))))) ∧ ((cl Tryz.prog (.func (.func 92) #[] #[]) #[(.slice f_Stock_A f_Stock_n f_Stock_c)] σ (fun v389 σ390 => 
    ∃ A391 : Option Addr, ∃ l391 : Nat, ∃ c391 : Nat, (v389 = (.slice A391 l391 c391) ∧ (Hp.Sub σ σ390 ∧ 
    (D6 f_Cash_A f_Cash_n f_Cash_c σ390 f_Purses f_Boxes A391 l391 c391 J3))))) ∧ (0 ≤ f_Purses ∧ f_Purses ≤ f_Purses ∧ f_Purses ≤ (1000000000 : Int) ∧ 
    ((cl Tryz.prog (.func (.func 92) #[] #[]) #[(.slice f_Stock_A f_Stock_n f_Stock_c)] σ (fun v437 σ438 => 
    ∃ A439 : Option Addr, ∃ l439 : Nat, ∃ c439 : Nat, (v437 = (.slice A439 l439 c439) ∧ (Hp.Sub σ σ438 ∧ 
    (B7 f_Cash_A f_Cash_n f_Cash_c σ438 f_Boxes f_Purses A439 l439 c439 J3))))) ∧ (0 ≤ f_Boxes ∧ f_Boxes ≤ f_Boxes ∧ f_Boxes ≤ (1000000000 : Int) ∧ 
    cl Tryz.prog (.func (.func 92) #[] #[]) #[(.slice f_Stock_A f_Stock_n f_Stock_c)] σ (fun v458 σ459 => 
    ∃ A460 : Option Addr, ∃ l460 : Nat, ∃ c460 : Nat, (Bm v458 A460 l460 c460 σ σ459 f_Cash_A f_Cash_n f_Cash_c f_Purses f_Boxes J3))))) ∧ (0 ≤ f_Boxes ∧ f_Boxes ≤ f_Boxes ∧ f_Boxes ≤ (1000000000 : Int) ∧ 
    ((cl Tryz.prog (.func (.func 92) #[] #[]) #[(.slice f_Stock_A f_Stock_n f_Stock_c)] σ (fun v470 σ471 => 
    ∃ A472 : Option Addr, ∃ l472 : Nat, ∃ c472 : Nat, (v470 = (.slice A472 l472 c472) ∧ (Hp.Sub σ σ471 ∧ 
    (BK f_Cash_A f_Cash_n f_Cash_c σ471 f_Purses f_Boxes A472 l472 c472 J3))))) ∧ (0 ≤ f_Purses ∧ f_Purses ≤ f_Purses ∧ f_Purses ≤ (1000000000 : Int) ∧ 
    cl Tryz.prog (.func (.func 92) #[] #[]) #[(.slice f_Stock_A f_Stock_n f_Stock_c)] σ (fun v491 σ492 => 
    ∃ A493 : Option Addr, ∃ l493 : Nat, ∃ c493 : Nat, (Bm v491 A493 l493 c493 σ σ492 f_Cash_A f_Cash_n f_Cash_c f_Purses f_Boxes J3))))))))
def Ag : OA := ⟨[], false, []⟩
def Cy : MPlan := (.alt 5 true Ag (.take 12 Ag (.alt 14 false Ag .done .done)) .done)
def Cx : MPlan := (.take 12 Ag (.alt 13 true Ag (.alt 14 false Ag .done .done) .done))
def CB : MPlan := (.alt 5 true Ag (.alt 11 true Ag (.take 12 Ag (.alt 14 false Ag .done .done)) .done) (.alt 11 true Ag Cy .done))
def CC : MPlan := (.alt 5 true Ag (.alt 8 true Ag (.take 12 Ag (.alt 14 false Ag .done .done)) .done) (.alt 8 true Ag Cy .done))
def Cz : MPlan := (.alt 5 true Ag Cx (.alt 13 true Ag Cy .done))
def Gi : MPlan := (.alt 5 true Ag (.new 8 Ag (.alt 11 true Ag (.take 12 Ag (.alt 14 false Ag .done .done)) .done)) (.alt 8 true Ag CB (.alt 11 true Ag CC .done)))
def BQ : MPlan := (.alt 2 true Ag Cy .done)
def F9 : MPlan := (.alt 5 true Ag (.new 11 Ag Cx) (.alt 11 true Ag Cz (.alt 13 true Ag CB .done)))
def Ge : MPlan := (.alt 5 true Ag (.new 8 Ag Cx) (.alt 8 true Ag Cz (.alt 13 true Ag CC .done)))
def KI : MAn := (.seq (.txt []) (.cut ⟨[true], 1, [.slot 1 (.hb 0 0), .slot 3 (.sc (.ptr))], []⟩ (.plan [14] (.take 0 Ag (.take 1 Ag (.take 3 Ag (.take 4 Ag (.take 6 Ag (.take 7 Ag (.take 9 Ag (.take 10 Ag (.alt 2 true Ag (.alt 5 true Ag (.new 8 Ag (.new 11 Ag Cx)) (.alt 8 true Ag F9 (.alt 11 true Ag Ge (.alt 13 true Ag Gi .done)))) (.alt 8 true Ag (.alt 2 true Ag F9 (.alt 11 true Ag (.alt 2 true Ag Cz (.alt 13 true Ag BQ .done)) (.alt 13 true Ag (.alt 2 true Ag CB (.alt 11 true Ag BQ .done)) .done))) (.alt 11 true Ag (.alt 2 true Ag Ge (.alt 8 true Ag (.alt 2 true Ag Cz (.alt 13 true Ag BQ .done)) (.alt 13 true Ag (.alt 2 true Ag CC (.alt 8 true Ag BQ .done)) .done))) (.alt 13 true Ag (.alt 2 true Ag Gi (.alt 8 true Ag (.alt 2 true Ag CB (.alt 11 true Ag BQ .done)) (.alt 11 true Ag (.alt 2 true Ag CC (.alt 8 true Ag BQ .done)) .done))) .done))))))))))))) (.seq (.txt []) .leaf)))
set_option maxRecDepth 100000 in
theorem LD (σ : Hp) (f_Purses : Int) (f_Boxes : Int) (f_Stock_A : Option Addr) (f_Stock_n : Nat) (f_Stock_c : Nat) (f_Cash_A : Option Addr) (f_Cash_n : Nat) (f_Cash_c : Nat) (f_Bundles_A : Option Addr) (f_Bundles_n : Nat) (f_Bundles_c : Nat) (f_Refund : Int) (f_Band : Int) (f_Hours : Int) (R : Value → Hp → Prop) (h : FO σ f_Purses f_Boxes f_Stock_A f_Stock_n f_Stock_c f_Cash_A f_Cash_n f_Cash_c f_Bundles_A f_Bundles_n f_Bundles_c f_Refund f_Band f_Hours R) : Al Tryz.prog 55 #[(.agg #[(.int .i64 f_Purses), (.int .i64 f_Boxes), (.slice f_Stock_A f_Stock_n f_Stock_c), (.slice f_Cash_A f_Cash_n f_Cash_c), (.slice f_Bundles_A f_Bundles_n f_Bundles_c), (.int .i64 f_Refund), (.int .i64 f_Band), (.int .i64 f_Hours)])] σ R :=
  Am UJ KI Tryz.func55 rfl (by kernel_rfl) (by kernel_rfl) (M := FO σ f_Purses f_Boxes f_Stock_A f_Stock_n f_Stock_c f_Cash_A f_Cash_n f_Cash_c f_Bundles_A f_Bundles_n f_Bundles_c f_Refund f_Band f_Hours R) (by kernel_rfl) h
theorem Jd : AA Tryz.prog 55 = true := by kernel_rfl
end Go.Proofs.YtecodlefcmjihaaGreat
