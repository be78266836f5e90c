/- Trimmed by wip/trim.py to what this claim rests on. -/
import Derived.Test.YtecodlefcmjihaaGreatWB11
namespace Go.Proofs.YtecodlefcmjihaaGreat
open Go.RowKit
theorem mixed_T4 : Tryz.prog.follows .mixedOrders = true := by kernel_rfl
abbrev N_tokens_begin : FuncId := 55
def M_tokens_begin (σ : Hp) (f_Purses : Int) (f_Boxes : Int) (f_Stock_A : Option Addr) (f_Stock_n : Nat) (f_Stock_c : Nat) (f_Cash_A : Option Addr) (f_Cash_n : Nat) (f_Cash_c : Nat) (f_Bundles_A : Option Addr) (f_Bundles_n : Nat) (f_Bundles_c : Nat) (f_Refund : Int) (f_Band : Int) (f_Hours : Int) (R : Value → Hp → Prop) : Prop :=
  cut (α := Option Addr → Hp → Prop) (fun p4 σ2 => ∀ _ : Nat → Value, dr p4 (fun b5 o6 => ldS σ2 b5 o6 (fun A7 l7 c7 => 
    ldS σ2 b5 (o6 + 1) (fun A8 l8 c8 => ldS σ2 b5 (o6 + 2) (fun A9 l9 c9 => ldS σ2 b5 (o6 + 3) (fun A10 l10 c10 => 
    ldI σ2 .i64 b5 (o6 + 4) (fun n11 => bx σ2 (.cells #[(.int .i64 f_Purses), (.int .i64 f_Boxes), (.slice f_Stock_A f_Stock_n f_Stock_c), (.slice f_Cash_A f_Cash_n f_Cash_c), (.slice f_Bundles_A f_Bundles_n f_Bundles_c), (.int .i64 f_Refund), (.int .i64 f_Band), (.int .i64 f_Hours), (.slice A7 l7 c7), (.slice A8 l8 c8), (.slice A9 l9 c9), (.slice A10 l10 c10), (.int .i64 n11), (.int .i64 0), (.int .i64 0), (.int .i64 0), (.int .i64 0), (.int .i64 0), (.int .i64 0), (.int .i64 0)] 91) (fun b12 σ13 => 
    rt σ13 R (.pointer (some ⟨b12, 0, none⟩)))))))))) (fun J3 => ((cl Tryz.prog (.func (.func 92) #[] #[]) #[(.slice f_Stock_A f_Stock_n f_Stock_c)] σ (fun v14 σ15 => 
    ∃ A16 : Option Addr, ∃ l16 : Nat, ∃ c16 : Nat, (v14 = (.slice A16 l16 c16) ∧ (Hp.Sub σ σ15 ∧ ((cl Tryz.prog (.func (.func 92) #[] #[]) #[(.slice f_Cash_A f_Cash_n f_Cash_c)] σ15 (fun v17 σ18 => 
    ∃ A19 : Option Addr, ∃ l19 : Nat, ∃ c19 : Nat, (v17 = (.slice A19 l19 c19) ∧ (Hp.Sub σ15 σ18 ∧ ((0 ≤ f_Purses ∧ 
    f_Purses ≤ f_Purses ∧ f_Purses ≤ (1000000000 : Int) ∧ ((0 ≤ f_Boxes ∧ f_Boxes ≤ f_Boxes ∧ f_Boxes ≤ (1000000000 : Int) ∧ 
    exl 63 [.int .i64, .int .i64] (List.replicate (f_Purses : Int).toNat (0, 0) : List (Int × Int)) σ18 (fun A20 l20 c20 σ21 => 
    exl 3 [.int .i64] (List.replicate (f_Boxes : Int).toNat 0 : List Int) σ21 (fun A22 l22 c22 σ23 => bx σ23 (.cells #[(.slice A16 l16 c16), (.slice A19 l19 c19), (.slice A20 l20 c20), (.slice A22 l22 c22), (.int .i64 0)] 52) (fun b24 σ25 => 
    J3 (some ⟨b24, 0, none⟩) σ25)))) ∧ (0 ≤ f_Boxes ∧ f_Boxes ≤ f_Boxes ∧ f_Boxes ≤ (1000000000 : Int) ∧ 
    exl 63 [.int .i64, .int .i64] (List.replicate (f_Purses : Int).toNat (0, 0) : List (Int × Int)) σ18 (fun A26 l26 c26 σ27 => 
    exl 3 [.int .i64] (List.replicate (f_Boxes : Int).toNat 0 : List Int) σ27 (fun A28 l28 c28 σ29 => bx σ29 (.cells #[(.slice A16 l16 c16), (.slice A19 l19 c19), (.slice A26 l26 c26), (.slice A28 l28 c28), (.int .i64 0)] 52) (fun b30 σ31 => 
    J3 (some ⟨b30, 0, none⟩) σ31)))))) ∧ (0 ≤ f_Boxes ∧ f_Boxes ≤ f_Boxes ∧ f_Boxes ≤ (1000000000 : Int) ∧ 
    ((0 ≤ f_Purses ∧ f_Purses ≤ f_Purses ∧ f_Purses ≤ (1000000000 : Int) ∧ exl 63 [.int .i64, .int .i64] (List.replicate (f_Purses : Int).toNat (0, 0) : List (Int × Int)) σ18 (fun A32 l32 c32 σ33 => 
    exl 3 [.int .i64] (List.replicate (f_Boxes : Int).toNat 0 : List Int) σ33 (fun A34 l34 c34 σ35 => bx σ35 (.cells #[(.slice A16 l16 c16), (.slice A19 l19 c19), (.slice A32 l32 c32), (.slice A34 l34 c34), (.int .i64 0)] 52) (fun b36 σ37 => 
    J3 (some ⟨b36, 0, none⟩) σ37)))) ∧ (0 ≤ f_Purses ∧ f_Purses ≤ f_Purses ∧ f_Purses ≤ (1000000000 : Int) ∧ 
    exl 63 [.int .i64, .int .i64] (List.replicate (f_Purses : Int).toNat (0, 0) : List (Int × Int)) σ18 (fun A38 l38 c38 σ39 => 
    exl 3 [.int .i64] (List.replicate (f_Boxes : Int).toNat 0 : List Int) σ39 (fun A40 l40 c40 σ41 => bx σ41 (.cells #[(.slice A16 l16 c16), (.slice A19 l19 c19), (.slice A38 l38 c38), (.slice A40 l40 c40), (.int .i64 0)] 52) (fun b42 σ43 => 
    J3 (some ⟨b42, 0, none⟩) σ43)))))) ∧ ((0 ≤ f_Purses ∧ f_Purses ≤ f_Purses ∧ f_Purses ≤ (1000000000 : Int) ∧ 
    (0 ≤ f_Boxes ∧ f_Boxes ≤ f_Boxes ∧ f_Boxes ≤ (1000000000 : Int) ∧ exl 63 [.int .i64, .int .i64] (List.replicate (f_Purses : Int).toNat (0, 0) : List (Int × Int)) σ18 (fun A44 l44 c44 σ45 => 
    exl 3 [.int .i64] (List.replicate (f_Boxes : Int).toNat 0 : List Int) σ45 (fun A46 l46 c46 σ47 => bx σ47 (.cells #[(.slice A16 l16 c16), (.slice A19 l19 c19), (.slice A44 l44 c44), (.slice A46 l46 c46), (.int .i64 0)] 52) (fun b48 σ49 => 
    J3 (some ⟨b48, 0, none⟩) σ49))))) ∧ (0 ≤ f_Boxes ∧ f_Boxes ≤ f_Boxes ∧ f_Boxes ≤ (1000000000 : Int) ∧ 
    (0 ≤ f_Purses ∧ f_Purses ≤ f_Purses ∧ f_Purses ≤ (1000000000 : Int) ∧ exl 63 [.int .i64, .int .i64] (List.replicate (f_Purses : Int).toNat (0, 0) : List (Int × Int)) σ18 (fun A50 l50 c50 σ51 => 
    exl 3 [.int .i64] (List.replicate (f_Boxes : Int).toNat 0 : List Int) σ51 (fun A52 l52 c52 σ53 => bx σ53 (.cells #[(.slice A16 l16 c16), (.slice A19 l19 c19), (.slice A50 l50 c50), (.slice A52 l52 c52), (.int .i64 0)] 52) (fun b54 σ55 => 
    J3 (some ⟨b54, 0, none⟩) σ55))))))))))) ∧ (0 ≤ f_Purses ∧ f_Purses ≤ f_Purses ∧ f_Purses ≤ (1000000000 : Int) ∧ 
    ((cl Tryz.prog (.func (.func 92) #[] #[]) #[(.slice f_Cash_A f_Cash_n f_Cash_c)] σ15 (fun v56 σ57 => 
    ∃ A58 : Option Addr, ∃ l58 : Nat, ∃ c58 : Nat, (v56 = (.slice A58 l58 c58) ∧ (Hp.Sub σ15 σ57 ∧ ((0 ≤ f_Boxes ∧ 
    f_Boxes ≤ f_Boxes ∧ f_Boxes ≤ (1000000000 : Int) ∧ exl 63 [.int .i64, .int .i64] (List.replicate (f_Purses : Int).toNat (0, 0) : List (Int × Int)) σ57 (fun A59 l59 c59 σ60 => 
    exl 3 [.int .i64] (List.replicate (f_Boxes : Int).toNat 0 : List Int) σ60 (fun A61 l61 c61 σ62 => bx σ62 (.cells #[(.slice A16 l16 c16), (.slice A58 l58 c58), (.slice A59 l59 c59), (.slice A61 l61 c61), (.int .i64 0)] 52) (fun b63 σ64 => 
    J3 (some ⟨b63, 0, none⟩) σ64)))) ∧ (0 ≤ f_Boxes ∧ f_Boxes ≤ f_Boxes ∧ f_Boxes ≤ (1000000000 : Int) ∧ 
    exl 63 [.int .i64, .int .i64] (List.replicate (f_Purses : Int).toNat (0, 0) : List (Int × Int)) σ57 (fun A65 l65 c65 σ66 => 
    exl 3 [.int .i64] (List.replicate (f_Boxes : Int).toNat 0 : List Int) σ66 (fun A67 l67 c67 σ68 => bx σ68 (.cells #[(.slice A16 l16 c16), (.slice A58 l58 c58), (.slice A65 l65 c65), (.slice A67 l67 c67), (.int .i64 0)] 52) (fun b69 σ70 => 
    J3 (some ⟨b69, 0, none⟩) σ70))))))))) ∧ (0 ≤ f_Boxes ∧ f_Boxes ≤ f_Boxes ∧ f_Boxes ≤ (1000000000 : Int) ∧ 
    ((cl Tryz.prog (.func (.func 92) #[] #[]) #[(.slice f_Cash_A f_Cash_n f_Cash_c)] σ15 (fun v71 σ72 => 
    ∃ A73 : Option Addr, ∃ l73 : Nat, ∃ c73 : Nat, (v71 = (.slice A73 l73 c73) ∧ (Hp.Sub σ15 σ72 ∧ exl 63 [.int .i64, .int .i64] (List.replicate (f_Purses : Int).toNat (0, 0) : List (Int × Int)) σ72 (fun A74 l74 c74 σ75 => 
    exl 3 [.int .i64] (List.replicate (f_Boxes : Int).toNat 0 : List Int) σ75 (fun A76 l76 c76 σ77 => bx σ77 (.cells #[(.slice A16 l16 c16), (.slice A73 l73 c73), (.slice A74 l74 c74), (.slice A76 l76 c76), (.int .i64 0)] 52) (fun b78 σ79 => 
    J3 (some ⟨b78, 0, none⟩) σ79))))))) ∧ (cl Tryz.prog (.func (.func 92) #[] #[]) #[(.slice f_Cash_A f_Cash_n f_Cash_c)] σ15 (fun v80 σ81 => 
    ∃ A82 : Option Addr, ∃ l82 : Nat, ∃ c82 : Nat, (v80 = (.slice A82 l82 c82) ∧ (Hp.Sub σ15 σ81 ∧ exl 63 [.int .i64, .int .i64] (List.replicate (f_Purses : Int).toNat (0, 0) : List (Int × Int)) σ81 (fun A83 l83 c83 σ84 => 
    exl 3 [.int .i64] (List.replicate (f_Boxes : Int).toNat 0 : List Int) σ84 (fun A85 l85 c85 σ86 => bx σ86 (.cells #[(.slice A16 l16 c16), (.slice A82 l82 c82), (.slice A83 l83 c83), (.slice A85 l85 c85), (.int .i64 0)] 52) (fun b87 σ88 => 
    J3 (some ⟨b87, 0, none⟩) σ88))))))))) ∧ ((cl Tryz.prog (.func (.func 92) #[] #[]) #[(.slice f_Cash_A f_Cash_n f_Cash_c)] σ15 (fun v89 σ90 => 
    ∃ A91 : Option Addr, ∃ l91 : Nat, ∃ c91 : Nat, (v89 = (.slice A91 l91 c91) ∧ (Hp.Sub σ15 σ90 ∧ (0 ≤ f_Boxes ∧ 
    f_Boxes ≤ f_Boxes ∧ f_Boxes ≤ (1000000000 : Int) ∧ exl 63 [.int .i64, .int .i64] (List.replicate (f_Purses : Int).toNat (0, 0) : List (Int × Int)) σ90 (fun A92 l92 c92 σ93 => 
    exl 3 [.int .i64] (List.replicate (f_Boxes : Int).toNat 0 : List Int) σ93 (fun A94 l94 c94 σ95 => bx σ95 (.cells #[(.slice A16 l16 c16), (.slice A91 l91 c91), (.slice A92 l92 c92), (.slice A94 l94 c94), (.int .i64 0)] 52) (fun b96 σ97 => 
    J3 (some ⟨b96, 0, none⟩) σ97)))))))) ∧ (0 ≤ f_Boxes ∧ f_Boxes ≤ f_Boxes ∧ f_Boxes ≤ (1000000000 : Int) ∧ 
    cl Tryz.prog (.func (.func 92) #[] #[]) #[(.slice f_Cash_A f_Cash_n f_Cash_c)] σ15 (fun v98 σ99 => ∃ A100 : Option Addr, ∃ l100 : Nat, ∃ c100 : Nat, (v98 = (.slice A100 l100 c100) ∧ 
    (Hp.Sub σ15 σ99 ∧ exl 63 [.int .i64, .int .i64] (List.replicate (f_Purses : Int).toNat (0, 0) : List (Int × Int)) σ99 (fun A101 l101 c101 σ102 => 
    exl 3 [.int .i64] (List.replicate (f_Boxes : Int).toNat 0 : List Int) σ102 (fun A103 l103 c103 σ104 => 
    bx σ104 (.cells #[(.slice A16 l16 c16), (.slice A100 l100 c100), (.slice A101 l101 c101), (.slice A103 l103 c103), (.int .i64 0)] 52) (fun b105 σ106 => 
    J3 (some ⟨b105, 0, none⟩) σ106)))))))))) ∧ (0 ≤ f_Boxes ∧ f_Boxes ≤ f_Boxes ∧ f_Boxes ≤ (1000000000 : Int) ∧ 
    ((cl Tryz.prog (.func (.func 92) #[] #[]) #[(.slice f_Cash_A f_Cash_n f_Cash_c)] σ15 (fun v107 σ108 => 
    ∃ A109 : Option Addr, ∃ l109 : Nat, ∃ c109 : Nat, (v107 = (.slice A109 l109 c109) ∧ (Hp.Sub σ15 σ108 ∧ 
    ((0 ≤ f_Purses ∧ f_Purses ≤ f_Purses ∧ f_Purses ≤ (1000000000 : Int) ∧ exl 63 [.int .i64, .int .i64] (List.replicate (f_Purses : Int).toNat (0, 0) : List (Int × Int)) σ108 (fun A110 l110 c110 σ111 => 
    exl 3 [.int .i64] (List.replicate (f_Boxes : Int).toNat 0 : List Int) σ111 (fun A112 l112 c112 σ113 => 
    bx σ113 (.cells #[(.slice A16 l16 c16), (.slice A109 l109 c109), (.slice A110 l110 c110), (.slice A112 l112 c112), (.int .i64 0)] 52) (fun b114 σ115 => 
    J3 (some ⟨b114, 0, none⟩) σ115)))) ∧ (0 ≤ f_Purses ∧ f_Purses ≤ f_Purses ∧ f_Purses ≤ (1000000000 : Int) ∧ 
    exl 63 [.int .i64, .int .i64] (List.replicate (f_Purses : Int).toNat (0, 0) : List (Int × Int)) σ108 (fun A116 l116 c116 σ117 => 
    exl 3 [.int .i64] (List.replicate (f_Boxes : Int).toNat 0 : List Int) σ117 (fun A118 l118 c118 σ119 => 
    bx σ119 (.cells #[(.slice A16 l16 c16), (.slice A109 l109 c109), (.slice A116 l116 c116), (.slice A118 l118 c118), (.int .i64 0)] 52) (fun b120 σ121 => 
    J3 (some ⟨b120, 0, none⟩) σ121))))))))) ∧ (0 ≤ f_Purses ∧ f_Purses ≤ f_Purses ∧ f_Purses ≤ (1000000000 : Int) ∧ 
    ((cl Tryz.prog (.func (.func 92) #[] #[]) #[(.slice f_Cash_A f_Cash_n f_Cash_c)] σ15 (fun v122 σ123 => 
    ∃ A124 : Option Addr, ∃ l124 : Nat, ∃ c124 : Nat, (v122 = (.slice A124 l124 c124) ∧ (Hp.Sub σ15 σ123 ∧ 
    exl 63 [.int .i64, .int .i64] (List.replicate (f_Purses : Int).toNat (0, 0) : List (Int × Int)) σ123 (fun A125 l125 c125 σ126 => 
    exl 3 [.int .i64] (List.replicate (f_Boxes : Int).toNat 0 : List Int) σ126 (fun A127 l127 c127 σ128 => 
    bx σ128 (.cells #[(.slice A16 l16 c16), (.slice A124 l124 c124), (.slice A125 l125 c125), (.slice A127 l127 c127), (.int .i64 0)] 52) (fun b129 σ130 => 
    J3 (some ⟨b129, 0, none⟩) σ130))))))) ∧ (cl Tryz.prog (.func (.func 92) #[] #[]) #[(.slice f_Cash_A f_Cash_n f_Cash_c)] σ15 (fun v131 σ132 => 
    ∃ A133 : Option Addr, ∃ l133 : Nat, ∃ c133 : Nat, (v131 = (.slice A133 l133 c133) ∧ (Hp.Sub σ15 σ132 ∧ 
    exl 63 [.int .i64, .int .i64] (List.replicate (f_Purses : Int).toNat (0, 0) : List (Int × Int)) σ132 (fun A134 l134 c134 σ135 => 
    exl 3 [.int .i64] (List.replicate (f_Boxes : Int).toNat 0 : List Int) σ135 (fun A136 l136 c136 σ137 => 
    bx σ137 (.cells #[(.slice A16 l16 c16), (.slice A133 l133 c133), (.slice A134 l134 c134), (.slice A136 l136 c136), (.int .i64 0)] 52) (fun b138 σ139 => 
    J3 (some ⟨b138, 0, none⟩) σ139))))))))) ∧ ((cl Tryz.prog (.func (.func 92) #[] #[]) #[(.slice f_Cash_A f_Cash_n f_Cash_c)] σ15 (fun v140 σ141 => 
    ∃ A142 : Option Addr, ∃ l142 : Nat, ∃ c142 : Nat, (v140 = (.slice A142 l142 c142) ∧ (Hp.Sub σ15 σ141 ∧ 
    (0 ≤ f_Purses ∧ f_Purses ≤ f_Purses ∧ f_Purses ≤ (1000000000 : Int) ∧ exl 63 [.int .i64, .int .i64] (List.replicate (f_Purses : Int).toNat (0, 0) : List (Int × Int)) σ141 (fun A143 l143 c143 σ144 => 
    exl 3 [.int .i64] (List.replicate (f_Boxes : Int).toNat 0 : List Int) σ144 (fun A145 l145 c145 σ146 => 
    bx σ146 (.cells #[(.slice A16 l16 c16), (.slice A142 l142 c142), (.slice A143 l143 c143), (.slice A145 l145 c145), (.int .i64 0)] 52) (fun b147 σ148 => 
    J3 (some ⟨b147, 0, none⟩) σ148)))))))) ∧ (0 ≤ f_Purses ∧ f_Purses ≤ f_Purses ∧ f_Purses ≤ (1000000000 : Int) ∧ 
    cl Tryz.prog (.func (.func 92) #[] #[]) #[(.slice f_Cash_A f_Cash_n f_Cash_c)] σ15 (fun v149 σ150 => 
    ∃ A151 : Option Addr, ∃ l151 : Nat, ∃ c151 : Nat, (v149 = (.slice A151 l151 c151) ∧ (Hp.Sub σ15 σ150 ∧ 
    exl 63 [.int .i64, .int .i64] (List.replicate (f_Purses : Int).toNat (0, 0) : List (Int × Int)) σ150 (fun A152 l152 c152 σ153 => 
    exl 3 [.int .i64] (List.replicate (f_Boxes : Int).toNat 0 : List Int) σ153 (fun A154 l154 c154 σ155 => 
    bx σ155 (.cells #[(.slice A16 l16 c16), (.slice A151 l151 c151), (.slice A152 l152 c152), (.slice A154 l154 c154), (.int .i64 0)] 52) (fun b156 σ157 => 
    J3 (some ⟨b156, 0, none⟩) σ157)))))))))) ∧ ((cl Tryz.prog (.func (.func 92) #[] #[]) #[(.slice f_Cash_A f_Cash_n f_Cash_c)] σ15 (fun v158 σ159 => 
    ∃ A160 : Option Addr, ∃ l160 : Nat, ∃ c160 : Nat, (v158 = (.slice A160 l160 c160) ∧ (Hp.Sub σ15 σ159 ∧ 
    ((0 ≤ f_Purses ∧ f_Purses ≤ f_Purses ∧ f_Purses ≤ (1000000000 : Int) ∧ (0 ≤ f_Boxes ∧ f_Boxes ≤ f_Boxes ∧ 
    f_Boxes ≤ (1000000000 : Int) ∧ exl 63 [.int .i64, .int .i64] (List.replicate (f_Purses : Int).toNat (0, 0) : List (Int × Int)) σ159 (fun A161 l161 c161 σ162 => 
    exl 3 [.int .i64] (List.replicate (f_Boxes : Int).toNat 0 : List Int) σ162 (fun A163 l163 c163 σ164 => 
    bx σ164 (.cells #[(.slice A16 l16 c16), (.slice A160 l160 c160), (.slice A161 l161 c161), (.slice A163 l163 c163), (.int .i64 0)] 52) (fun b165 σ166 => 
    J3 (some ⟨b165, 0, none⟩) σ166))))) ∧ (0 ≤ f_Boxes ∧ f_Boxes ≤ f_Boxes ∧ f_Boxes ≤ (1000000000 : Int) ∧ 
    (0 ≤ f_Purses ∧ f_Purses ≤ f_Purses ∧ f_Purses ≤ (1000000000 : Int) ∧ exl 63 [.int .i64, .int .i64] (List.replicate (f_Purses : Int).toNat (0, 0) : List (Int × Int)) σ159 (fun A167 l167 c167 σ168 => 
    exl 3 [.int .i64] (List.replicate (f_Boxes : Int).toNat 0 : List Int) σ168 (fun A169 l169 c169 σ170 => 
    bx σ170 (.cells #[(.slice A16 l16 c16), (.slice A160 l160 c160), (.slice A167 l167 c167), (.slice A169 l169 c169), (.int .i64 0)] 52) (fun b171 σ172 => 
    J3 (some ⟨b171, 0, none⟩) σ172)))))))))) ∧ (0 ≤ f_Purses ∧ f_Purses ≤ f_Purses ∧ f_Purses ≤ (1000000000 : Int) ∧ 
    ((cl Tryz.prog (.func (.func 92) #[] #[]) #[(.slice f_Cash_A f_Cash_n f_Cash_c)] σ15 (fun v173 σ174 => 
    ∃ A175 : Option Addr, ∃ l175 : Nat, ∃ c175 : Nat, (v173 = (.slice A175 l175 c175) ∧ (Hp.Sub σ15 σ174 ∧ 
    (0 ≤ f_Boxes ∧ f_Boxes ≤ f_Boxes ∧ f_Boxes ≤ (1000000000 : Int) ∧ exl 63 [.int .i64, .int .i64] (List.replicate (f_Purses : Int).toNat (0, 0) : List (Int × Int)) σ174 (fun A176 l176 c176 σ177 => 
    exl 3 [.int .i64] (List.replicate (f_Boxes : Int).toNat 0 : List Int) σ177 (fun A178 l178 c178 σ179 => 
    bx σ179 (.cells #[(.slice A16 l16 c16), (.slice A175 l175 c175), (.slice A176 l176 c176), (.slice A178 l178 c178), (.int .i64 0)] 52) (fun b180 σ181 => 
    J3 (some ⟨b180, 0, none⟩) σ181)))))))) ∧ (0 ≤ f_Boxes ∧ f_Boxes ≤ f_Boxes ∧ f_Boxes ≤ (1000000000 : Int) ∧ 
    cl Tryz.prog (.func (.func 92) #[] #[]) #[(.slice f_Cash_A f_Cash_n f_Cash_c)] σ15 (fun v182 σ183 => 
    ∃ A184 : Option Addr, ∃ l184 : Nat, ∃ c184 : Nat, (v182 = (.slice A184 l184 c184) ∧ (Hp.Sub σ15 σ183 ∧ 
    exl 63 [.int .i64, .int .i64] (List.replicate (f_Purses : Int).toNat (0, 0) : List (Int × Int)) σ183 (fun A185 l185 c185 σ186 => 
    exl 3 [.int .i64] (List.replicate (f_Boxes : Int).toNat 0 : List Int) σ186 (fun A187 l187 c187 σ188 => 
    bx σ188 (.cells #[(.slice A16 l16 c16), (.slice A184 l184 c184), (.slice A185 l185 c185), (.slice A187 l187 c187), (.int .i64 0)] 52) (fun b189 σ190 => 
    J3 (some ⟨b189, 0, none⟩) σ190))))))))) ∧ (0 ≤ f_Boxes ∧ f_Boxes ≤ f_Boxes ∧ f_Boxes ≤ (1000000000 : Int) ∧ 
    ((cl Tryz.prog (.func (.func 92) #[] #[]) #[(.slice f_Cash_A f_Cash_n f_Cash_c)] σ15 (fun v191 σ192 => 
    ∃ A193 : Option Addr, ∃ l193 : Nat, ∃ c193 : Nat, (v191 = (.slice A193 l193 c193) ∧ (Hp.Sub σ15 σ192 ∧ 
    (0 ≤ f_Purses ∧ f_Purses ≤ f_Purses ∧ f_Purses ≤ (1000000000 : Int) ∧ exl 63 [.int .i64, .int .i64] (List.replicate (f_Purses : Int).toNat (0, 0) : List (Int × Int)) σ192 (fun A194 l194 c194 σ195 => 
    exl 3 [.int .i64] (List.replicate (f_Boxes : Int).toNat 0 : List Int) σ195 (fun A196 l196 c196 σ197 => 
    bx σ197 (.cells #[(.slice A16 l16 c16), (.slice A193 l193 c193), (.slice A194 l194 c194), (.slice A196 l196 c196), (.int .i64 0)] 52) (fun b198 σ199 => 
    J3 (some ⟨b198, 0, none⟩) σ199)))))))) ∧ (0 ≤ f_Purses ∧ f_Purses ≤ f_Purses ∧ f_Purses ≤ (1000000000 : Int) ∧ 
    cl Tryz.prog (.func (.func 92) #[] #[]) #[(.slice f_Cash_A f_Cash_n f_Cash_c)] σ15 (fun v200 σ201 => 
    ∃ A202 : Option Addr, ∃ l202 : Nat, ∃ c202 : Nat, (v200 = (.slice A202 l202 c202) ∧ (Hp.Sub σ15 σ201 ∧ 
    exl 63 [.int .i64, .int .i64] (List.replicate (f_Purses : Int).toNat (0, 0) : List (Int × Int)) σ201 (fun A203 l203 c203 σ204 => 
    exl 3 [.int .i64] (List.replicate (f_Boxes : Int).toNat 0 : List Int) σ204 (fun A205 l205 c205 σ206 => 
    bx σ206 (.cells #[(.slice A16 l16 c16), (.slice A202 l202 c202), (.slice A203 l203 c203), (.slice A205 l205 c205), (.int .i64 0)] 52) (fun b207 σ208 => 
    J3 (some ⟨b207, 0, none⟩) σ208))))))))))))))) ∧ (0 ≤ f_Purses ∧ f_Purses ≤ f_Purses ∧ f_Purses ≤ (1000000000 : Int) ∧ 
    ((cl Tryz.prog (.func (.func 92) #[] #[]) #[(.slice f_Stock_A f_Stock_n f_Stock_c)] σ (fun v209 σ210 => 
    ∃ A211 : Option Addr, ∃ l211 : Nat, ∃ c211 : Nat, (v209 = (.slice A211 l211 c211) ∧ (Hp.Sub σ σ210 ∧ 
    ((cl Tryz.prog (.func (.func 92) #[] #[]) #[(.slice f_Cash_A f_Cash_n f_Cash_c)] σ210 (fun v212 σ213 => 
    ∃ A214 : Option Addr, ∃ l214 : Nat, ∃ c214 : Nat, (v212 = (.slice A214 l214 c214) ∧ (Hp.Sub σ210 σ213 ∧ 
    ((0 ≤ f_Boxes ∧ f_Boxes ≤ f_Boxes ∧ f_Boxes ≤ (1000000000 : Int) ∧ exl 63 [.int .i64, .int .i64] (List.replicate (f_Purses : Int).toNat (0, 0) : List (Int × Int)) σ213 (fun A215 l215 c215 σ216 => 
    exl 3 [.int .i64] (List.replicate (f_Boxes : Int).toNat 0 : List Int) σ216 (fun A217 l217 c217 σ218 => 
    bx σ218 (.cells #[(.slice A211 l211 c211), (.slice A214 l214 c214), (.slice A215 l215 c215), (.slice A217 l217 c217), (.int .i64 0)] 52) (fun b219 σ220 => 
    J3 (some ⟨b219, 0, none⟩) σ220)))) ∧ (0 ≤ f_Boxes ∧ f_Boxes ≤ f_Boxes ∧ f_Boxes ≤ (1000000000 : Int) ∧ 
    exl 63 [.int .i64, .int .i64] (List.replicate (f_Purses : Int).toNat (0, 0) : List (Int × Int)) σ213 (fun A221 l221 c221 σ222 => 
    exl 3 [.int .i64] (List.replicate (f_Boxes : Int).toNat 0 : List Int) σ222 (fun A223 l223 c223 σ224 => 
    bx σ224 (.cells #[(.slice A211 l211 c211), (.slice A214 l214 c214), (.slice A221 l221 c221), (.slice A223 l223 c223), (.int .i64 0)] 52) (fun b225 σ226 => 
    J3 (some ⟨b225, 0, none⟩) σ226))))))))) ∧ (0 ≤ f_Boxes ∧ f_Boxes ≤ f_Boxes ∧ f_Boxes ≤ (1000000000 : Int) ∧ 
    ((cl Tryz.prog (.func (.func 92) #[] #[]) #[(.slice f_Cash_A f_Cash_n f_Cash_c)] σ210 (fun v227 σ228 => 
    ∃ A229 : Option Addr, ∃ l229 : Nat, ∃ c229 : Nat, (v227 = (.slice A229 l229 c229) ∧ (Hp.Sub σ210 σ228 ∧ 
    exl 63 [.int .i64, .int .i64] (List.replicate (f_Purses : Int).toNat (0, 0) : List (Int × Int)) σ228 (fun A230 l230 c230 σ231 => 
    exl 3 [.int .i64] (List.replicate (f_Boxes : Int).toNat 0 : List Int) σ231 (fun A232 l232 c232 σ233 => 
    bx σ233 (.cells #[(.slice A211 l211 c211), (.slice A229 l229 c229), (.slice A230 l230 c230), (.slice A232 l232 c232), (.int .i64 0)] 52) (fun b234 σ235 => 
    J3 (some ⟨b234, 0, none⟩) σ235))))))) ∧ (cl Tryz.prog (.func (.func 92) #[] #[]) #[(.slice f_Cash_A f_Cash_n f_Cash_c)] σ210 (fun v236 σ237 => 
    ∃ A238 : Option Addr, ∃ l238 : Nat, ∃ c238 : Nat, (v236 = (.slice A238 l238 c238) ∧ (Hp.Sub σ210 σ237 ∧ 
    exl 63 [.int .i64, .int .i64] (List.replicate (f_Purses : Int).toNat (0, 0) : List (Int × Int)) σ237 (fun A239 l239 c239 σ240 => 
    exl 3 [.int .i64] (List.replicate (f_Boxes : Int).toNat 0 : List Int) σ240 (fun A241 l241 c241 σ242 => 
    bx σ242 (.cells #[(.slice A211 l211 c211), (.slice A238 l238 c238), (.slice A239 l239 c239), (.slice A241 l241 c241), (.int .i64 0)] 52) (fun b243 σ244 => 
    J3 (some ⟨b243, 0, none⟩) σ244))))))))) ∧ ((cl Tryz.prog (.func (.func 92) #[] #[]) #[(.slice f_Cash_A f_Cash_n f_Cash_c)] σ210 (fun v245 σ246 => 
    ∃ A247 : Option Addr, ∃ l247 : Nat, ∃ c247 : Nat, (v245 = (.slice A247 l247 c247) ∧ (Hp.Sub σ210 σ246 ∧ 
    (0 ≤ f_Boxes ∧ f_Boxes ≤ f_Boxes ∧ f_Boxes ≤ (1000000000 : Int) ∧ exl 63 [.int .i64, .int .i64] (List.replicate (f_Purses : Int).toNat (0, 0) : List (Int × Int)) σ246 (fun A248 l248 c248 σ249 => 
    exl 3 [.int .i64] (List.replicate (f_Boxes : Int).toNat 0 : List Int) σ249 (fun A250 l250 c250 σ251 => 
    bx σ251 (.cells #[(.slice A211 l211 c211), (.slice A247 l247 c247), (.slice A248 l248 c248), (.slice A250 l250 c250), (.int .i64 0)] 52) (fun b252 σ253 => 
    J3 (some ⟨b252, 0, none⟩) σ253)))))))) ∧ (0 ≤ f_Boxes ∧ f_Boxes ≤ f_Boxes ∧ f_Boxes ≤ (1000000000 : Int) ∧ 
    cl Tryz.prog (.func (.func 92) #[] #[]) #[(.slice f_Cash_A f_Cash_n f_Cash_c)] σ210 (fun v254 σ255 => 
    ∃ A256 : Option Addr, ∃ l256 : Nat, ∃ c256 : Nat, (v254 = (.slice A256 l256 c256) ∧ (Hp.Sub σ210 σ255 ∧ 
    exl 63 [.int .i64, .int .i64] (List.replicate (f_Purses : Int).toNat (0, 0) : List (Int × Int)) σ255 (fun A257 l257 c257 σ258 => 
    exl 3 [.int .i64] (List.replicate (f_Boxes : Int).toNat 0 : List Int) σ258 (fun A259 l259 c259 σ260 => 
    bx σ260 (.cells #[(.slice A211 l211 c211), (.slice A256 l256 c256), (.slice A257 l257 c257), (.slice A259 l259 c259), (.int .i64 0)] 52) (fun b261 σ262 => 
    J3 (some ⟨b261, 0, none⟩) σ262))))))))))))) ∧ (0 ≤ f_Boxes ∧ f_Boxes ≤ f_Boxes ∧ f_Boxes ≤ (1000000000 : Int) ∧ 
    ((cl Tryz.prog (.func (.func 92) #[] #[]) #[(.slice f_Stock_A f_Stock_n f_Stock_c)] σ (fun v263 σ264 => 
    ∃ A265 : Option Addr, ∃ l265 : Nat, ∃ c265 : Nat, (v263 = (.slice A265 l265 c265) ∧ (Hp.Sub σ σ264 ∧ 
    ((cl Tryz.prog (.func (.func 92) #[] #[]) #[(.slice f_Cash_A f_Cash_n f_Cash_c)] σ264 (fun v266 σ267 => 
    ∃ A268 : Option Addr, ∃ l268 : Nat, ∃ c268 : Nat, (v266 = (.slice A268 l268 c268) ∧ (Hp.Sub σ264 σ267 ∧ 
    exl 63 [.int .i64, .int .i64] (List.replicate (f_Purses : Int).toNat (0, 0) : List (Int × Int)) σ267 (fun A269 l269 c269 σ270 => 
    exl 3 [.int .i64] (List.replicate (f_Boxes : Int).toNat 0 : List Int) σ270 (fun A271 l271 c271 σ272 => 
    bx σ272 (.cells #[(.slice A265 l265 c265), (.slice A268 l268 c268), (.slice A269 l269 c269), (.slice A271 l271 c271), (.int .i64 0)] 52) (fun b273 σ274 => 
    J3 (some ⟨b273, 0, none⟩) σ274))))))) ∧ (cl Tryz.prog (.func (.func 92) #[] #[]) #[(.slice f_Cash_A f_Cash_n f_Cash_c)] σ264 (fun v275 σ276 => 
    ∃ A277 : Option Addr, ∃ l277 : Nat, ∃ c277 : Nat, (v275 = (.slice A277 l277 c277) ∧ (Hp.Sub σ264 σ276 ∧ 
    exl 63 [.int .i64, .int .i64] (List.replicate (f_Purses : Int).toNat (0, 0) : List (Int × Int)) σ276 (fun A278 l278 c278 σ279 => 
    exl 3 [.int .i64] (List.replicate (f_Boxes : Int).toNat 0 : List Int) σ279 (fun A280 l280 c280 σ281 => 
    bx σ281 (.cells #[(.slice A265 l265 c265), (.slice A277 l277 c277), (.slice A278 l278 c278), (.slice A280 l280 c280), (.int .i64 0)] 52) (fun b282 σ283 => 
    J3 (some ⟨b282, 0, none⟩) σ283)))))))))))) ∧ (cl Tryz.prog (.func (.func 92) #[] #[]) #[(.slice f_Stock_A f_Stock_n f_Stock_c)] σ (fun v284 σ285 => 
    ∃ A286 : Option Addr, ∃ l286 : Nat, ∃ c286 : Nat, (v284 = (.slice A286 l286 c286) ∧ (Hp.Sub σ σ285 ∧ 
    cl Tryz.prog (.func (.func 92) #[] #[]) #[(.slice f_Cash_A f_Cash_n f_Cash_c)] σ285 (fun v287 σ288 => 
    ∃ A289 : Option Addr, ∃ l289 : Nat, ∃ c289 : Nat, (v287 = (.slice A289 l289 c289) ∧ (Hp.Sub σ285 σ288 ∧ 
    exl 63 [.int .i64, .int .i64] (List.replicate (f_Purses : Int).toNat (0, 0) : List (Int × Int)) σ288 (fun A290 l290 c290 σ291 => 
    exl 3 [.int .i64] (List.replicate (f_Boxes : Int).toNat 0 : List Int) σ291 (fun A292 l292 c292 σ293 => 
    bx σ293 (.cells #[(.slice A286 l286 c286), (.slice A289 l289 c289), (.slice A290 l290 c290), (.slice A292 l292 c292), (.int .i64 0)] 52) (fun b294 σ295 => 
    J3 (some ⟨b294, 0, none⟩) σ295)))))))))))) ∧ ((cl Tryz.prog (.func (.func 92) #[] #[]) #[(.slice f_Stock_A f_Stock_n f_Stock_c)] σ (fun v296 σ297 => 
    ∃ A298 : Option Addr, ∃ l298 : Nat, ∃ c298 : Nat, (v296 = (.slice A298 l298 c298) ∧ (Hp.Sub σ σ297 ∧ 
    ((cl Tryz.prog (.func (.func 92) #[] #[]) #[(.slice f_Cash_A f_Cash_n f_Cash_c)] σ297 (fun v299 σ300 => 
    ∃ A301 : Option Addr, ∃ l301 : Nat, ∃ c301 : Nat, (v299 = (.slice A301 l301 c301) ∧ (Hp.Sub σ297 σ300 ∧ 
    (0 ≤ f_Boxes ∧ f_Boxes ≤ f_Boxes ∧ f_Boxes ≤ (1000000000 : Int) ∧ exl 63 [.int .i64, .int .i64] (List.replicate (f_Purses : Int).toNat (0, 0) : List (Int × Int)) σ300 (fun A302 l302 c302 σ303 => 
    exl 3 [.int .i64] (List.replicate (f_Boxes : Int).toNat 0 : List Int) σ303 (fun A304 l304 c304 σ305 => 
    bx σ305 (.cells #[(.slice A298 l298 c298), (.slice A301 l301 c301), (.slice A302 l302 c302), (.slice A304 l304 c304), (.int .i64 0)] 52) (fun b306 σ307 => 
    J3 (some ⟨b306, 0, none⟩) σ307)))))))) ∧ (0 ≤ f_Boxes ∧ f_Boxes ≤ f_Boxes ∧ f_Boxes ≤ (1000000000 : Int) ∧ 
    cl Tryz.prog (.func (.func 92) #[] #[]) #[(.slice f_Cash_A f_Cash_n f_Cash_c)] σ297 (fun v308 σ309 => 
    ∃ A310 : Option Addr, ∃ l310 : Nat, ∃ c310 : Nat, (v308 = (.slice A310 l310 c310) ∧ (Hp.Sub σ297 σ309 ∧ 
    exl 63 [.int .i64, .int .i64] (List.replicate (f_Purses : Int).toNat (0, 0) : List (Int × Int)) σ309 (fun A311 l311 c311 σ312 => 
    exl 3 [.int .i64] (List.replicate (f_Boxes : Int).toNat 0 : List Int) σ312 (fun A313 l313 c313 σ314 => 
    bx σ314 (.cells #[(.slice A298 l298 c298), (.slice A310 l310 c310), (.slice A311 l311 c311), (.slice A313 l313 c313), (.int .i64 0)] 52) (fun b315 σ316 => 
    J3 (some ⟨b315, 0, none⟩) σ316)))))))))))) ∧ (0 ≤ f_Boxes ∧ f_Boxes ≤ f_Boxes ∧ f_Boxes ≤ (1000000000 : Int) ∧ 
    cl Tryz.prog (.func (.func 92) #[] #[]) #[(.slice f_Stock_A f_Stock_n f_Stock_c)] σ (fun v317 σ318 => 
    ∃ A319 : Option Addr, ∃ l319 : Nat, ∃ c319 : Nat, (v317 = (.slice A319 l319 c319) ∧ (Hp.Sub σ σ318 ∧ 
    cl Tryz.prog (.func (.func 92) #[] #[]) #[(.slice f_Cash_A f_Cash_n f_Cash_c)] σ318 (fun v320 σ321 => 
    ∃ A322 : Option Addr, ∃ l322 : Nat, ∃ c322 : Nat, (v320 = (.slice A322 l322 c322) ∧ (Hp.Sub σ318 σ321 ∧ 
    exl 63 [.int .i64, .int .i64] (List.replicate (f_Purses : Int).toNat (0, 0) : List (Int × Int)) σ321 (fun A323 l323 c323 σ324 => 
    exl 3 [.int .i64] (List.replicate (f_Boxes : Int).toNat 0 : List Int) σ324 (fun A325 l325 c325 σ326 => 
    bx σ326 (.cells #[(.slice A319 l319 c319), (.slice A322 l322 c322), (.slice A323 l323 c323), (.slice A325 l325 c325), (.int .i64 0)] 52) (fun b327 σ328 => 
    J3 (some ⟨b327, 0, none⟩) σ328))))))))))))) ∧ (0 ≤ f_Boxes ∧ f_Boxes ≤ f_Boxes ∧ f_Boxes ≤ (1000000000 : Int) ∧ 
    ((cl Tryz.prog (.func (.func 92) #[] #[]) #[(.slice f_Stock_A f_Stock_n f_Stock_c)] σ (fun v329 σ330 => 
    ∃ A331 : Option Addr, ∃ l331 : Nat, ∃ c331 : Nat, (v329 = (.slice A331 l331 c331) ∧ (Hp.Sub σ σ330 ∧ 
    ((cl Tryz.prog (.func (.func 92) #[] #[]) #[(.slice f_Cash_A f_Cash_n f_Cash_c)] σ330 (fun v332 σ333 => 
    ∃ A334 : Option Addr, ∃ l334 : Nat, ∃ c334 : Nat, (v332 = (.slice A334 l334 c334) ∧ (Hp.Sub σ330 σ333 ∧ 
    ((0 ≤ f_Purses ∧ f_Purses ≤ f_Purses ∧ f_Purses ≤ (1000000000 : Int) ∧ exl 63 [.int .i64, .int .i64] (List.replicate (f_Purses : Int).toNat (0, 0) : List (Int × Int)) σ333 (fun A335 l335 c335 σ336 => 
    exl 3 [.int .i64] (List.replicate (f_Boxes : Int).toNat 0 : List Int) σ336 (fun A337 l337 c337 σ338 => 
    bx σ338 (.cells #[(.slice A331 l331 c331), (.slice A334 l334 c334), (.slice A335 l335 c335), (.slice A337 l337 c337), (.int .i64 0)] 52) (fun b339 σ340 => 
    J3 (some ⟨b339, 0, none⟩) σ340)))) ∧ (0 ≤ f_Purses ∧ f_Purses ≤ f_Purses ∧ f_Purses ≤ (1000000000 : Int) ∧ 
    exl 63 [.int .i64, .int .i64] (List.replicate (f_Purses : Int).toNat (0, 0) : List (Int × Int)) σ333 (fun A341 l341 c341 σ342 => 
    exl 3 [.int .i64] (List.replicate (f_Boxes : Int).toNat 0 : List Int) σ342 (fun A343 l343 c343 σ344 => 
    bx σ344 (.cells #[(.slice A331 l331 c331), (.slice A334 l334 c334), (.slice A341 l341 c341), (.slice A343 l343 c343), (.int .i64 0)] 52) (fun b345 σ346 => 
    J3 (some ⟨b345, 0, none⟩) σ346))))))))) ∧ (0 ≤ f_Purses ∧ f_Purses ≤ f_Purses ∧ f_Purses ≤ (1000000000 : Int) ∧ 
    ((cl Tryz.prog (.func (.func 92) #[] #[]) #[(.slice f_Cash_A f_Cash_n f_Cash_c)] σ330 (fun v347 σ348 => 
    ∃ A349 : Option Addr, ∃ l349 : Nat, ∃ c349 : Nat, (v347 = (.slice A349 l349 c349) ∧ (Hp.Sub σ330 σ348 ∧ 
    exl 63 [.int .i64, .int .i64] (List.replicate (f_Purses : Int).toNat (0, 0) : List (Int × Int)) σ348 (fun A350 l350 c350 σ351 => 
    exl 3 [.int .i64] (List.replicate (f_Boxes : Int).toNat 0 : List Int) σ351 (fun A352 l352 c352 σ353 => 
    bx σ353 (.cells #[(.slice A331 l331 c331), (.slice A349 l349 c349), (.slice A350 l350 c350), (.slice A352 l352 c352), (.int .i64 0)] 52) (fun b354 σ355 => 
    J3 (some ⟨b354, 0, none⟩) σ355))))))) ∧ (cl Tryz.prog (.func (.func 92) #[] #[]) #[(.slice f_Cash_A f_Cash_n f_Cash_c)] σ330 (fun v356 σ357 => 
    ∃ A358 : Option Addr, ∃ l358 : Nat, ∃ c358 : Nat, (v356 = (.slice A358 l358 c358) ∧ (Hp.Sub σ330 σ357 ∧ 
    exl 63 [.int .i64, .int .i64] (List.replicate (f_Purses : Int).toNat (0, 0) : List (Int × Int)) σ357 (fun A359 l359 c359 σ360 => 
    exl 3 [.int .i64] (List.replicate (f_Boxes : Int).toNat 0 : List Int) σ360 (fun A361 l361 c361 σ362 => 
    bx σ362 (.cells #[(.slice A331 l331 c331), (.slice A358 l358 c358), (.slice A359 l359 c359), (.slice A361 l361 c361), (.int .i64 0)] 52) (fun b363 σ364 => 
    J3 (some ⟨b363, 0, none⟩) σ364))))))))) ∧ ((cl Tryz.prog (.func (.func 92) #[] #[]) #[(.slice f_Cash_A f_Cash_n f_Cash_c)] σ330 (fun v365 σ366 => 
    ∃ A367 : Option Addr, ∃ l367 : Nat, ∃ c367 : Nat, (v365 = (.slice A367 l367 c367) ∧ (Hp.Sub σ330 σ366 ∧ 
    (0 ≤ f_Purses ∧ f_Purses ≤ f_Purses ∧ f_Purses ≤ (1000000000 : Int) ∧ exl 63 [.int .i64, .int .i64] (List.replicate (f_Purses : Int).toNat (0, 0) : List (Int × Int)) σ366 (fun A368 l368 c368 σ369 => 
    exl 3 [.int .i64] (List.replicate (f_Boxes : Int).toNat 0 : List Int) σ369 (fun A370 l370 c370 σ371 => 
    bx σ371 (.cells #[(.slice A331 l331 c331), (.slice A367 l367 c367), (.slice A368 l368 c368), (.slice A370 l370 c370), (.int .i64 0)] 52) (fun b372 σ373 => 
    J3 (some ⟨b372, 0, none⟩) σ373)))))))) ∧ (0 ≤ f_Purses ∧ f_Purses ≤ f_Purses ∧ f_Purses ≤ (1000000000 : Int) ∧ 
    cl Tryz.prog (.func (.func 92) #[] #[]) #[(.slice f_Cash_A f_Cash_n f_Cash_c)] σ330 (fun v374 σ375 => 
    ∃ A376 : Option Addr, ∃ l376 : Nat, ∃ c376 : Nat, (v374 = (.slice A376 l376 c376) ∧ (Hp.Sub σ330 σ375 ∧ 
    exl 63 [.int .i64, .int .i64] (List.replicate (f_Purses : Int).toNat (0, 0) : List (Int × Int)) σ375 (fun A377 l377 c377 σ378 => 
    exl 3 [.int .i64] (List.replicate (f_Boxes : Int).toNat 0 : List Int) σ378 (fun A379 l379 c379 σ380 => 
    bx σ380 (.cells #[(.slice A331 l331 c331), (.slice A376 l376 c376), (.slice A377 l377 c377), (.slice A379 l379 c379), (.int .i64 0)] 52) (fun b381 σ382 => 
    J3 (some ⟨b381, 0, none⟩) σ382))))))))))))) ∧ (0 ≤ f_Purses ∧ f_Purses ≤ f_Purses ∧ f_Purses ≤ (1000000000 : Int) ∧ 
    ((cl Tryz.prog (.func (.func 92) #[] #[]) #[(.slice f_Stock_A f_Stock_n f_Stock_c)] σ (fun v383 σ384 => 
    ∃ A385 : Option Addr, ∃ l385 : Nat, ∃ c385 : Nat, (v383 = (.slice A385 l385 c385) ∧ (Hp.Sub σ σ384 ∧ 
    ((cl Tryz.prog (.func (.func 92) #[] #[]) #[(.slice f_Cash_A f_Cash_n f_Cash_c)] σ384 (fun v386 σ387 => 
    ∃ A388 : Option Addr, ∃ l388 : Nat, ∃ c388 : Nat, (v386 = (.slice A388 l388 c388) ∧ (Hp.Sub σ384 σ387 ∧ 
    exl 63 [.int .i64, .int .i64] (List.replicate (f_Purses : Int).toNat (0, 0) : List (Int × Int)) σ387 (fun A389 l389 c389 σ390 => 
    exl 3 [.int .i64] (List.replicate (f_Boxes : Int).toNat 0 : List Int) σ390 (fun A391 l391 c391 σ392 => 
    bx σ392 (.cells #[(.slice A385 l385 c385), (.slice A388 l388 c388), (.slice A389 l389 c389), (.slice A391 l391 c391), (.int .i64 0)] 52) (fun b393 σ394 => 
    J3 (some ⟨b393, 0, none⟩) σ394))))))) ∧ (cl Tryz.prog (.func (.func 92) #[] #[]) #[(.slice f_Cash_A f_Cash_n f_Cash_c)] σ384 (fun v395 σ396 => 
    ∃ A397 : Option Addr, ∃ l397 : Nat, ∃ c397 : Nat, (v395 = (.slice A397 l397 c397) ∧ (Hp.Sub σ384 σ396 ∧ 
    exl 63 [.int .i64, .int .i64] (List.replicate (f_Purses : Int).toNat (0, 0) : List (Int × Int)) σ396 (fun A398 l398 c398 σ399 => 
    exl 3 [.int .i64] (List.replicate (f_Boxes : Int).toNat 0 : List Int) σ399 (fun A400 l400 c400 σ401 => 
    bx σ401 (.cells #[(.slice A385 l385 c385), (.slice A397 l397 c397), (.slice A398 l398 c398), (.slice A400 l400 c400), (.int .i64 0)] 52) (fun b402 σ403 => 
    J3 (some ⟨b402, 0, none⟩) σ403)))))))))))) ∧ (cl Tryz.prog (.func (.func 92) #[] #[]) #[(.slice f_Stock_A f_Stock_n f_Stock_c)] σ (fun v404 σ405 => 
    ∃ A406 : Option Addr, ∃ l406 : Nat, ∃ c406 : Nat, (v404 = (.slice A406 l406 c406) ∧ (Hp.Sub σ σ405 ∧ 
    cl Tryz.prog (.func (.func 92) #[] #[]) #[(.slice f_Cash_A f_Cash_n f_Cash_c)] σ405 (fun v407 σ408 => 
    ∃ A409 : Option Addr, ∃ l409 : Nat, ∃ c409 : Nat, (v407 = (.slice A409 l409 c409) ∧ (Hp.Sub σ405 σ408 ∧ 
    exl 63 [.int .i64, .int .i64] (List.replicate (f_Purses : Int).toNat (0, 0) : List (Int × Int)) σ408 (fun A410 l410 c410 σ411 => 
    exl 3 [.int .i64] (List.replicate (f_Boxes : Int).toNat 0 : List Int) σ411 (fun A412 l412 c412 σ413 => 
    bx σ413 (.cells #[(.slice A406 l406 c406), (.slice A409 l409 c409), (.slice A410 l410 c410), (.slice A412 l412 c412), (.int .i64 0)] 52) (fun b414 σ415 => 
    J3 (some ⟨b414, 0, none⟩) σ415)))))))))))) ∧ ((cl Tryz.prog (.func (.func 92) #[] #[]) #[(.slice f_Stock_A f_Stock_n f_Stock_c)] σ (fun v416 σ417 => 
    ∃ A418 : Option Addr, ∃ l418 : Nat, ∃ c418 : Nat, (v416 = (.slice A418 l418 c418) ∧ (Hp.Sub σ σ417 ∧ 
    ((cl Tryz.prog (.func (.func 92) #[] #[]) #[(.slice f_Cash_A f_Cash_n f_Cash_c)] σ417 (fun v419 σ420 => 
    ∃ A421 : Option Addr, ∃ l421 : Nat, ∃ c421 : Nat, (v419 = (.slice A421 l421 c421) ∧ (Hp.Sub σ417 σ420 ∧ 
    (0 ≤ f_Purses ∧ f_Purses ≤ f_Purses ∧ f_Purses ≤ (1000000000 : Int) ∧ exl 63 [.int .i64, .int .i64] (List.replicate (f_Purses : Int).toNat (0, 0) : List (Int × Int)) σ420 (fun A422 l422 c422 σ423 => 
    exl 3 [.int .i64] (List.replicate (f_Boxes : Int).toNat 0 : List Int) σ423 (fun A424 l424 c424 σ425 => 
    bx σ425 (.cells #[(.slice A418 l418 c418), (.slice A421 l421 c421), (.slice A422 l422 c422), (.slice A424 l424 c424), (.int .i64 0)] 52) (fun b426 σ427 => 
    J3 (some ⟨b426, 0, none⟩) σ427)))))))) ∧ (0 ≤ f_Purses ∧ f_Purses ≤ f_Purses ∧ f_Purses ≤ (1000000000 : Int) ∧ 
    cl Tryz.prog (.func (.func 92) #[] #[]) #[(.slice f_Cash_A f_Cash_n f_Cash_c)] σ417 (fun v428 σ429 => 
    ∃ A430 : Option Addr, ∃ l430 : Nat, ∃ c430 : Nat, (v428 = (.slice A430 l430 c430) ∧ (Hp.Sub σ417 σ429 ∧ 
    exl 63 [.int .i64, .int .i64] (List.replicate (f_Purses : Int).toNat (0, 0) : List (Int × Int)) σ429 (fun A431 l431 c431 σ432 => 
    exl 3 [.int .i64] (List.replicate (f_Boxes : Int).toNat 0 : List Int) σ432 (fun A433 l433 c433 σ434 => 
    bx σ434 (.cells #[(.slice A418 l418 c418), (.slice A430 l430 c430), (.slice A431 l431 c431), (.slice A433 l433 c433), (.int .i64 0)] 52) (fun b435 σ436 => 
    J3 (some ⟨b435, 0, none⟩) σ436)))))))))))) ∧ (0 ≤ f_Purses ∧ f_Purses ≤ f_Purses ∧ f_Purses ≤ (1000000000 : Int) ∧ 
    cl Tryz.prog (.func (.func 92) #[] #[]) #[(.slice f_Stock_A f_Stock_n f_Stock_c)] σ (fun v437 σ438 => 
    ∃ A439 : Option Addr, ∃ l439 : Nat, ∃ c439 : Nat, (v437 = (.slice A439 l439 c439) ∧ (Hp.Sub σ σ438 ∧ 
    cl Tryz.prog (.func (.func 92) #[] #[]) #[(.slice f_Cash_A f_Cash_n f_Cash_c)] σ438 (fun v440 σ441 => 
    ∃ A442 : Option Addr, ∃ l442 : Nat, ∃ c442 : Nat, (v440 = (.slice A442 l442 c442) ∧ (Hp.Sub σ438 σ441 ∧ 
    exl 63 [.int .i64, .int .i64] (List.replicate (f_Purses : Int).toNat (0, 0) : List (Int × Int)) σ441 (fun A443 l443 c443 σ444 => 
    exl 3 [.int .i64] (List.replicate (f_Boxes : Int).toNat 0 : List Int) σ444 (fun A445 l445 c445 σ446 => 
    bx σ446 (.cells #[(.slice A439 l439 c439), (.slice A442 l442 c442), (.slice A443 l443 c443), (.slice A445 l445 c445), (.int .i64 0)] 52) (fun b447 σ448 => 
    J3 (some ⟨b447, 0, none⟩) σ448))))))))))))) ∧ ((cl Tryz.prog (.func (.func 92) #[] #[]) #[(.slice f_Stock_A f_Stock_n f_Stock_c)] σ (fun v449 σ450 => 
    ∃ A451 : Option Addr, ∃ l451 : Nat, ∃ c451 : Nat, (v449 = (.slice A451 l451 c451) ∧ (Hp.Sub σ σ450 ∧ 
    ((cl Tryz.prog (.func (.func 92) #[] #[]) #[(.slice f_Cash_A f_Cash_n f_Cash_c)] σ450 (fun v452 σ453 => 
    ∃ A454 : Option Addr, ∃ l454 : Nat, ∃ c454 : Nat, (v452 = (.slice A454 l454 c454) ∧ (Hp.Sub σ450 σ453 ∧ 
    ((0 ≤ f_Purses ∧ f_Purses ≤ f_Purses ∧ f_Purses ≤ (1000000000 : Int) ∧ (0 ≤ f_Boxes ∧ f_Boxes ≤ f_Boxes ∧ 
    f_Boxes ≤ (1000000000 : Int) ∧ exl 63 [.int .i64, .int .i64] (List.replicate (f_Purses : Int).toNat (0, 0) : List (Int × Int)) σ453 (fun A455 l455 c455 σ456 => 
    exl 3 [.int .i64] (List.replicate (f_Boxes : Int).toNat 0 : List Int) σ456 (fun A457 l457 c457 σ458 => 
    bx σ458 (.cells #[(.slice A451 l451 c451), (.slice A454 l454 c454), (.slice A455 l455 c455), (.slice A457 l457 c457), (.int .i64 0)] 52) (fun b459 σ460 => 
    J3 (some ⟨b459, 0, none⟩) σ460))))) ∧ (0 ≤ f_Boxes ∧ f_Boxes ≤ f_Boxes ∧ f_Boxes ≤ (1000000000 : Int) ∧ 
    (0 ≤ f_Purses ∧ f_Purses ≤ f_Purses ∧ f_Purses ≤ (1000000000 : Int) ∧ exl 63 [.int .i64, .int .i64] (List.replicate (f_Purses : Int).toNat (0, 0) : List (Int × Int)) σ453 (fun A461 l461 c461 σ462 => 
    exl 3 [.int .i64] (List.replicate (f_Boxes : Int).toNat 0 : List Int) σ462 (fun A463 l463 c463 σ464 => 
    bx σ464 (.cells #[(.slice A451 l451 c451), (.slice A454 l454 c454), (.slice A461 l461 c461), (.slice A463 l463 c463), (.int .i64 0)] 52) (fun b465 σ466 => 
    J3 (some ⟨b465, 0, none⟩) σ466)))))))))) ∧ (0 ≤ f_Purses ∧ f_Purses ≤ f_Purses ∧ f_Purses ≤ (1000000000 : Int) ∧ 
    ((cl Tryz.prog (.func (.func 92) #[] #[]) #[(.slice f_Cash_A f_Cash_n f_Cash_c)] σ450 (fun v467 σ468 => 
    ∃ A469 : Option Addr, ∃ l469 : Nat, ∃ c469 : Nat, (v467 = (.slice A469 l469 c469) ∧ (Hp.Sub σ450 σ468 ∧ 
    (0 ≤ f_Boxes ∧ f_Boxes ≤ f_Boxes ∧ f_Boxes ≤ (1000000000 : Int) ∧ exl 63 [.int .i64, .int .i64] (List.replicate (f_Purses : Int).toNat (0, 0) : List (Int × Int)) σ468 (fun A470 l470 c470 σ471 => 
    exl 3 [.int .i64] (List.replicate (f_Boxes : Int).toNat 0 : List Int) σ471 (fun A472 l472 c472 σ473 => 
    bx σ473 (.cells #[(.slice A451 l451 c451), (.slice A469 l469 c469), (.slice A470 l470 c470), (.slice A472 l472 c472), (.int .i64 0)] 52) (fun b474 σ475 => 
    J3 (some ⟨b474, 0, none⟩) σ475)))))))) ∧ (0 ≤ f_Boxes ∧ f_Boxes ≤ f_Boxes ∧ f_Boxes ≤ (1000000000 : Int) ∧ 
    cl Tryz.prog (.func (.func 92) #[] #[]) #[(.slice f_Cash_A f_Cash_n f_Cash_c)] σ450 (fun v476 σ477 => 
    ∃ A478 : Option Addr, ∃ l478 : Nat, ∃ c478 : Nat, (v476 = (.slice A478 l478 c478) ∧ (Hp.Sub σ450 σ477 ∧ 
    exl 63 [.int .i64, .int .i64] (List.replicate (f_Purses : Int).toNat (0, 0) : List (Int × Int)) σ477 (fun A479 l479 c479 σ480 => 
    exl 3 [.int .i64] (List.replicate (f_Boxes : Int).toNat 0 : List Int) σ480 (fun A481 l481 c481 σ482 => 
    bx σ482 (.cells #[(.slice A451 l451 c451), (.slice A478 l478 c478), (.slice A479 l479 c479), (.slice A481 l481 c481), (.int .i64 0)] 52) (fun b483 σ484 => 
    J3 (some ⟨b483, 0, none⟩) σ484))))))))) ∧ (0 ≤ f_Boxes ∧ f_Boxes ≤ f_Boxes ∧ f_Boxes ≤ (1000000000 : Int) ∧ 
    ((cl Tryz.prog (.func (.func 92) #[] #[]) #[(.slice f_Cash_A f_Cash_n f_Cash_c)] σ450 (fun v485 σ486 => 
    ∃ A487 : Option Addr, ∃ l487 : Nat, ∃ c487 : Nat, (v485 = (.slice A487 l487 c487) ∧ (Hp.Sub σ450 σ486 ∧ 
    (0 ≤ f_Purses ∧ f_Purses ≤ f_Purses ∧ f_Purses ≤ (1000000000 : Int) ∧ exl 63 [.int .i64, .int .i64] (List.replicate (f_Purses : Int).toNat (0, 0) : List (Int × Int)) σ486 (fun A488 l488 c488 σ489 => 
    exl 3 [.int .i64] (List.replicate (f_Boxes : Int).toNat 0 : List Int) σ489 (fun A490 l490 c490 σ491 => 
    bx σ491 (.cells #[(.slice A451 l451 c451), (.slice A487 l487 c487), (.slice A488 l488 c488), (.slice A490 l490 c490), (.int .i64 0)] 52) (fun b492 σ493 => 
    J3 (some ⟨b492, 0, none⟩) σ493)))))))) ∧ (0 ≤ f_Purses ∧ f_Purses ≤ f_Purses ∧ f_Purses ≤ (1000000000 : Int) ∧ 
    cl Tryz.prog (.func (.func 92) #[] #[]) #[(.slice f_Cash_A f_Cash_n f_Cash_c)] σ450 (fun v494 σ495 => 
    ∃ A496 : Option Addr, ∃ l496 : Nat, ∃ c496 : Nat, (v494 = (.slice A496 l496 c496) ∧ (Hp.Sub σ450 σ495 ∧ 
    exl 63 [.int .i64, .int .i64] (List.replicate (f_Purses : Int).toNat (0, 0) : List (Int × Int)) σ495 (fun A497 l497 c497 σ498 => 
    exl 3 [.int .i64] (List.replicate (f_Boxes : Int).toNat 0 : List Int) σ498 (fun A499 l499 c499 σ500 => 
    bx σ500 (.cells #[(.slice A451 l451 c451), (.slice A496 l496 c496), (.slice A497 l497 c497), (.slice A499 l499 c499), (.int .i64 0)] 52) (fun b501 σ502 => 
    J3 (some ⟨b501, 0, none⟩) σ502)))))))))))))) ∧ (0 ≤ f_Purses ∧ f_Purses ≤ f_Purses ∧ f_Purses ≤ (1000000000 : Int) ∧ 
    ((cl Tryz.prog (.func (.func 92) #[] #[]) #[(.slice f_Stock_A f_Stock_n f_Stock_c)] σ (fun v503 σ504 => 
    ∃ A505 : Option Addr, ∃ l505 : Nat, ∃ c505 : Nat, (v503 = (.slice A505 l505 c505) ∧ (Hp.Sub σ σ504 ∧ 
    ((cl Tryz.prog (.func (.func 92) #[] #[]) #[(.slice f_Cash_A f_Cash_n f_Cash_c)] σ504 (fun v506 σ507 => 
    ∃ A508 : Option Addr, ∃ l508 : Nat, ∃ c508 : Nat, (v506 = (.slice A508 l508 c508) ∧ (Hp.Sub σ504 σ507 ∧ 
    (0 ≤ f_Boxes ∧ f_Boxes ≤ f_Boxes ∧ f_Boxes ≤ (1000000000 : Int) ∧ exl 63 [.int .i64, .int .i64] (List.replicate (f_Purses : Int).toNat (0, 0) : List (Int × Int)) σ507 (fun A509 l509 c509 σ510 => 
    exl 3 [.int .i64] (List.replicate (f_Boxes : Int).toNat 0 : List Int) σ510 (fun A511 l511 c511 σ512 => 
    bx σ512 (.cells #[(.slice A505 l505 c505), (.slice A508 l508 c508), (.slice A509 l509 c509), (.slice A511 l511 c511), (.int .i64 0)] 52) (fun b513 σ514 => 
    J3 (some ⟨b513, 0, none⟩) σ514)))))))) ∧ (0 ≤ f_Boxes ∧ f_Boxes ≤ f_Boxes ∧ f_Boxes ≤ (1000000000 : Int) ∧ 
    cl Tryz.prog (.func (.func 92) #[] #[]) #[(.slice f_Cash_A f_Cash_n f_Cash_c)] σ504 (fun v515 σ516 => 
    ∃ A517 : Option Addr, ∃ l517 : Nat, ∃ c517 : Nat, (v515 = (.slice A517 l517 c517) ∧ (Hp.Sub σ504 σ516 ∧ 
    exl 63 [.int .i64, .int .i64] (List.replicate (f_Purses : Int).toNat (0, 0) : List (Int × Int)) σ516 (fun A518 l518 c518 σ519 => 
    exl 3 [.int .i64] (List.replicate (f_Boxes : Int).toNat 0 : List Int) σ519 (fun A520 l520 c520 σ521 => 
    bx σ521 (.cells #[(.slice A505 l505 c505), (.slice A517 l517 c517), (.slice A518 l518 c518), (.slice A520 l520 c520), (.int .i64 0)] 52) (fun b522 σ523 => 
    J3 (some ⟨b522, 0, none⟩) σ523)))))))))))) ∧ (0 ≤ f_Boxes ∧ f_Boxes ≤ f_Boxes ∧ f_Boxes ≤ (1000000000 : Int) ∧ 
    cl Tryz.prog (.func (.func 92) #[] #[]) #[(.slice f_Stock_A f_Stock_n f_Stock_c)] σ (fun v524 σ525 => 
    ∃ A526 : Option Addr, ∃ l526 : Nat, ∃ c526 : Nat, (v524 = (.slice A526 l526 c526) ∧ (Hp.Sub σ σ525 ∧ 
    cl Tryz.prog (.func (.func 92) #[] #[]) #[(.slice f_Cash_A f_Cash_n f_Cash_c)] σ525 (fun v527 σ528 => 
    ∃ A529 : Option Addr, ∃ l529 : Nat, ∃ c529 : Nat, (v527 = (.slice A529 l529 c529) ∧ (Hp.Sub σ525 σ528 ∧ 
    exl 63 [.int .i64, .int .i64] (List.replicate (f_Purses : Int).toNat (0, 0) : List (Int × Int)) σ528 (fun A530 l530 c530 σ531 => 
    exl 3 [.int .i64] (List.replicate (f_Boxes : Int).toNat 0 : List Int) σ531 (fun A532 l532 c532 σ533 => 
    bx σ533 (.cells #[(.slice A526 l526 c526), (.slice A529 l529 c529), (.slice A530 l530 c530), (.slice A532 l532 c532), (.int .i64 0)] 52) (fun b534 σ535 => 
    J3 (some ⟨b534, 0, none⟩) σ535)))))))))))) ∧ (0 ≤ f_Boxes ∧ f_Boxes ≤ f_Boxes ∧ f_Boxes ≤ (1000000000 : Int) ∧ 
    ((cl Tryz.prog (.func (.func 92) #[] #[]) #[(.slice f_Stock_A f_Stock_n f_Stock_c)] σ (fun v536 σ537 => 
    ∃ A538 : Option Addr, ∃ l538 : Nat, ∃ c538 : Nat, (v536 = (.slice A538 l538 c538) ∧ (Hp.Sub σ σ537 ∧ 
    ((cl Tryz.prog (.func (.func 92) #[] #[]) #[(.slice f_Cash_A f_Cash_n f_Cash_c)] σ537 (fun v539 σ540 => 
    ∃ A541 : Option Addr, ∃ l541 : Nat, ∃ c541 : Nat, (v539 = (.slice A541 l541 c541) ∧ (Hp.Sub σ537 σ540 ∧ 
    (0 ≤ f_Purses ∧ f_Purses ≤ f_Purses ∧ f_Purses ≤ (1000000000 : Int) ∧ exl 63 [.int .i64, .int .i64] (List.replicate (f_Purses : Int).toNat (0, 0) : List (Int × Int)) σ540 (fun A542 l542 c542 σ543 => 
    exl 3 [.int .i64] (List.replicate (f_Boxes : Int).toNat 0 : List Int) σ543 (fun A544 l544 c544 σ545 => 
    bx σ545 (.cells #[(.slice A538 l538 c538), (.slice A541 l541 c541), (.slice A542 l542 c542), (.slice A544 l544 c544), (.int .i64 0)] 52) (fun b546 σ547 => 
    J3 (some ⟨b546, 0, none⟩) σ547)))))))) ∧ (0 ≤ f_Purses ∧ f_Purses ≤ f_Purses ∧ f_Purses ≤ (1000000000 : Int) ∧ 
    cl Tryz.prog (.func (.func 92) #[] #[]) #[(.slice f_Cash_A f_Cash_n f_Cash_c)] σ537 (fun v548 σ549 => 
    ∃ A550 : Option Addr, ∃ l550 : Nat, ∃ c550 : Nat, (v548 = (.slice A550 l550 c550) ∧ (Hp.Sub σ537 σ549 ∧ 
    exl 63 [.int .i64, .int .i64] (List.replicate (f_Purses : Int).toNat (0, 0) : List (Int × Int)) σ549 (fun A551 l551 c551 σ552 => 
    exl 3 [.int .i64] (List.replicate (f_Boxes : Int).toNat 0 : List Int) σ552 (fun A553 l553 c553 σ554 => 
    bx σ554 (.cells #[(.slice A538 l538 c538), (.slice A550 l550 c550), (.slice A551 l551 c551), (.slice A553 l553 c553), (.int .i64 0)] 52) (fun b555 σ556 => 
    J3 (some ⟨b555, 0, none⟩) σ556)))))))))))) ∧ (0 ≤ f_Purses ∧ f_Purses ≤ f_Purses ∧ f_Purses ≤ (1000000000 : Int) ∧ 
    cl Tryz.prog (.func (.func 92) #[] #[]) #[(.slice f_Stock_A f_Stock_n f_Stock_c)] σ (fun v557 σ558 => 
    ∃ A559 : Option Addr, ∃ l559 : Nat, ∃ c559 : Nat, (v557 = (.slice A559 l559 c559) ∧ (Hp.Sub σ σ558 ∧ 
    cl Tryz.prog (.func (.func 92) #[] #[]) #[(.slice f_Cash_A f_Cash_n f_Cash_c)] σ558 (fun v560 σ561 => 
    ∃ A562 : Option Addr, ∃ l562 : Nat, ∃ c562 : Nat, (v560 = (.slice A562 l562 c562) ∧ (Hp.Sub σ558 σ561 ∧ 
    exl 63 [.int .i64, .int .i64] (List.replicate (f_Purses : Int).toNat (0, 0) : List (Int × Int)) σ561 (fun A563 l563 c563 σ564 => 
    exl 3 [.int .i64] (List.replicate (f_Boxes : Int).toNat 0 : List Int) σ564 (fun A565 l565 c565 σ566 => 
    bx σ566 (.cells #[(.slice A559 l559 c559), (.slice A562 l562 c562), (.slice A563 l563 c563), (.slice A565 l565 c565), (.int .i64 0)] 52) (fun b567 σ568 => 
    J3 (some ⟨b567, 0, none⟩) σ568)))))))))))))))
def M_tokens_begin_an : MAn := (.seq (.txt []) (.cut ⟨[true], 1, [.slot 1 (.hb 0 0), .slot 3 (.sc (.ptr))], []⟩ (.plan [14] (.take 0 ⟨[], false, []⟩ (.take 1 ⟨[], false, []⟩ (.take 3 ⟨[], false, []⟩ (.take 4 ⟨[], false, []⟩ (.take 6 ⟨[], false, []⟩ (.take 7 ⟨[], false, []⟩ (.take 9 ⟨[], false, []⟩ (.take 10 ⟨[], false, []⟩ (.alt 2 true ⟨[], false, []⟩ (.alt 5 true ⟨[], false, []⟩ (.alt 8 true ⟨[], false, []⟩ (.alt 11 true ⟨[], false, []⟩ (.take 12 ⟨[], false, []⟩ (.alt 13 true ⟨[], false, []⟩ (.alt 14 false ⟨[], false, []⟩ .done .done) .done)) (.alt 13 true ⟨[], false, []⟩ (.alt 11 true ⟨[], false, []⟩ (.take 12 ⟨[], false, []⟩ (.alt 14 false ⟨[], false, []⟩ .done .done)) .done) .done)) (.alt 11 true ⟨[], false, []⟩ (.alt 8 true ⟨[], false, []⟩ (.take 12 ⟨[], false, []⟩ (.alt 13 true ⟨[], false, []⟩ (.alt 14 false ⟨[], false, []⟩ .done .done) .done)) (.alt 13 true ⟨[], false, []⟩ (.alt 8 true ⟨[], false, []⟩ (.take 12 ⟨[], false, []⟩ (.alt 14 false ⟨[], false, []⟩ .done .done)) .done) .done)) (.alt 13 true ⟨[], false, []⟩ (.alt 8 true ⟨[], false, []⟩ (.alt 11 true ⟨[], false, []⟩ (.take 12 ⟨[], false, []⟩ (.alt 14 false ⟨[], false, []⟩ .done .done)) .done) (.alt 11 true ⟨[], false, []⟩ (.alt 8 true ⟨[], false, []⟩ (.take 12 ⟨[], false, []⟩ (.alt 14 false ⟨[], false, []⟩ .done .done)) .done) .done)) .done))) (.alt 8 true ⟨[], false, []⟩ (.alt 5 true ⟨[], false, []⟩ (.alt 11 true ⟨[], false, []⟩ (.take 12 ⟨[], false, []⟩ (.alt 13 true ⟨[], false, []⟩ (.alt 14 false ⟨[], false, []⟩ .done .done) .done)) (.alt 13 true ⟨[], false, []⟩ (.alt 11 true ⟨[], false, []⟩ (.take 12 ⟨[], false, []⟩ (.alt 14 false ⟨[], false, []⟩ .done .done)) .done) .done)) (.alt 11 true ⟨[], false, []⟩ (.alt 5 true ⟨[], false, []⟩ (.take 12 ⟨[], false, []⟩ (.alt 13 true ⟨[], false, []⟩ (.alt 14 false ⟨[], false, []⟩ .done .done) .done)) (.alt 13 true ⟨[], false, []⟩ (.alt 5 true ⟨[], false, []⟩ (.take 12 ⟨[], false, []⟩ (.alt 14 false ⟨[], false, []⟩ .done .done)) .done) .done)) (.alt 13 true ⟨[], false, []⟩ (.alt 5 true ⟨[], false, []⟩ (.alt 11 true ⟨[], false, []⟩ (.take 12 ⟨[], false, []⟩ (.alt 14 false ⟨[], false, []⟩ .done .done)) .done) (.alt 11 true ⟨[], false, []⟩ (.alt 5 true ⟨[], false, []⟩ (.take 12 ⟨[], false, []⟩ (.alt 14 false ⟨[], false, []⟩ .done .done)) .done) .done)) .done))) (.alt 11 true ⟨[], false, []⟩ (.alt 5 true ⟨[], false, []⟩ (.alt 8 true ⟨[], false, []⟩ (.take 12 ⟨[], false, []⟩ (.alt 13 true ⟨[], false, []⟩ (.alt 14 false ⟨[], false, []⟩ .done .done) .done)) (.alt 13 true ⟨[], false, []⟩ (.alt 8 true ⟨[], false, []⟩ (.take 12 ⟨[], false, []⟩ (.alt 14 false ⟨[], false, []⟩ .done .done)) .done) .done)) (.alt 8 true ⟨[], false, []⟩ (.alt 5 true ⟨[], false, []⟩ (.take 12 ⟨[], false, []⟩ (.alt 13 true ⟨[], false, []⟩ (.alt 14 false ⟨[], false, []⟩ .done .done) .done)) (.alt 13 true ⟨[], false, []⟩ (.alt 5 true ⟨[], false, []⟩ (.take 12 ⟨[], false, []⟩ (.alt 14 false ⟨[], false, []⟩ .done .done)) .done) .done)) (.alt 13 true ⟨[], false, []⟩ (.alt 5 true ⟨[], false, []⟩ (.alt 8 true ⟨[], false, []⟩ (.take 12 ⟨[], false, []⟩ (.alt 14 false ⟨[], false, []⟩ .done .done)) .done) (.alt 8 true ⟨[], false, []⟩ (.alt 5 true ⟨[], false, []⟩ (.take 12 ⟨[], false, []⟩ (.alt 14 false ⟨[], false, []⟩ .done .done)) .done) .done)) .done))) (.alt 13 true ⟨[], false, []⟩ (.alt 5 true ⟨[], false, []⟩ (.alt 8 true ⟨[], false, []⟩ (.alt 11 true ⟨[], false, []⟩ (.take 12 ⟨[], false, []⟩ (.alt 14 false ⟨[], false, []⟩ .done .done)) .done) (.alt 11 true ⟨[], false, []⟩ (.alt 8 true ⟨[], false, []⟩ (.take 12 ⟨[], false, []⟩ (.alt 14 false ⟨[], false, []⟩ .done .done)) .done) .done)) (.alt 8 true ⟨[], false, []⟩ (.alt 5 true ⟨[], false, []⟩ (.alt 11 true ⟨[], false, []⟩ (.take 12 ⟨[], false, []⟩ (.alt 14 false ⟨[], false, []⟩ .done .done)) .done) (.alt 11 true ⟨[], false, []⟩ (.alt 5 true ⟨[], false, []⟩ (.take 12 ⟨[], false, []⟩ (.alt 14 false ⟨[], false, []⟩ .done .done)) .done) .done)) (.alt 11 true ⟨[], false, []⟩ (.alt 5 true ⟨[], false, []⟩ (.alt 8 true ⟨[], false, []⟩ (.take 12 ⟨[], false, []⟩ (.alt 14 false ⟨[], false, []⟩ .done .done)) .done) (.alt 8 true ⟨[], false, []⟩ (.alt 5 true ⟨[], false, []⟩ (.take 12 ⟨[], false, []⟩ (.alt 14 false ⟨[], false, []⟩ .done .done)) .done) .done)) .done))) .done)))) (.alt 8 true ⟨[], false, []⟩ (.alt 2 true ⟨[], false, []⟩ (.alt 5 true ⟨[], false, []⟩ (.alt 11 true ⟨[], false, []⟩ (.take 12 ⟨[], false, []⟩ (.alt 13 true ⟨[], false, []⟩ (.alt 14 false ⟨[], false, []⟩ .done .done) .done)) (.alt 13 true ⟨[], false, []⟩ (.alt 11 true ⟨[], false, []⟩ (.take 12 ⟨[], false, []⟩ (.alt 14 false ⟨[], false, []⟩ .done .done)) .done) .done)) (.alt 11 true ⟨[], false, []⟩ (.alt 5 true ⟨[], false, []⟩ (.take 12 ⟨[], false, []⟩ (.alt 13 true ⟨[], false, []⟩ (.alt 14 false ⟨[], false, []⟩ .done .done) .done)) (.alt 13 true ⟨[], false, []⟩ (.alt 5 true ⟨[], false, []⟩ (.take 12 ⟨[], false, []⟩ (.alt 14 false ⟨[], false, []⟩ .done .done)) .done) .done)) (.alt 13 true ⟨[], false, []⟩ (.alt 5 true ⟨[], false, []⟩ (.alt 11 true ⟨[], false, []⟩ (.take 12 ⟨[], false, []⟩ (.alt 14 false ⟨[], false, []⟩ .done .done)) .done) (.alt 11 true ⟨[], false, []⟩ (.alt 5 true ⟨[], false, []⟩ (.take 12 ⟨[], false, []⟩ (.alt 14 false ⟨[], false, []⟩ .done .done)) .done) .done)) .done))) (.alt 11 true ⟨[], false, []⟩ (.alt 2 true ⟨[], false, []⟩ (.alt 5 true ⟨[], false, []⟩ (.take 12 ⟨[], false, []⟩ (.alt 13 true ⟨[], false, []⟩ (.alt 14 false ⟨[], false, []⟩ .done .done) .done)) (.alt 13 true ⟨[], false, []⟩ (.alt 5 true ⟨[], false, []⟩ (.take 12 ⟨[], false, []⟩ (.alt 14 false ⟨[], false, []⟩ .done .done)) .done) .done)) (.alt 13 true ⟨[], false, []⟩ (.alt 2 true ⟨[], false, []⟩ (.alt 5 true ⟨[], false, []⟩ (.take 12 ⟨[], false, []⟩ (.alt 14 false ⟨[], false, []⟩ .done .done)) .done) .done) .done)) (.alt 13 true ⟨[], false, []⟩ (.alt 2 true ⟨[], false, []⟩ (.alt 5 true ⟨[], false, []⟩ (.alt 11 true ⟨[], false, []⟩ (.take 12 ⟨[], false, []⟩ (.alt 14 false ⟨[], false, []⟩ .done .done)) .done) (.alt 11 true ⟨[], false, []⟩ (.alt 5 true ⟨[], false, []⟩ (.take 12 ⟨[], false, []⟩ (.alt 14 false ⟨[], false, []⟩ .done .done)) .done) .done)) (.alt 11 true ⟨[], false, []⟩ (.alt 2 true ⟨[], false, []⟩ (.alt 5 true ⟨[], false, []⟩ (.take 12 ⟨[], false, []⟩ (.alt 14 false ⟨[], false, []⟩ .done .done)) .done) .done) .done)) .done))) (.alt 11 true ⟨[], false, []⟩ (.alt 2 true ⟨[], false, []⟩ (.alt 5 true ⟨[], false, []⟩ (.alt 8 true ⟨[], false, []⟩ (.take 12 ⟨[], false, []⟩ (.alt 13 true ⟨[], false, []⟩ (.alt 14 false ⟨[], false, []⟩ .done .done) .done)) (.alt 13 true ⟨[], false, []⟩ (.alt 8 true ⟨[], false, []⟩ (.take 12 ⟨[], false, []⟩ (.alt 14 false ⟨[], false, []⟩ .done .done)) .done) .done)) (.alt 8 true ⟨[], false, []⟩ (.alt 5 true ⟨[], false, []⟩ (.take 12 ⟨[], false, []⟩ (.alt 13 true ⟨[], false, []⟩ (.alt 14 false ⟨[], false, []⟩ .done .done) .done)) (.alt 13 true ⟨[], false, []⟩ (.alt 5 true ⟨[], false, []⟩ (.take 12 ⟨[], false, []⟩ (.alt 14 false ⟨[], false, []⟩ .done .done)) .done) .done)) (.alt 13 true ⟨[], false, []⟩ (.alt 5 true ⟨[], false, []⟩ (.alt 8 true ⟨[], false, []⟩ (.take 12 ⟨[], false, []⟩ (.alt 14 false ⟨[], false, []⟩ .done .done)) .done) (.alt 8 true ⟨[], false, []⟩ (.alt 5 true ⟨[], false, []⟩ (.take 12 ⟨[], false, []⟩ (.alt 14 false ⟨[], false, []⟩ .done .done)) .done) .done)) .done))) (.alt 8 true ⟨[], false, []⟩ (.alt 2 true ⟨[], false, []⟩ (.alt 5 true ⟨[], false, []⟩ (.take 12 ⟨[], false, []⟩ (.alt 13 true ⟨[], false, []⟩ (.alt 14 false ⟨[], false, []⟩ .done .done) .done)) (.alt 13 true ⟨[], false, []⟩ (.alt 5 true ⟨[], false, []⟩ (.take 12 ⟨[], false, []⟩ (.alt 14 false ⟨[], false, []⟩ .done .done)) .done) .done)) (.alt 13 true ⟨[], false, []⟩ (.alt 2 true ⟨[], false, []⟩ (.alt 5 true ⟨[], false, []⟩ (.take 12 ⟨[], false, []⟩ (.alt 14 false ⟨[], false, []⟩ .done .done)) .done) .done) .done)) (.alt 13 true ⟨[], false, []⟩ (.alt 2 true ⟨[], false, []⟩ (.alt 5 true ⟨[], false, []⟩ (.alt 8 true ⟨[], false, []⟩ (.take 12 ⟨[], false, []⟩ (.alt 14 false ⟨[], false, []⟩ .done .done)) .done) (.alt 8 true ⟨[], false, []⟩ (.alt 5 true ⟨[], false, []⟩ (.take 12 ⟨[], false, []⟩ (.alt 14 false ⟨[], false, []⟩ .done .done)) .done) .done)) (.alt 8 true ⟨[], false, []⟩ (.alt 2 true ⟨[], false, []⟩ (.alt 5 true ⟨[], false, []⟩ (.take 12 ⟨[], false, []⟩ (.alt 14 false ⟨[], false, []⟩ .done .done)) .done) .done) .done)) .done))) (.alt 13 true ⟨[], false, []⟩ (.alt 2 true ⟨[], false, []⟩ (.alt 5 true ⟨[], false, []⟩ (.alt 8 true ⟨[], false, []⟩ (.alt 11 true ⟨[], false, []⟩ (.take 12 ⟨[], false, []⟩ (.alt 14 false ⟨[], false, []⟩ .done .done)) .done) (.alt 11 true ⟨[], false, []⟩ (.alt 8 true ⟨[], false, []⟩ (.take 12 ⟨[], false, []⟩ (.alt 14 false ⟨[], false, []⟩ .done .done)) .done) .done)) (.alt 8 true ⟨[], false, []⟩ (.alt 5 true ⟨[], false, []⟩ (.alt 11 true ⟨[], false, []⟩ (.take 12 ⟨[], false, []⟩ (.alt 14 false ⟨[], false, []⟩ .done .done)) .done) (.alt 11 true ⟨[], false, []⟩ (.alt 5 true ⟨[], false, []⟩ (.take 12 ⟨[], false, []⟩ (.alt 14 false ⟨[], false, []⟩ .done .done)) .done) .done)) (.alt 11 true ⟨[], false, []⟩ (.alt 5 true ⟨[], false, []⟩ (.alt 8 true ⟨[], false, []⟩ (.take 12 ⟨[], false, []⟩ (.alt 14 false ⟨[], false, []⟩ .done .done)) .done) (.alt 8 true ⟨[], false, []⟩ (.alt 5 true ⟨[], false, []⟩ (.take 12 ⟨[], false, []⟩ (.alt 14 false ⟨[], false, []⟩ .done .done)) .done) .done)) .done))) (.alt 8 true ⟨[], false, []⟩ (.alt 2 true ⟨[], false, []⟩ (.alt 5 true ⟨[], false, []⟩ (.alt 11 true ⟨[], false, []⟩ (.take 12 ⟨[], false, []⟩ (.alt 14 false ⟨[], false, []⟩ .done .done)) .done) (.alt 11 true ⟨[], false, []⟩ (.alt 5 true ⟨[], false, []⟩ (.take 12 ⟨[], false, []⟩ (.alt 14 false ⟨[], false, []⟩ .done .done)) .done) .done)) (.alt 11 true ⟨[], false, []⟩ (.alt 2 true ⟨[], false, []⟩ (.alt 5 true ⟨[], false, []⟩ (.take 12 ⟨[], false, []⟩ (.alt 14 false ⟨[], false, []⟩ .done .done)) .done) .done) .done)) (.alt 11 true ⟨[], false, []⟩ (.alt 2 true ⟨[], false, []⟩ (.alt 5 true ⟨[], false, []⟩ (.alt 8 true ⟨[], false, []⟩ (.take 12 ⟨[], false, []⟩ (.alt 14 false ⟨[], false, []⟩ .done .done)) .done) (.alt 8 true ⟨[], false, []⟩ (.alt 5 true ⟨[], false, []⟩ (.take 12 ⟨[], false, []⟩ (.alt 14 false ⟨[], false, []⟩ .done .done)) .done) .done)) (.alt 8 true ⟨[], false, []⟩ (.alt 2 true ⟨[], false, []⟩ (.alt 5 true ⟨[], false, []⟩ (.take 12 ⟨[], false, []⟩ (.alt 14 false ⟨[], false, []⟩ .done .done)) .done) .done) .done)) .done))) .done))))))))))))) (.seq (.txt []) .leaf)))
set_option maxRecDepth 100000 in
theorem M_tokens_begin_ok (σ : Hp) (f_Purses : Int) (f_Boxes : Int) (f_Stock_A : Option Addr) (f_Stock_n : Nat) (f_Stock_c : Nat) (f_Cash_A : Option Addr) (f_Cash_n : Nat) (f_Cash_c : Nat) (f_Bundles_A : Option Addr) (f_Bundles_n : Nat) (f_Bundles_c : Nat) (f_Refund : Int) (f_Band : Int) (f_Hours : Int) (R : Value → Hp → Prop) (h : M_tokens_begin σ f_Purses f_Boxes f_Stock_A f_Stock_n f_Stock_c f_Cash_A f_Cash_n f_Cash_c f_Bundles_A f_Bundles_n f_Bundles_c f_Refund f_Band f_Hours R) : FCalls Tryz.prog 55 #[(.agg #[(.int .i64 f_Purses), (.int .i64 f_Boxes), (.slice f_Stock_A f_Stock_n f_Stock_c), (.slice f_Cash_A f_Cash_n f_Cash_c), (.slice f_Bundles_A f_Bundles_n f_Bundles_c), (.int .i64 f_Refund), (.int .i64 f_Band), (.int .i64 f_Hours)])] σ R :=
  fcalls_of_M mixed_T4 M_tokens_begin_an Tryz.func55 rfl (by kernel_rfl) (by kernel_rfl) (M := M_tokens_begin σ f_Purses f_Boxes f_Stock_A f_Stock_n f_Stock_c f_Cash_A f_Cash_n f_Cash_c f_Bundles_A f_Bundles_n f_Bundles_c f_Refund f_Band f_Hours R) (by kernel_rfl) h
theorem M_tokens_begin_enter : enterB Tryz.prog 55 = true := by kernel_rfl
end Go.Proofs.YtecodlefcmjihaaGreat
