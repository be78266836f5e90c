/- Trimmed by wip/trim.py to what this claim rests on. -/
import Derived.Test.YtoelhdjloaknbaaGreatVB11
namespace Go.Proofs.YtoelhdjloaknbaaGreat
set_option maxRecDepth 100000
open Go.RowKit
theorem SU:Tryz.prog.follows .mixedOrders=true:=by kernel_rfl
abbrev Po:FuncId:=30
def Fs (σ:Hp) (R:Value->Hp->Prop):Prop:=
 cl Tryz.prog (.func (.func 67) #[] #[]) #[] σ (fun v1 σ2=>∃ A3:Option Addr,∃ l3 c3:Nat,∃ n4:Int,∃ A5:Option Addr,∃ l5 c5:Nat,(v1=(.tuple #[(.agg #[.slice A3 l3 c3,.int .i64 n4]),.slice A5 l5 c5]) /\
  exl 3 [.int .i64] ([1]:List Int) σ2 (fun A6 l6 c6 σ7=>exl 3 [.int .i64] ([100,100]:List Int) σ7 (fun A8 l8 c8 σ9=>
  exl 138 [.int .i64,.int .i64,.int .i64,.int .i64] ([((-1),20,2,100)]:List (Int×Int×Int×Int)) σ9 (fun A10 l10 c10 σ11=>
  exl 140 [.int .i64,.int .i64,.int .i64,.int .i64] ([(0,0,15,0),(0,0,10,0)]:List (Int×Int×Int×Int)) σ11 (fun A12 l12 c12 σ13=>
  exl 136 [.int .i64,.int .i64,.int .i64,.int .i64,.int .i64] ([(5,4,0,0,0),(5,4,1,0,0)]:List (Int×Int×Int×Int×Int)) σ13 (fun A14 l14 c14 σ15=>
  exl 3 [.int .i64] ([60,60]:List Int) σ15 (fun A16 l16 c16 σ17=>exl 3 [.int .i64] ([2,0]:List Int) σ17 (fun A18 l18 c18 σ19=>
  rt σ19 R (.tuple #[(.agg #[.slice A3 l3 c3,.int .i64 n4,.slice none 0 0,.slice A6 l6 c6,.slice A8 l8 c8,.slice A14 l14 c14,.int .i64 5,.slice A10 l10 c10,.slice A12 l12 c12,.int .i64 50,.int .i64 5,.int .i64 230,.slice A16 l16 c16,.slice A18 l18 c18]),.slice A5 l5 c5]))))))))))
def Mt:MAn:=(.seq (.txt []) (.seq (.txt []) (.seq (.txt []) .leaf)))
theorem Mx (σ:Hp) (R:Value->Hp->Prop) (h:Fs σ  R):Ae Tryz.prog 30 #[] σ R:=
 Ad SU Mt Tryz.func30 rfl (by kernel_rfl) (by kernel_rfl) (by kernel_rfl) h
theorem JY:Ao Tryz.prog 30=true:=by kernel_rfl
abbrev LO:FuncId:=11
def HI (σ:Hp) (R:Value->Hp->Prop):Prop:=
 cl Tryz.prog (.func (.func 30) #[] #[]) #[] σ (fun v1 σ2=>∃ A3:Option Addr,∃ l3 c3:Nat,∃ n4:Int,∃ A5:Option Addr,∃ l5 c5:Nat,∃ A6:Option Addr,∃ l6 c6:Nat,∃ A7:Option Addr,∃ l7 c7:Nat,∃ A8:Option Addr,∃ l8 c8:Nat,∃ n9:Int,∃ A10:Option Addr,∃ l10 c10:Nat,∃ A11:Option Addr,∃ l11 c11:Nat,∃ n12 n13 n14:Int,∃ A15:Option Addr,∃ l15 c15:Nat,∃ A16:Option Addr,∃ l16 c16:Nat,∃ A17:Option Addr,∃ l17 c17:Nat,(v1=(.tuple #[(.agg #[.slice A3 l3 c3,.int .i64 n4,.slice A5 l5 c5,.slice A6 l6 c6,.slice A7 l7 c7,.slice A8 l8 c8,.int .i64 n9,.slice A10 l10 c10,.slice A11 l11 c11,.int .i64 n12,.int .i64 n13,.int .i64 n14,.slice A15 l15 c15,.slice A16 l16 c16]),.slice A17 l17 c17]) /\
  cl Tryz.prog (.func (.func 31) #[] #[]) #[(.agg #[.slice A3 l3 c3,.int .i64 n4,.slice A5 l5 c5,.slice A6 l6 c6,.slice A7 l7 c7,.slice A8 l8 c8,.int .i64 n9,.slice A10 l10 c10,.slice A11 l11 c11,.int .i64 n12,.int .i64 n13,.int .i64 n14,.slice A15 l15 c15,.slice A16 l16 c16])] σ2 (fun v18 σ19=>
  ∃ A20:Option Addr,∃ l20 c20:Nat,∃ n21:Int,(v18=(.tuple #[.slice A20 l20 c20,.int .i64 n21]) /\
  cl Tryz.prog (.func (.func 23) #[] #[]) #[(.agg #[.slice A3 l3 c3,.int .i64 n4,.slice A5 l5 c5,.slice A6 l6 c6,.slice A7 l7 c7,.slice A8 l8 c8,.int .i64 n9,.slice A10 l10 c10,.slice A11 l11 c11,.int .i64 n12,.int .i64 n13,.int .i64 n14,.slice A15 l15 c15,.slice A16 l16 c16]),.slice A17 l17 c17] σ19 (fun v22 σ23=>
  ∃ n24 n25:Int,(v22=(.tuple #[.int .i64 n24,.int .i64 n25])/\bc (decide (n21=0)) (bc (decide (n25=0)) (bc (decide (((l20:Nat):Int)=1)) (ix A20 l20 0 1 (fun b26 a27=>
  ldI σ23 .i64 b26 a27 (fun n28=>bc (decide (n28=0)) (rt σ23 R (.bool (decide (n24=5)))) (rt σ23 R (.bool false))))) (rt σ23 R (.bool false))) (rt σ23 R (.bool false))) (rt σ23 R (.bool false))))))))
def AO:OA:=⟨[],false,[]⟩
def Oi:MAn:=(.seq (.txt []) (.seq (.txt []) (.seq (.txt []) (.seq (.txt []) (.seq (.txt [AO,AO,⟨[],true,[]⟩,AO,AO,AO,⟨[],true,[]⟩,AO,AO,AO,AO,⟨[],true,[]⟩,AO,AO,AO,AO,AO,⟨[],true,[]⟩]) .leaf)))))
theorem NY (σ:Hp) (R:Value->Hp->Prop) (h:HI σ  R):Ae Tryz.prog 11 #[] σ R:=
 Ad SU Oi Tryz.func11 rfl (by kernel_rfl) (by kernel_rfl) (by kernel_rfl) h
theorem Lu:Ao Tryz.prog 11=true:=by kernel_rfl
end Go.Proofs.YtoelhdjloaknbaaGreat
