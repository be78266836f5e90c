/- Trimmed by wip/trim.py to what this claim rests on. -/
import Derived.Test.YtoelhdjloaknbaaGreatPB11
namespace Go.Proofs.YtoelhdjloaknbaaGreat
set_option maxRecDepth 100000
open Go.RowKit
def tkPW1:Nat->Nat->OA->MPlan->MPlan
 |0,_,_,x=>x
 |n+1,i,a,x=>.take i a (tkPW1 n (i+1) a x)
theorem Qh:Tryz.prog.follows .mixedOrders=true:=by kernel_rfl
abbrev Pk:FuncId:=30
def FG (σ:Hp) (R:Value->Hp->Prop):Prop:=
 cl Tryz.prog (.func (.func 67) #[] #[]) #[] σ (fun v1 σ2=>∃ A3:Option Addr,∃ l3 c3:Nat,∃ n4:Int,∃ A5:Option Addr,∃ l5 c5:Nat,(v1=(.tuple #[(.agg #[.slice A3 l3 c3,.int .i64 n4]),.slice A5 l5 c5]) /\
  exl 3 [.int .i64] ([1]:List Int) σ2 (fun A6 l6 c6 σ7=>exl 3 [.int .i64] ([100,100]:List Int) σ7 (fun A8 l8 c8 σ9=>
  exl 138 [.int .i64,.int .i64,.int .i64,.int .i64] ([((-1),20,2,100)]:List (Int×Int×Int×Int)) σ9 (fun A10 l10 c10 σ11=>
  exl 140 [.int .i64,.int .i64,.int .i64,.int .i64] ([(0,0,15,0),(0,0,10,0)]:List (Int×Int×Int×Int)) σ11 (fun A12 l12 c12 σ13=>
  exl 136 [.int .i64,.int .i64,.int .i64,.int .i64,.int .i64] ([(5,4,0,0,0),(5,4,1,0,0)]:List (Int×Int×Int×Int×Int)) σ13 (fun A14 l14 c14 σ15=>
  exl 3 [.int .i64] ([60,60]:List Int) σ15 (fun A16 l16 c16 σ17=>exl 3 [.int .i64] ([2,0]:List Int) σ17 (fun A18 l18 c18 σ19=>
  rt σ19 R (.tuple #[(.agg #[.slice A3 l3 c3,.int .i64 n4,.slice none 0 0,.slice A6 l6 c6,.slice A8 l8 c8,.slice A14 l14 c14,.int .i64 5,.slice A10 l10 c10,.slice A12 l12 c12,.int .i64 50,.int .i64 5,.int .i64 230,.slice A16 l16 c16,.slice A18 l18 c18]),.slice A5 l5 c5]))))))))))
def Mc:MAn:=(.seq (.txt []) (.seq (.txt []) (.seq (.txt []) .leaf)))
theorem MI (σ:Hp) (R:Value->Hp->Prop) (h:FG σ  R):Ad Tryz.prog 30 #[] σ R:=
 Ac Qh Mc Tryz.func30 rfl (by kernel_rfl) (by kernel_rfl) (by kernel_rfl) h
theorem JZ:Ao Tryz.prog 30=true:=by kernel_rfl
abbrev L1:FuncId:=11
def HI (σ:Hp) (R:Value->Hp->Prop):Prop:=
 cl Tryz.prog (.func (.func 30) #[] #[]) #[] σ (fun v1 σ2=>∃ A3:Option Addr,∃ l3 c3:Nat,∃ n4:Int,∃ A5:Option Addr,∃ l5 c5:Nat,∃ A6:Option Addr,∃ l6 c6:Nat,∃ A7:Option Addr,∃ l7 c7:Nat,∃ A8:Option Addr,∃ l8 c8:Nat,∃ n9:Int,∃ A10:Option Addr,∃ l10 c10:Nat,∃ A11:Option Addr,∃ l11 c11:Nat,∃ n12 n13 n14:Int,∃ A15:Option Addr,∃ l15 c15:Nat,∃ A16:Option Addr,∃ l16 c16:Nat,∃ A17:Option Addr,∃ l17 c17:Nat,(v1=(.tuple #[(.agg #[.slice A3 l3 c3,.int .i64 n4,.slice A5 l5 c5,.slice A6 l6 c6,.slice A7 l7 c7,.slice A8 l8 c8,.int .i64 n9,.slice A10 l10 c10,.slice A11 l11 c11,.int .i64 n12,.int .i64 n13,.int .i64 n14,.slice A15 l15 c15,.slice A16 l16 c16]),.slice A17 l17 c17]) /\
  cl Tryz.prog (.func (.func 31) #[] #[]) #[(.agg #[.slice A3 l3 c3,.int .i64 n4,.slice A5 l5 c5,.slice A6 l6 c6,.slice A7 l7 c7,.slice A8 l8 c8,.int .i64 n9,.slice A10 l10 c10,.slice A11 l11 c11,.int .i64 n12,.int .i64 n13,.int .i64 n14,.slice A15 l15 c15,.slice A16 l16 c16])] σ2 (fun v18 σ19=>
  ∃ A20:Option Addr,∃ l20 c20:Nat,∃ n21:Int,(v18=(.tuple #[.slice A20 l20 c20,.int .i64 n21]) /\
  cl Tryz.prog (.func (.func 23) #[] #[]) #[(.agg #[.slice A3 l3 c3,.int .i64 n4,.slice A5 l5 c5,.slice A6 l6 c6,.slice A7 l7 c7,.slice A8 l8 c8,.int .i64 n9,.slice A10 l10 c10,.slice A11 l11 c11,.int .i64 n12,.int .i64 n13,.int .i64 n14,.slice A15 l15 c15,.slice A16 l16 c16]),.slice A17 l17 c17] σ19 (fun v22 σ23=>
  ∃ n24 n25:Int,(v22=(.tuple #[.int .i64 n24,.int .i64 n25])/\bc (decide (n21=0)) (bc (decide (n25=0)) (bc (decide (((l20:Nat):Int)=1)) (ix A20 l20 0 1 (fun b26 a27=>
  ldI σ23 .i64 b26 a27 (fun n28=>bc (decide (n28=0)) (rt σ23 R (.bool (decide (n24=5)))) (rt σ23 R (.bool false))))) (rt σ23 R (.bool false))) (rt σ23 R (.bool false))) (rt σ23 R (.bool false))))))))
def AT:OA:=⟨[],false,[]⟩
def Of:MAn:=(.seq (.txt []) (.seq (.txt []) (.seq (.txt []) (.seq (.txt []) (.seq (.txt [AT,AT,⟨[],true,[]⟩,AT,AT,AT,⟨[],true,[]⟩,AT,AT,AT,AT,⟨[],true,[]⟩,AT,AT,AT,AT,AT,⟨[],true,[]⟩]) .leaf)))))
theorem Oy (σ:Hp) (R:Value->Hp->Prop) (h:HI σ  R):Ad Tryz.prog 11 #[] σ R:=
 Ac Qh Of Tryz.func11 rfl (by kernel_rfl) (by kernel_rfl) (by kernel_rfl) h
theorem L0:Ao Tryz.prog 11=true:=by kernel_rfl
abbrev AY:FuncId:=4
def CQ (σ:Hp) (l_A:Option Addr) (l_n l_c:Nat) (R:Value->Hp->Prop):Prop:=
 bc (decide ((80:Int)<((l_n:Nat):Int))) (cl Tryz.prog (.func (.func 11) #[] #[]) #[] σ (fun v1 σ2=>
  ∃ t3:Bool,(v1=(.bool t3)/\rt σ2 R (.bool t3)))) (∃ ys4:List (Int×Int×Int),RdS [.int .i64,.int .i64,.int .i64] σ l_A l_n ys4 /\
  B2 (List.length ([]:List (Int×Int×Int))+List.length ys4) (exl 55 [.int .i64,.int .i64,.int .i64] (([]:List (Int×Int×Int))++ys4) σ (fun A5 l5 c5 σ6=>
  cl Tryz.prog (.func (.func 15) #[] #[]) #[.slice A5 l5 c5] σ6 (fun v7 σ8=>∃ A9:Option Addr,∃ l9 c9:Nat,∃ n10:Int,(v7=(.tuple #[.slice A9 l9 c9,.int .i64 n10]) /\
  cl Tryz.prog (.func (.func 16) #[] #[]) #[.slice l_A l_n l_c] σ8 (fun v11 σ12=>∃ A13:Option Addr,∃ l13 c13:Nat,∃ n14:Int,(v11=(.tuple #[.slice A13 l13 c13,.int .i64 n14]) /\
  cut (α:=Hp->Prop) (fun  σ16=>∀ _:Nat->Value,cut (α:=Hp->Prop) (fun  σ19=>∀ _:Nat->Value,
  cl Tryz.prog (.func (.func 11) #[] #[]) #[] σ19 (fun v21 σ22=>∃ t23:Bool,(v21=(.bool t23)/\rt σ22 R (.bool t23)))) (fun J20=>
  ∃ I26:Nat->Int->Hp->Prop,(∃ n270,I26 n270 0 σ16)/\∀ n27:Nat,∀ n28:Int,∀ σ25:Hp,I26 n27 n28 σ25->∀ _:Nat->Value,bc (decide (n28<((l9:Nat):Int))) (ix A9 l9 n28 3 (fun b29 a30=>
  ldI σ25 .i64 b29 a30 (fun n31=>ldI σ25 .i64 b29 (a30+1) (fun n32=>ldI σ25 .i64 b29 (a30+2) (fun n33=>
  ix A13 l13 n28 3 (fun b34 a35=>ldI σ25 .i64 b34 a35 (fun n36=>ldI σ25 .i64 b34 (a35+1) (fun n37=>
  ldI σ25 .i64 b34 (a35+2) (fun n38=>bc (!(decide (n31=n36)&&(decide (n32=n37)&&decide (n33=n38)))) (rt σ25 R (.bool false)) (wk .i64 (n28+1) (fun n39=>
  bk σ25 n27 (fun m40 σ41=>I26 m40 n39 σ41)))))))))))) (J20 σ25))) (fun J17=>cut (α:=Bool->Hp->Prop) (fun t45 σ43=>
  ∀ _:Nat->Value,bc t45 (rt σ43 R (.bool false)) (J17 σ43)) (fun J44=>bc (!decide (((l9:Nat):Int)=((l13:Nat):Int))) (J44 true σ12) (J44 (!decide (n10=n14)) σ12))))))))))
def AD:OA:=⟨[],false,[]⟩
def H4:MAn:=(.seq (.txt []) (.seq (.seq (.txt []) (.cond (.seq (.txt []) .leaf) .leaf)) (.seq (.txt []) (.seq (.txt []) (.cut ⟨[false],1,[],[(3,true),(5,true)]⟩ (.cut ⟨[false],1,[.slot 33 (.sc (.bool))],[(3,true),(5,true)]⟩ (.txt [AD,AD,AD,AD,AD,⟨[],true,[]⟩]) (.cond (.seq (.txt []) .leaf) .leaf)) (.cut ⟨[false],1,[],[]⟩ (.seq (.txt []) (.block (.loop ⟨[false],1,[.slot 7 (.sc (.int .i64))],[(3,true),(5,true)]⟩ (.seq (.seq (.txt []) (.cond .leaf .leaf)) (.seq (.block (.seq (.plan [] (tkPW1 9 0 AD .done)) (.cond (.seq (.txt []) .leaf) .leaf))) (.txt [])))))) (.seq (.txt []) .leaf)))))))
theorem Ip (σ:Hp) (l_A:Option Addr) (l_n l_c:Nat) (R:Value->Hp->Prop) (h:CQ σ l_A l_n l_c R):Ad Tryz.prog 4 #[.slice l_A l_n l_c] σ R:=
 Ac Qh H4 Tryz.func4 rfl (by kernel_rfl) (by kernel_rfl) (by kernel_rfl) h
end Go.Proofs.YtoelhdjloaknbaaGreat
