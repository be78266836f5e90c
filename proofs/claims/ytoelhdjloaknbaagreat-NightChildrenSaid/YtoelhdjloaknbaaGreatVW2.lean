/- Trimmed by wip/trim.py to what this claim rests on. -/
import Derived.Test.YtoelhdjloaknbaaGreatVB11
namespace Go.Proofs.YtoelhdjloaknbaaGreat
open Go.RowKit
def tkVW2:Nat->Nat->OA->MPlan->MPlan
 |0,_,_,x=>x
 |n+1,i,a,x=>.take i a (tkVW2 n (i+1) a x)
theorem Wp:Tryz.prog.follows .mixedOrders=true:=by kernel_rfl
abbrev AR:FuncId:=5
def Cp (σ:Hp) (l_A:Option Addr) (l_n _:Nat) (R:Value->Hp->Prop):Prop:=
 bc (decide ((80:Int)<((l_n:Nat):Int))) (cl Tryz.prog (.func (.func 11) #[] #[]) #[] σ (fun v1 σ2=>
  ∃ t3:Bool,(v1=(.bool t3)/\rt σ2 R (.bool t3)))) (∃ ys4:List (Int×Int×Int),RdS [.int .i64,.int .i64,.int .i64] σ l_A l_n ys4 /\
  B0 (List.length ([]:List (Int×Int×Int))+List.length ys4) (exl 55 [.int .i64,.int .i64,.int .i64] (([]:List (Int×Int×Int))++ys4) σ (fun A5 l5 c5 σ6=>
  cl Tryz.prog (.func (.func 15) #[] #[]) #[.slice A5 l5 c5] σ6 (fun v7 σ8=>∃ A9:Option Addr,∃ l9 c9:Nat,∃ n10:Int,(v7=(.tuple #[.slice A9 l9 c9,.int .i64 n10]) /\
  bc (!decide (n10=0)) (cl Tryz.prog (.func (.func 11) #[] #[]) #[] σ8 (fun v11 σ12=>∃ t13:Bool,(v11=(.bool t13) /\
  rt σ12 R (.bool t13)))) ((0<=((l_n:Nat):Int)/\((l_n:Nat):Int)<=((l_n:Nat):Int)/\((l_n:Nat):Int)<=(1000000000:Int) /\
  cut (α:=Hp->Prop) (fun  σ15=>∀ _:Nat->Value,cl Tryz.prog (.func (.func 11) #[] #[]) #[] σ15 (fun v17 σ18=>
  ∃ t19:Bool,(v17=(.bool t19)/\rt σ18 R (.bool t19)))) (fun J16=>∃ I22:Nat->Int->List Bool->Hp->Prop,(∃ n230,I22 n230 0 (List.replicate (((l_n:Nat):Int):Int).toNat false:List Bool) σ8) /\
  ∀ n23:Nat,∀ n24:Int,∀ xs25:List Bool,∀ σ21:Hp,I22 n23 n24 xs25 σ21->∀ _:Nat->Value,bc (decide (n24<((l9:Nat):Int))) (cut (α:=List Bool->Hp->Prop) (fun xs29 σ27=>
  ∀ _:Nat->Value,wk .i64 (n24+1) (fun n30=>bk σ27 n23 (fun m31 σ32=>I22 m31 n30 xs29 σ32))) (fun J28=>
  ix A9 l9 n24 3 (fun b33 a34=>ldI σ21 .i64 b33 a34 (fun n35=>ldI σ21 .i64 b33 (a34+1) (fun n36=>
  ldI σ21 .i64 b33 (a34+2) (fun n37=>cut (α:=Hp->Prop) (fun  σ39=>∀ _:Nat->Value,cut (α:=Hp->Prop) (fun  σ42=>
  ∀ _:Nat->Value,cut (α:=Hp->Prop) (fun  σ45=>∀ _:Nat->Value,(0<=n35/\n35<((List.length xs25:Nat):Int) /\
  lat xs25 ((n35:Int).toNat) (fun _=>(0<=n36/\n36<((List.length (List.set xs25 ((n35:Int).toNat) true):Nat):Int) /\
  lat (List.set xs25 ((n35:Int).toNat) true) ((n36:Int).toNat) (fun _=>J28 (List.set (List.set xs25 ((n35:Int).toNat) true) ((n36:Int).toNat) true) σ45))))) (fun J46=>
  ∃ I51:Nat->Int->Hp->Prop,(∃ n520,I51 n520 0 σ42)/\∀ n52:Nat,∀ n53:Int,∀ σ50:Hp,I51 n52 n53 σ50->∀ _:Nat->Value,bc (decide (n53<((l_n:Nat):Int))) (cut (α:=Hp->Prop) (fun  σ55=>
  ∀ _:Nat->Value,wk .i64 (n53+1) (fun n57=>bk σ55 n52 (fun m58 σ59=>I51 m58 n57 σ59))) (fun J56=>
  cut (α:=Hp->Prop) (fun  σ61=>∀ _:Nat->Value,cut (α:=Bool->Hp->Prop) (fun t66 σ64=>∀ _:Nat->Value,
  bc t66 (rt σ64 R (.bool false)) (J56 σ64)) (fun J65=>ix l_A l_n n53 3 (fun b67 a68=>ldI σ61 .i64 b67 (a68+1) (fun n69=>
  bc (decide (n69=1)) (ix l_A l_n n53 3 (fun b70 a71=>ldI σ61 .i64 b70 a71 (fun n72=>ldI σ61 .i64 b70 (a71+1) (fun n73=>
  ldI σ61 .i64 b70 (a71+2) (fun n74=>ix l_A l_n n36 3 (fun b75 a76=>ldI σ61 .i64 b75 a76 (fun n77=>
  ldI σ61 .i64 b75 (a76+1) (fun n78=>ldI σ61 .i64 b75 (a76+2) (fun n79=>cl Tryz.prog (.func (.func 17) #[] #[]) #[(.agg #[.int .i64 n72,.int .i64 n73,.int .i64 n74]),(.agg #[.int .i64 n77,.int .i64 n78,.int .i64 n79])] σ61 (fun v80 σ81=>
  ∃ t82:Bool,(v80=(.bool t82)/\bc t82 (J65 true σ81) (ix l_A l_n n53 3 (fun b83 a84=>ldI σ81 .i64 b83 (a84+1) (fun n85=>
  bc (decide (n85=2)) (ix l_A l_n n35 3 (fun b86 a87=>ldI σ81 .i64 b86 a87 (fun n88=>ldI σ81 .i64 b86 (a87+1) (fun n89=>
  ldI σ81 .i64 b86 (a87+2) (fun n90=>ix l_A l_n n53 3 (fun b91 a92=>ldI σ81 .i64 b91 a92 (fun n93=>
  ldI σ81 .i64 b91 (a92+1) (fun n94=>ldI σ81 .i64 b91 (a92+2) (fun n95=>cl Tryz.prog (.func (.func 17) #[] #[]) #[(.agg #[.int .i64 n88,.int .i64 n89,.int .i64 n90]),(.agg #[.int .i64 n93,.int .i64 n94,.int .i64 n95])] σ81 (fun v96 σ97=>
  ∃ t98:Bool,(v96=(.bool t98)/\J65 t98 σ97))))))))))) (J65 false σ81))))))))))))))) (ix l_A l_n n53 3 (fun b99 a100=>
  ldI σ61 .i64 b99 (a100+1) (fun n101=>bc (decide (n101=2)) (ix l_A l_n n35 3 (fun b102 a103=>ldI σ61 .i64 b102 a103 (fun n104=>
  ldI σ61 .i64 b102 (a103+1) (fun n105=>ldI σ61 .i64 b102 (a103+2) (fun n106=>ix l_A l_n n53 3 (fun b107 a108=>
  ldI σ61 .i64 b107 a108 (fun n109=>ldI σ61 .i64 b107 (a108+1) (fun n110=>ldI σ61 .i64 b107 (a108+2) (fun n111=>
  cl Tryz.prog (.func (.func 17) #[] #[]) #[(.agg #[.int .i64 n104,.int .i64 n105,.int .i64 n106]),(.agg #[.int .i64 n109,.int .i64 n110,.int .i64 n111])] σ61 (fun v112 σ113=>
  ∃ t114:Bool,(v112=(.bool t114)/\J65 t114 σ113))))))))))) (J65 false σ61)))))))) (fun J62=>cut (α:=Bool->Hp->Prop) (fun t118 σ116=>
  ∀ _:Nat->Value,bc t118 (J56 σ116) (J62 σ116)) (fun J117=>(0<=n53/\n53<((List.length xs25:Nat):Int) /\
  lat xs25 ((n53:Int).toNat) (fun r119=>bc r119 (J117 true σ50) (bc (decide (n53=n35)) (J117 true σ50) (bc (decide (n53=n36)) (J117 true σ50) (ix l_A l_n n53 3 (fun b120 a121=>
  ldI σ50 .i64 b120 a121 (fun n122=>J117 (decide (n37<=n122)) σ50))))))))))) (J46 σ50))) (fun J43=>
  cut (α:=Bool->Hp->Prop) (fun t126 σ124=>∀ _:Nat->Value,bc t126 (rt σ124 R (.bool false)) (J43 σ124)) (fun J125=>
  ix l_A l_n n35 3 (fun b127 a128=>ldI σ39 .i64 b127 a128 (fun n129=>ldI σ39 .i64 b127 (a128+1) (fun n130=>
  ldI σ39 .i64 b127 (a128+2) (fun n131=>ix l_A l_n n36 3 (fun b132 a133=>ldI σ39 .i64 b132 a133 (fun n134=>
  ldI σ39 .i64 b132 (a133+1) (fun n135=>ldI σ39 .i64 b132 (a133+2) (fun n136=>cl Tryz.prog (.func (.func 17) #[] #[]) #[(.agg #[.int .i64 n129,.int .i64 n130,.int .i64 n131]),(.agg #[.int .i64 n134,.int .i64 n135,.int .i64 n136])] σ39 (fun v137 σ138=>
  ∃ t139:Bool,(v137=(.bool t139)/\bc (!t139) (J125 true σ138) (ix l_A l_n n35 3 (fun b140 a141=>
  ldI σ138 .i64 b140 a141 (fun n142=>bc (decide (n37<n142)) (J125 true σ138) (ix l_A l_n n36 3 (fun b143 a144=>
  ldI σ138 .i64 b143 a144 (fun n145=>J125 (decide (n37<n145)) σ138))))))))))))))))))) (fun J40=>cut (α:=Bool->Hp->Prop) (fun t149 σ147=>
  ∀ _:Nat->Value,bc t149 (rt σ147 R (.bool false)) (J40 σ147)) (fun J148=>bc (decide (n35<0)) (J148 true σ21) (bc (decide (((l_n:Nat):Int)<=n35)) (J148 true σ21) (bc (decide (n36<0)) (J148 true σ21) (bc (decide (((l_n:Nat):Int)<=n36)) (J148 true σ21) ((0<=n35 /\
  n35<((List.length xs25:Nat):Int)/\lat xs25 ((n35:Int).toNat) (fun r150=>bc r150 (J148 true σ21) ((0<=n36 /\
  n36<((List.length xs25:Nat):Int)/\lat xs25 ((n36:Int).toNat) (fun r151=>bc r151 (J148 true σ21) (ix l_A l_n n35 3 (fun b152 a153=>
  ldI σ21 .i64 b152 (a153+1) (fun n154=>bc (!decide (n154=1)) (J148 true σ21) (ix l_A l_n n36 3 (fun b155 a156=>
  ldI σ21 .i64 b155 (a156+1) (fun n157=>J148 (!decide (n157=2)) σ21))))))))))))))))))))))) (J16 σ21)))))))))
def Aa:OA:=⟨[],false,[]⟩
def Hw:MAn:=(.seq (.txt []) (.seq (.seq (.txt []) (.cond (.seq (.txt []) .leaf) .leaf)) (.seq (.txt []) (.seq (.seq (.txt []) (.cond (.seq (.txt []) .leaf) .leaf)) (.seq (.txt []) (.cut ⟨[false,false],2,[],[]⟩ (.seq (.txt []) (.block (.loop ⟨[false,false],2,[.slot 5 (.hl 1 0),.slot 6 (.sc (.int .i64)),.modl 1 0 4 [.bool]],[(0,true),(3,true)]⟩ (.seq (.seq (.txt []) (.cond .leaf .leaf)) (.cut ⟨[false,false],2,[.slot 5 (.hl 1 0),.modl 1 0 4 [.bool]],[(0,true),(3,true),(6,true)]⟩ (.block (.seq (.txt []) (.cut ⟨[false,true,true],3,[.slot 5 (.hl 1 0),.slot 7 (.hb 2 0)],[(0,true),(3,true),(6,true)]⟩ (.cut ⟨[false,true,true],3,[.slot 5 (.hl 1 0),.slot 7 (.hb 2 0),.slot 89 (.sc (.bool))],[(0,true),(3,true),(6,true)]⟩ (.txt [Aa,Aa,Aa,⟨[],true,[]⟩,Aa,Aa,Aa,Aa,Aa,Aa,⟨[],true,[]⟩,Aa,Aa,Aa,Aa,⟨[],true,[]⟩,Aa,Aa,Aa,Aa,Aa,Aa,⟨[],true,[]⟩,Aa,Aa,Aa,Aa,Aa,Aa,⟨[],true,[]⟩,Aa,Aa,Aa,Aa,Aa,Aa,⟨[],true,[]⟩,Aa,Aa,Aa,Aa,Aa,Aa,Aa,Aa,⟨[],true,[]⟩]) (.cond (.seq (.txt []) .leaf) .leaf)) (.cut ⟨[false,true,true],3,[.slot 5 (.hl 1 0),.slot 7 (.hb 2 0)],[(0,true),(3,true),(6,true)]⟩ (.cut ⟨[false,true,true],3,[.slot 5 (.hl 1 0),.slot 7 (.hb 2 0),.slot 123 (.sc (.bool))],[(0,true),(3,true),(6,true)]⟩ (.plan [10] (tkVW2 10 0 Aa (.alt 10 false Aa (.take 11 Aa (.take 12 ⟨[],true,[]⟩ (tkVW2 10 13 Aa (.take 23 ⟨[],true,[]⟩ (tkVW2 10 24 Aa .done))))) .done))) (.cond (.seq (.txt []) .leaf) .leaf)) (.cut ⟨[false,true,true],3,[.slot 5 (.hl 1 0),.slot 7 (.hb 2 0)],[(0,true),(3,true),(6,true)]⟩ (.seq (.txt []) (.block (.loop ⟨[false,true,true],3,[.slot 5 (.hl 1 0),.slot 7 (.hb 2 0),.slot 8 (.sc (.int .i64))],[(0,true),(3,true),(6,true)]⟩ (.seq (.seq (.txt []) (.cond .leaf .leaf)) (.cut ⟨[false,true,true],3,[.slot 5 (.hl 1 0),.slot 7 (.hb 2 0)],[(0,true),(3,true),(6,true),(8,true)]⟩ (.block (.cut ⟨[false,true,true],3,[.slot 5 (.hl 1 0),.slot 7 (.hb 2 0)],[(0,true),(3,true),(6,true),(8,true)]⟩ (.cut ⟨[false,true,true],3,[.slot 5 (.hl 1 0),.slot 7 (.hb 2 0),.slot 155 (.sc (.bool))],[(0,true),(3,true),(6,true),(8,true)]⟩ (.plan [] (tkVW2 4 0 Aa (.take 4 ⟨[],true,[]⟩ (tkVW2 5 5 Aa (.take 10 ⟨[],true,[]⟩ (tkVW2 5 11 Aa (.take 16 ⟨[],true,[]⟩ (tkVW2 9 17 Aa .done)))))))) (.cond .leaf .leaf)) (.cut ⟨[false,true,true],3,[.slot 5 (.hl 1 0),.slot 7 (.hb 2 0),.slot 193 (.sc (.bool))],[(0,true),(3,true),(6,true),(8,true)]⟩ (.plan [16,35] (tkVW2 6 0 Aa (.take 6 ⟨[],true,[]⟩ (tkVW2 9 7 Aa (.alt 16 false Aa (.take 17 Aa (.take 18 ⟨[],true,[]⟩ (tkVW2 6 19 Aa (.take 25 ⟨[],true,[]⟩ (tkVW2 9 26 Aa (.alt 35 false Aa (.take 36 Aa (.take 37 Aa .done)) .done)))))) .done))))) (.cond (.seq (.txt []) .leaf) .leaf)))) (.txt [])))))) (.seq (.txt []) (.txt []))))))) (.txt [])))))) (.seq (.txt []) .leaf)))))))
set_option maxRecDepth 100000 in
theorem Hz (σ:Hp) (l_A:Option Addr) (l_n l_c:Nat) (R:Value->Hp->Prop) (h:Cp σ l_A l_n l_c R):Ae Tryz.prog 5 #[.slice l_A l_n l_c] σ R:=
 Ad Wp Hw Tryz.func5 rfl (by kernel_rfl) (by kernel_rfl) (by kernel_rfl) h
end Go.Proofs.YtoelhdjloaknbaaGreat
