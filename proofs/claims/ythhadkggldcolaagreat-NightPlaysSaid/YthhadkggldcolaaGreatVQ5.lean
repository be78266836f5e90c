/- Trimmed by wip/trim.py to what this claim rests on. -/
import Derived.Test.YthhadkggldcolaaGreatVB11
namespace Go.Proofs.YthhadkggldcolaaGreat
open Go.RowKit
def tkVQ5:Nat->Nat->OA->MPlan->MPlan
 |0,_,_,x=>x
 |n+1,i,a,x=>.take i a (tkVQ5 n (i+1) a x)
theorem Ab7:Tryz.prog.follows .mixedOrders=true:=by kernel_rfl
abbrev Ma:FuncId:=128
def GY (σ:Hp) (c0:Option Addr) (a0 b0:Nat) (d0:Int) (l_A:Option Addr) (l_n l_c:Nat) (R:Value->Hp->Prop):Prop:=
 cut (α:=Option Addr->Hp->Prop) (fun p4 σ2=>∀ _:Nat->Value,cut (α:=Hp->Prop) (fun  σ6=>
  ∀ _:Nat->Value,cut (α:=Hp->Prop) (fun  σ9=>∀ _:Nat->Value,cut (α:=Hp->Prop) (fun  σ12=>
  ∀ _:Nat->Value,rt σ12 R (.pointer p4)) (fun J13=>dr p4 (fun b14 o15=>st σ9 b14 (o15+3) (.int .i64 0) (fun σ16=>
  ∃ I19:Nat->Hp->Prop,(∃ n200,I19 n200 σ16)/\∀ n20:Nat,∀ σ18:Hp,I19 n20 σ18->∀ _:Nat->Value,dr p4 (fun b21 o22=>
  ldI σ18 .i64 b21 (o22+3) (fun n23=>bc (decide (n23<=4000)) (cl Tryz.prog (.func (.func 193) #[] #[]) #[.pointer p4] σ18 (fun _ σ25=>
  dr p4 (fun b26 o27=>ldI σ25 .i64 b26 (o27+3) (fun n28=>wk .i64 (n28+1) (fun n29=>dr p4 (fun b30 o31=>
  st σ25 b30 (o31+3) (.int .i64 n29) (fun σ32=>bk σ32 n20 (fun m33 σ34=>I19 m33 σ34)))))))) (J13 σ18))))))) (fun J10=>
  ∃ I37:Nat->Int->Hp->Prop,(∃ n380,I37 n380 0 σ6)/\∀ n38:Nat,∀ n39:Int,∀ σ36:Hp,I37 n38 n39 σ36->∀ _:Nat->Value,bc (decide (n39<((l_n:Nat):Int))) (dr p4 (fun b40 o41=>
  ldS σ36 b40 (o41+4) (fun A42 l42 c42=>ix l_A l_n n39 5 (fun b43 a44=>ldI σ36 .i64 b43 (a44+2) (fun n45=>
  adp 262 [.int .i64,.int .i64,.int .i64,.int .i64] A42 l42 c42 σ36 (fun (xs46:List (Int×Int×Int×Int)) σ47=>
  Bm (List.length xs46+List.length ([(0,(-1),0,n45)]:List (Int×Int×Int×Int))) (dr p4 (fun b48 o49=>
  exl 262 [.int .i64,.int .i64,.int .i64,.int .i64] (xs46++([(0,(-1),0,n45)]:List (Int×Int×Int×Int))) σ47 (fun A50 l50 c50 σ51=>
  st σ51 b48 (o49+4) (.slice A50 l50 c50) (fun σ52=>dr p4 (fun b53 o54=>ldS σ52 b53 (o54+11) (fun A55 l55 _=>
  ix A55 l55 n39 1 (fun b56 a57=>st σ52 b56 a57 (.int .i64 (-1)) (fun σ58=>wk .i64 (n39+1) (fun n59=>
  bk σ58 n38 (fun m60 σ61=>I37 m60 n59 σ61)))))))))))))))) (J10 σ36))) (fun J7=>∃ I64:Nat->Int->Hp->Prop,(∃ n650,I64 n650 0 σ2) /\
  ∀ n65:Nat,∀ n66:Int,∀ σ63:Hp,I64 n65 n66 σ63->∀ _:Nat->Value,bc (decide (n66<((a0:Nat):Int))) (dr p4 (fun b67 o68=>
  ldS σ63 b67 (o68+6) (fun A69 l69 _=>ix A69 l69 n66 1 (fun b70 a71=>st σ63 b70 a71 (.int .i64 (-1)) (fun σ72=>
  dr p4 (fun b73 o74=>ldS σ72 b73 (o74+7) (fun A75 l75 _=>ix A75 l75 n66 1 (fun b76 a77=>st σ72 b76 a77 (.int .i64 (-1)) (fun σ78=>
  wk .i64 (n66+1) (fun n79=>bk σ78 n65 (fun m80 σ81=>I64 m80 n79 σ81))))))))))) (J7 σ63))) (fun J3=>
  Yf (exl 26 [.slc] (List.replicate (((a0:Nat):Int):Int).toNat (none,0,0):List ((Option Addr×Nat×Nat))) σ (fun A82 l82 c82 σ83=>
  exl 3 [.int .i64] (List.replicate (((a0:Nat):Int):Int).toNat 0:List Int) σ83 (fun A84 l84 c84 σ85=>
  exl 3 [.int .i64] (List.replicate (((a0:Nat):Int):Int).toNat 0:List Int) σ85 (fun A86 l86 c86 σ87=>
  exl 3 [.int .i64] (List.replicate (((a0:Nat):Int):Int).toNat 0:List Int) σ87 (fun A88 l88 c88 σ89=>
  exl 3 [.int .i64] (List.replicate (((a0:Nat):Int):Int).toNat 0:List Int) σ89 (fun A90 l90 c90 σ91=>
  exl 3 [.int .i64] (List.replicate (((l_n:Nat):Int):Int).toNat 0:List Int) σ91 (fun A92 l92 c92 σ93=>
  bx σ93 (.cells #[.slice c0 a0 b0,.int .i64 d0,.slice l_A l_n l_c,.int .i64 0,.slice none 0 0,.slice A82 l82 c82,.slice A84 l84 c84,.slice A86 l86 c86,.slice none 0 0,.slice A88 l88 c88,.slice A90 l90 c90,.slice A92 l92 c92] 196) (fun b94 σ95=>
  J3 (some ⟨b94,0,none⟩) σ95)))))))) 6 [(fun KKK=>(0<=((a0:Nat):Int)/\((a0:Nat):Int)<=((a0:Nat):Int) /\
  ((a0:Nat):Int)<=(1000000000:Int)/\KKK)),(fun KKK=>(0<=((a0:Nat):Int) /\
  ((a0:Nat):Int)<=((a0:Nat):Int)/\((a0:Nat):Int)<=(1000000000:Int) /\
  KKK)),(fun KKK=>(0<=((a0:Nat):Int)/\((a0:Nat):Int)<=((a0:Nat):Int) /\
  ((a0:Nat):Int)<=(1000000000:Int)/\KKK)),(fun KKK=>(0<=((a0:Nat):Int) /\
  ((a0:Nat):Int)<=((a0:Nat):Int)/\((a0:Nat):Int)<=(1000000000:Int) /\
  KKK)),(fun KKK=>(0<=((a0:Nat):Int)/\((a0:Nat):Int)<=((a0:Nat):Int) /\
  ((a0:Nat):Int)<=(1000000000:Int)/\KKK)),(fun KKK=>(0<=((l_n:Nat):Int)/\((l_n:Nat):Int)<=((l_n:Nat):Int) /\
  ((l_n:Nat):Int)<=(1000000000:Int)/\KKK))])
def Av:OA:=⟨[],false,[]⟩
def PL:MAn:=(.seq (.txt []) (.seq (.txt []) (.cut ⟨[true],1,[.slot 6 (.sc (.ptr))],[(1,true),(5,true)]⟩ (.plan [] (.take 0 Av (.take 1 Av (.take 2 Av (.take 4 Av (.take 6 Av (.take 8 Av (.take 10 Av (.take 12 Av (.take 13 Av (WI (.take 15 Av (.alt 16 true Av (.take 17 Av .done) .done)) true 6 [(3,Av),(5,Av),(7,Av),(9,Av),(11,Av),(14,Av)]))))))))))) (.cut ⟨[true],1,[],[(1,true),(6,true)]⟩ (.seq (.txt []) (.block (.loop ⟨[true],1,[.slot 7 (.sc (.int .i64))],[(1,true),(5,true),(6,true)]⟩ (.seq (.seq (.txt []) (.cond .leaf .leaf)) (.seq (.block (.seq (.txt []) (.txt []))) (.txt [])))))) (.cut ⟨[true],1,[],[(6,true)]⟩ (.seq (.txt []) (.block (.loop ⟨[true],1,[.slot 8 (.sc (.int .i64))],[(1,true),(6,true)]⟩ (.seq (.seq (.txt []) (.cond .leaf .leaf)) (.seq (.block (.seq (.plan [12,15] (tkVQ5 11 0 Av (.alt 11 true Av (.alt 12 false Av (.take 13 Av (.take 14 Av (.alt 15 false Av .done .done))) .done) .done))) (.txt []))) (.txt [])))))) (.cut ⟨[true],1,[],[(6,true)]⟩ (.seq (.txt []) (.block (.loop ⟨[true],1,[],[(6,true)]⟩ (.seq (.seq (.txt []) (.cond .leaf .leaf)) (.seq (.block (.txt [])) (.txt [])))))) (.seq (.txt []) .leaf)))))))
set_option maxRecDepth 100000 in
theorem Pu (σ:Hp) (c0:Option Addr) (a0 b0:Nat) (d0:Int) (l_A:Option Addr) (l_n l_c:Nat) (R:Value->Hp->Prop) (h:GY σ c0 a0 b0 d0 l_A l_n l_c R):Af Tryz.prog 128 #[(.agg #[.slice c0 a0 b0,.int .i64 d0]),.slice l_A l_n l_c] σ R:=
 Ae Ab7 PL Tryz.func128 rfl (by kernel_rfl) (by kernel_rfl) (by kernel_rfl) h
theorem MO:Ao Tryz.prog 128=true:=by kernel_rfl
end Go.Proofs.YthhadkggldcolaaGreat
