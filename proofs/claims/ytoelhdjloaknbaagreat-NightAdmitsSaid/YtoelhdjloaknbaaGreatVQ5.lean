/- What this claim rests on. -/
import Derived.Test.YtoelhdjloaknbaaGreatVB11
namespace Go.Proofs.YtoelhdjloaknbaaGreat
open Go.RowKit Go.Proofs.Tryz
def aT (x:MAn):MAn:=.seq (.txt []) x
def tkVQ5:Nat->Nat->OA->MPlan->MPlan
 |0,_,_,x=>x
 |n+1,i,a,x=>.take i a (tkVQ5 n (i+1) a x)
theorem Ab5:prog.follows .mixedOrders=true:=by kernel_rfl
def Hv (σ:Hp) (c0:aA) (a0 b0:Nat) (d0:Int) (l_A:aA) (l_n l_c:Nat) (R:aB):Prop:=
 cut (α:=aA->Hp->Prop) (fun p4 σ2=>∀ _:Nat->Value,aF (fun s6=>aF (fun s9=>aF (fun s12=>rt s12 R (.pointer p4)) (fun J13=>dr p4 (fun b14 o15=>st s9 b14 (o15+3) (aD 0) (fun s16=>
  ∃ I19:Nat->Hp->Prop,(∃ n200,I19 n200 s16)/\∀ n20 s18,I19 n20 s18->∀ _:Nat->Value,dr p4 (fun b21 o22=>
  ldI s18 .i64 b21 (o22+3) (fun n23=>bc (decide (n23<=4000)) (aC 164 #[.pointer p4] s18 (fun _ s25=>
  dr p4 (fun b26 o27=>ldI s25 .i64 b26 (o27+3) (fun n28=>wk .i64 (n28+1) (fun n29=>dr p4 (fun b30 o31=>
  st s25 b30 (o31+3) (aD n29) (fun s32=>bk s32 n20 (fun m33 s34=>I19 m33 s34)))))))) (J13 s18))))))) (fun J10=>
  ∃ I37:Nat->Int->Hp->Prop,(∃ n380,I37 n380 0 s6)/\∀ n38 n39 s36,I37 n38 n39 s36->∀ _:Nat->Value,bc (decide (n39<(l_n:Int))) (dr p4 (fun b40 o41=>
  ldS s36 b40 (o41+4) (fun A42 l42 c42=>ix l_A l_n n39 5 (fun b43 a44=>ldI s36 .i64 b43 (a44+2) (fun n45=>
  adp 237 [.int .i64,.int .i64,.int .i64,.int .i64] A42 l42 c42 s36 (fun (xs46:List (Int×Int×Int×Int)) s47=>
  Bi (List.length xs46+List.length ([(0,(-1),0,n45)]:List (Int×Int×Int×Int))) (dr p4 (fun b48 o49=>
  exl 237 [.int .i64,.int .i64,.int .i64,.int .i64] (xs46++([(0,(-1),0,n45)]:List (Int×Int×Int×Int))) s47 (fun A50 l50 c50 s51=>
  st s51 b48 (o49+4) (aN A50 l50 c50) (fun s52=>dr p4 (fun b53 o54=>ldS s52 b53 (o54+11) (fun A55 l55 _=>
  ix A55 l55 n39 1 (fun b56 a57=>st s52 b56 a57 (aD (-1)) (fun s58=>wk .i64 (n39+1) (fun n59=>
  bk s58 n38 (fun m60 s61=>I37 m60 n59 s61)))))))))))))))) (J10 s36))) (fun J7=>∃ I64:Nat->Int->Hp->Prop,(∃ n650,I64 n650 0 σ2) /\
  ∀ n65 n66 s63,I64 n65 n66 s63->∀ _:Nat->Value,bc (decide (n66<(a0:Int))) (dr p4 (fun b67 o68=>
  ldS s63 b67 (o68+6) (fun A69 l69 _=>ix A69 l69 n66 1 (fun b70 a71=>st s63 b70 a71 (aD (-1)) (fun s72=>
  dr p4 (fun b73 o74=>ldS s72 b73 (o74+7) (fun A75 l75 _=>ix A75 l75 n66 1 (fun b76 a77=>st s72 b76 a77 (aD (-1)) (fun s78=>
  wk .i64 (n66+1) (fun n79=>bk s78 n65 (fun m80 s81=>I64 m80 n79 s81))))))))))) (J7 s63))) (fun J3=>
  YT (exl 26 [.slc] (List.replicate ((a0:Int):Int).toNat (none,0,0):List ((aA×Nat×Nat))) σ (fun A82 l82 c82 s83=>
  exl 3 aM (List.replicate ((a0:Int):Int).toNat 0:List Int) s83 (fun A84 l84 c84 s85=>
  exl 3 aM (List.replicate ((a0:Int):Int).toNat 0:List Int) s85 (fun A86 l86 c86 s87=>
  exl 3 aM (List.replicate ((a0:Int):Int).toNat 0:List Int) s87 (fun A88 l88 c88 s89=>
  exl 3 aM (List.replicate ((a0:Int):Int).toNat 0:List Int) s89 (fun A90 l90 c90 s91=>
  exl 3 aM (List.replicate ((l_n:Int):Int).toNat 0:List Int) s91 (fun A92 l92 c92 s93=>
  bx s93 (.cells #[aN c0 a0 b0,aD d0,aN l_A l_n l_c,aD 0,aN none 0 0,aN A82 l82 c82,aN A84 l84 c84,aN A86 l86 c86,aN none 0 0,aN A88 l88 c88,aN A90 l90 c90,aN A92 l92 c92] 178) (fun b94 s95=>
  J3 (some ⟨b94,0,none⟩) s95)))))))) 6 [(fun KKK=>(0<=(a0:Int)/\(a0:Int)<=(a0:Int) /\
  (a0:Int)<=(1000000000:Int)/\KKK)),(fun KKK=>(0<=(a0:Int) /\
  (a0:Int)<=(a0:Int)/\(a0:Int)<=(1000000000:Int) /\
  KKK)),(fun KKK=>(0<=(a0:Int)/\(a0:Int)<=(a0:Int) /\
  (a0:Int)<=(1000000000:Int)/\KKK)),(fun KKK=>(0<=(a0:Int) /\
  (a0:Int)<=(a0:Int)/\(a0:Int)<=(1000000000:Int) /\
  KKK)),(fun KKK=>(0<=(a0:Int)/\(a0:Int)<=(a0:Int) /\
  (a0:Int)<=(1000000000:Int)/\KKK)),(fun KKK=>(0<=(l_n:Int)/\(l_n:Int)<=(l_n:Int) /\
  (l_n:Int)<=(1000000000:Int)/\KKK))])
def Ax:OA:=⟨[],false,[]⟩
def Q5:MAn:=(aT (aT (.cut ⟨[true],1,[.slot 6 (.sc (.ptr))],[(1,true),(5,true)]⟩ (.plan [] (.take 0 Ax (.take 1 Ax (.take 2 Ax (.take 4 Ax (.take 6 Ax (.take 8 Ax (.take 10 Ax (.take 12 Ax (.take 13 Ax (X8 (.take 15 Ax (.alt 16 true Ax (.take 17 Ax .done) .done)) true 6 [(3,Ax),(5,Ax),(7,Ax),(9,Ax),(11,Ax),(14,Ax)]))))))))))) (.cut ⟨[true],1,[],[(1,true),(6,true)]⟩ (aT (.block (.loop ⟨[true],1,[.slot 7 (.sc (.int .i64))],[(1,true),(5,true),(6,true)]⟩ (.seq (aT (.cond .leaf .leaf)) (.seq (.block (aT (.txt []))) (.txt [])))))) (.cut ⟨[true],1,[],[(6,true)]⟩ (aT (.block (.loop ⟨[true],1,[.slot 8 (.sc (.int .i64))],[(1,true),(6,true)]⟩ (.seq (aT (.cond .leaf .leaf)) (.seq (.block (.seq (.plan [12,15] (tkVQ5 11 0 Ax (.alt 11 true Ax (.alt 12 false Ax (.take 13 Ax (.take 14 Ax (.alt 15 false Ax .done .done))) .done) .done))) (.txt []))) (.txt [])))))) (.cut ⟨[true],1,[],[(6,true)]⟩ (aT (.block (.loop ⟨[true],1,[],[(6,true)]⟩ (.seq (aT (.cond .leaf .leaf)) (.seq (.block (.txt [])) (.txt [])))))) (aT .leaf)))))))
set_option maxRecDepth 100000 in
theorem QQ (σ:Hp) (c0:aA) (a0 b0:Nat) (d0:Int) (l_A:aA) (l_n l_c:Nat) (R:aB) (h:Hv σ c0 a0 b0 d0 l_A l_n l_c R):Af prog 101 #[(.agg #[aN c0 a0 b0,aD d0]),aN l_A l_n l_c] σ R:=
 Ae Ab5 Q5 Tryz.func101 rfl (h:=h)
end Go.Proofs.YtoelhdjloaknbaaGreat
