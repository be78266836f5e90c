/- What this claim rests on. -/
import Derived.Test.YtoelhdjloaknbaaGreatUB11
namespace Go.Proofs.YtoelhdjloaknbaaGreat
open Go.RowKit Go.Proofs.Tryz
def aS (x:MAn):MAn:=.seq (.txt []) x
def tkUW2:Nat->Nat->OA->MPlan->MPlan
 |0,_,_,x=>x
 |n+1,i,a,x=>.take i a (tkUW2 n (i+1) a x)
theorem YU:prog.follows .mixedOrders=true:=by kernel_rfl
def Eo (σ:Hp) (e0:aA) (d0 c0:Nat) (p0:Int) (s0:aA) (q0 t0:Nat) (r0:aA) (u0 m0:Nat) (g0:aA) (k0 l0:Nat) (w0:aA) (y0 x0:Nat) (f1:Int) (a0:aA) (b0 f0:Nat) (j0:aA) (h0 i0:Nat) (n0 v0 o0:Int) (z0:aA) (b1 a1:Nat) (d1:aA) (c1 e1:Nat) (l_A:aA) (l_n l_c:Nat) (most:Int) (R:aB):Prop:=
 aF (fun σ2=>aC 13 #[(.agg #[aN e0 d0 c0,aD p0,aN s0 q0 t0,aN r0 u0 m0,aN g0 k0 l0,aN w0 y0 x0,aD f1,aN a0 b0 f0,aN j0 h0 i0,aD n0,aD v0,aD o0,aN z0 b1 a1,aN d1 c1 e1])] σ2 (fun v4 s5=>
  ∃ A6:aA,∃ l6 c6:Nat,∃ n7:Int,∃ A8:aA,∃ l8 c8:Nat,∃ A9:aA,∃ l9 c9:Nat,∃ A10:aA,∃ l10 c10:Nat,∃ A11:aA,∃ l11 c11:Nat,∃ n12:Int,∃ A13:aA,∃ l13 c13:Nat,∃ A14:aA,∃ l14 c14:Nat,∃ n15 n16 n17:Int,∃ A18:aA,∃ l18 c18:Nat,∃ A19:aA,∃ l19 c19:Nat,(v4=(.agg #[aN A6 l6 c6,aD n7,aN A8 l8 c8,aN A9 l9 c9,aN A10 l10 c10,aN A11 l11 c11,aD n12,aN A13 l13 c13,aN A14 l14 c14,aD n15,aD n16,aD n17,aN A18 l18 c18,aN A19 l19 c19]) /\
  aC 20 #[aN l_A l_n l_c] s5 (fun v20 s21=>∃ A22:aA,∃ l22 c22:Nat,(v20=(aN A22 l22 c22) /\
  (Hp.Sub s5 s21/\aC 19 #[(.agg #[aN A6 l6 c6,aD n7,aN A8 l8 c8,aN A9 l9 c9,aN A10 l10 c10,aN A11 l11 c11,aD n12,aN A13 l13 c13,aN A14 l14 c14,aD n15,aD n16,aD n17,aN A18 l18 c18,aN A19 l19 c19]),aN A22 l22 c22,aD most] s21 (fun v23 s24=>
  ∃ A25:aA,∃ l25 c25:Nat,∃ n26:Int,(v23=(.tuple #[aN A25 l25 c25,aD n26]) /\
  bc (!decide (n26=0)) (aC 11 #[] s24 (fun v27 s28=>∃ t29:Bool,(v27=(.bool t29) /\
  rt s28 R (.bool t29)))) (aH (fun n33 s31=>cut (α:=List (Int×Int×Int×(aA×Nat×Nat)×Int)->Hp->Prop) (fun xs37 s35=>
  ∀ _:Nat->Value,exl 65 [.int .i64,.int .i64,.int .i64,.slc,.int .i64] xs37 s35 (fun A38 l38 c38 s39=>
  aC 20 #[aN A38 l38 c38] s39 (fun v40 s41=>∃ A42:aA,∃ l42 c42:Nat,(v40=(aN A42 l42 c42) /\
  (Hp.Sub s39 s41/\aC 23 #[(.agg #[aN A6 l6 c6,aD n7,aN A8 l8 c8,aN A9 l9 c9,aN A10 l10 c10,aN A11 l11 c11,aD n12,aN A13 l13 c13,aN A14 l14 c14,aD n15,aD n16,aD n17,aN A18 l18 c18,aN A19 l19 c19]),aN A42 l42 c42] s41 (fun v43 s44=>
  ∃ n45 n46:Int,(v43=(.tuple #[aD n45,aD n46])/\bc (decide (n46=0)) (bc (decide (n45<=most)) (bc (decide (most<n33)) (aC 11 #[] s44 (aI fun t49 s48=>(rt s48 R (.bool t49)))) (bc (decide ((l25:Int)=(l_n:Int))) (aC 11 #[] s44 (aI fun t52 s51=>(rt s51 R (.bool t52)))) (rt s44 R (.bool false)))) (rt s44 R (.bool false))) (rt s44 R (.bool false))))))))) (fun J36=>
  ∃ I55:Nat->List (Int×Int×Int×(aA×Nat×Nat)×Int)->Int->Hp->Prop,(∃ n560,adp 65 [.int .i64,.int .i64,.int .i64,.slc,.int .i64] none 0 0 s31 (fun (xs57:List (Int×Int×Int×(aA×Nat×Nat)×Int)) s58=>
  I55 n560 xs57 0 s58))/\∀ n56 xs59 n60 s54,I55 n56 xs59 n60 s54->∀ _:Nat->Value,bc (decide (n60<(l25:Int))) (cut (α:=List (Int×Int×Int×(aA×Nat×Nat)×Int)->Hp->Prop) (fun xs64 s62=>
  ∀ _:Nat->Value,wk .i64 (n60+1) (fun n65=>bk s62 n56 (fun m66 s67=>I55 m66 xs64 n65 s67))) (fun J63=>
  aF (fun s69=>ix A25 l25 n60 1 (fun b71 a72=>ldI s69 .i64 b71 a72 (fun n73=>
  ix l_A l_n n73 5 (fun b74 a75=>ldI s69 .i64 b74 a75 (fun n76=>ldI s69 .i64 b74 (a75+1) (fun n77=>
  ldI s69 .i64 b74 (a75+2) (fun n78=>ldS s69 b74 (a75+3) (fun A79 l79 c79=>ldI s69 .i64 b74 (a75+4) (fun n80=>
  AZ (List.length xs59+List.length ([(n76,n77,n78,(A79,l79,c79),n80)]:List (Int×Int×Int×(aA×Nat×Nat)×Int))) (J63 (xs59++([(n76,n77,n78,(A79,l79,c79),n80)]:List (Int×Int×Int×(aA×Nat×Nat)×Int))) s69)))))))))) (fun J70=>
  aG (fun t84 s82=>bc t84 (rt s82 R (.bool false)) (J70 s82)) (fun J83=>
  ix A25 l25 n60 1 (fun b85 a86=>ldI s54 .i64 b85 a86 (fun n87=>bc (decide (n87<0)) (J83 true s54) (ix A25 l25 n60 1 (fun b88 a89=>
  ldI s54 .i64 b88 a89 (fun n90=>bc (decide ((l_n:Int)<=n90)) (J83 true s54) (bc (decide ((0:Int)<n60)) (ix A25 l25 n60 1 (fun b91 a92=>
  ldI s54 .i64 b91 a92 (fun n93=>wk .i64 (n60-1) (fun n94=>ix A25 l25 n94 1 (fun b95 a96=>ldI s54 .i64 b95 a96 (fun n97=>
  J83 (decide (n93<=n97)) s54)))))) (J83 false s54))))))))))) (J36 xs59 s54))) (fun J32=>∃ I100:Nat->Int->Int->Hp->Prop,(∃ n1010,I100 n1010 0 0 s24) /\
  ∀ n101 n102 n103 s99,I100 n101 n102 n103 s99->∀ _:Nat->Value,bc (decide (n103<(l_n:Int))) (ix l_A l_n n103 5 (fun b104 a105=>
  ldI s99 .i64 b104 (a105+1) (fun n106=>wk .i64 (n102+n106) (fun n107=>wk .i64 (n103+1) (fun n108=>
  bk s99 n101 (fun m109 s110=>I100 m109 n107 n108 s110)))))) (J32 n102 s99))))))))))) (fun J3=>aG (fun t114 s112=>bc t114 (aC 11 #[] s112 (fun v115 s116=>∃ t117:Bool,(v115=(.bool t117) /\
  rt s116 R (.bool t117)))) (J3 s112)) (fun J113=>aC 18 #[(.agg #[aN e0 d0 c0,aD p0,aN s0 q0 t0,aN r0 u0 m0,aN g0 k0 l0,aN w0 y0 x0,aD f1,aN a0 b0 f0,aN j0 h0 i0,aD n0,aD v0,aD o0,aN z0 b1 a1,aN d1 c1 e1]),aN l_A l_n l_c] σ (aI fun t120 s119=>(bc t120 (J113 true s119) (J113 (decide ((12:Int)<(l_n:Int))) s119)))))
def Ac:OA:=⟨[],false,[]⟩
def KR:MAn:=(aS (.cut ⟨[true],1,[.slot 3 (.hb 0 0)],[(1,true),(2,true)]⟩ (.cut ⟨[true],1,[.slot 3 (.hb 0 0),.slot 23 (.sc (.bool))],[(1,true),(2,true)]⟩ (.txt [Ac,Ac,Ac,⟨[],true,[]⟩]) (.cond (aS .leaf) .leaf)) (aS (.seq (.plan [4] (.take 0 Ac (.take 1 Ac (.take 3 Ac (.alt 2 true Ac (.alt 4 false Ac (tkUW2 5 5 Ac .done) .done) .done))))) (.seq (aS (.cond (aS .leaf) .leaf)) (aS (aS (.cut ⟨[true,true],2,[.slot 7 (.hb 1 0),.slot 11 (.sc (.int .i64))],[(1,true),(2,true),(8,true),(10,true)]⟩ (aS (.block (.loop ⟨[true,true],2,[.slot 7 (.hb 1 0),.slot 11 (.sc (.int .i64)),.slot 12 (.sc (.int .i64))],[(1,true),(2,true),(8,true),(10,true)]⟩ (.seq (aS (.cond .leaf .leaf)) (.seq (.block (.txt [])) (.txt [])))))) (.cut ⟨[true,true],3,[.slot 7 (.hb 1 0),.slot 10 (.lst 2 65 [.int .i64,.int .i64,.int .i64,.slc,.int .i64])],[(1,true),(2,true),(8,true),(11,true)]⟩ (aS (.block (.loop ⟨[true,true],3,[.slot 7 (.hb 1 0),.slot 10 (.lst 2 65 [.int .i64,.int .i64,.int .i64,.slc,.int .i64]),.slot 13 (.sc (.int .i64))],[(1,true),(2,true),(8,true),(11,true)]⟩ (.seq (aS (.cond .leaf .leaf)) (.cut ⟨[true,true,false],3,[.slot 7 (.hb 1 0),.slot 10 (.lst 2 65 [.int .i64,.int .i64,.int .i64,.slc,.int .i64])],[(1,true),(2,true),(8,true),(11,true),(13,true)]⟩ (.block (.cut ⟨[true,true,true],3,[.slot 7 (.hb 1 0),.slot 10 (.hl 2 0)],[(1,true),(2,true),(8,true),(11,true),(13,true)]⟩ (.cut ⟨[true,true,true],3,[.slot 7 (.hb 1 0),.slot 10 (.hl 2 0),.slot 86 (.sc (.bool))],[(1,true),(2,true),(8,true),(11,true),(13,true)]⟩ (.plan [] (tkUW2 5 0 Ac (.take 5 ⟨[],true,[]⟩ (tkUW2 8 6 Ac (.take 14 ⟨[],true,[]⟩ (.take 15 Ac (.take 16 Ac (.take 17 ⟨[],true,[]⟩ (tkUW2 12 18 Ac .done))))))))) (.cond (aS .leaf) .leaf)) (.txt []))) (.txt [])))))) (.seq (.plan [3] (.take 0 Ac (.take 1 Ac (.alt 2 true Ac (.alt 3 false Ac (tkUW2 5 4 Ac .done) .done) .done)))) (.seq (.txt [Ac,Ac,⟨[],true,[]⟩,Ac,Ac,Ac,Ac,⟨[],true,[]⟩,Ac,Ac,Ac,⟨[],true,[]⟩,Ac,Ac,Ac,Ac,Ac,Ac,Ac,⟨[],true,[]⟩]) .leaf)))))))))))
set_option maxRecDepth 100000 in
theorem KO (σ:Hp) (e0:aA) (d0 c0:Nat) (p0:Int) (s0:aA) (q0 t0:Nat) (r0:aA) (u0 m0:Nat) (g0:aA) (k0 l0:Nat) (w0:aA) (y0 x0:Nat) (f1:Int) (a0:aA) (b0 f0:Nat) (j0:aA) (h0 i0:Nat) (n0 v0 o0:Int) (z0:aA) (b1 a1:Nat) (d1:aA) (c1 e1:Nat) (l_A:aA) (l_n l_c:Nat) (most:Int) (R:aB) (h:Eo σ e0 d0 c0 p0 s0 q0 t0 r0 u0 m0 g0 k0 l0 w0 y0 x0 f1 a0 b0 f0 j0 h0 i0 n0 v0 o0 z0 b1 a1 d1 c1 e1 l_A l_n l_c most R):Af prog 7 #[(.agg #[aN e0 d0 c0,aD p0,aN s0 q0 t0,aN r0 u0 m0,aN g0 k0 l0,aN w0 y0 x0,aD f1,aN a0 b0 f0,aN j0 h0 i0,aD n0,aD v0,aD o0,aN z0 b1 a1,aN d1 c1 e1]),aN l_A l_n l_c,aD most] σ R:=
 Ae YU KR Tryz.func7 rfl (h:=h)
end Go.Proofs.YtoelhdjloaknbaaGreat
