/- What this claim rests on. -/
import Derived.Test.YtoelhdjloaknbaaGreatVB11
namespace Go.Proofs.YtoelhdjloaknbaaGreat
set_option maxRecDepth 100000
open Go.RowKit Go.Proofs.Tryz
def aS (x:MAn):MAn:=.seq (.txt []) x
def tkVW1:Nat->Nat->OA->MPlan->MPlan
 |0,_,_,x=>x
 |n+1,i,a,x=>.take i a (tkVW1 n (i+1) a x)
theorem Hk:prog.follows .mixedOrders=true:=by kernel_rfl
def GI (σ:Hp) (R:aB):Prop:=
 aC 67 #[] σ (fun v1 σ2=>∃ A3:aA,∃ l3 c3:Nat,∃ n4:Int,∃ A5:aA,∃ l5 c5:Nat,(v1=(.tuple #[(.agg #[aN A3 l3 c3,aD n4]),aN A5 l5 c5]) /\
  exl 3 aM ([1]:List Int) σ2 (fun A6 l6 c6 s7=>exl 3 aM ([100,100]:List Int) s7 (fun A8 l8 c8 s9=>
  exl 138 [.int .i64,.int .i64,.int .i64,.int .i64] ([((-1),20,2,100)]:List (Int×Int×Int×Int)) s9 (fun A10 l10 c10 s11=>
  exl 140 [.int .i64,.int .i64,.int .i64,.int .i64] ([(0,0,15,0),(0,0,10,0)]:List (Int×Int×Int×Int)) s11 (fun A12 l12 c12 s13=>
  exl 136 [.int .i64,.int .i64,.int .i64,.int .i64,.int .i64] ([(5,4,0,0,0),(5,4,1,0,0)]:List (Int×Int×Int×Int×Int)) s13 (fun A14 l14 c14 s15=>
  exl 3 aM ([60,60]:List Int) s15 (fun A16 l16 c16 s17=>exl 3 aM ([2,0]:List Int) s17 (fun A18 l18 c18 s19=>
  rt s19 R (.tuple #[(.agg #[aN A3 l3 c3,aD n4,aN none 0 0,aN A6 l6 c6,aN A8 l8 c8,aN A14 l14 c14,aD 5,aN A10 l10 c10,aN A12 l12 c12,aD 50,aD 5,aD 230,aN A16 l16 c16,aN A18 l18 c18]),aN A5 l5 c5]))))))))))
def PM:MAn:=(aS (aS (aS .leaf)))
theorem OP (σ:Hp) (R:aB) (h:GI σ  R):Af prog 30 #[] σ R:=
 Ae Hk PM Tryz.func30 rfl (h:=h)
def II (σ:Hp) (R:aB):Prop:=
 aC 30 #[] σ (fun v1 σ2=>∃ A3:aA,∃ l3 c3:Nat,∃ n4:Int,∃ A5:aA,∃ l5 c5:Nat,∃ A6:aA,∃ l6 c6:Nat,∃ A7:aA,∃ l7 c7:Nat,∃ A8:aA,∃ l8 c8:Nat,∃ n9:Int,∃ A10:aA,∃ l10 c10:Nat,∃ A11:aA,∃ l11 c11:Nat,∃ n12 n13 n14:Int,∃ A15:aA,∃ l15 c15:Nat,∃ A16:aA,∃ l16 c16:Nat,∃ A17:aA,∃ l17 c17:Nat,(v1=(.tuple #[(.agg #[aN A3 l3 c3,aD n4,aN A5 l5 c5,aN A6 l6 c6,aN A7 l7 c7,aN A8 l8 c8,aD n9,aN A10 l10 c10,aN A11 l11 c11,aD n12,aD n13,aD n14,aN A15 l15 c15,aN A16 l16 c16]),aN A17 l17 c17]) /\
  aC 31 #[(.agg #[aN A3 l3 c3,aD n4,aN A5 l5 c5,aN A6 l6 c6,aN A7 l7 c7,aN A8 l8 c8,aD n9,aN A10 l10 c10,aN A11 l11 c11,aD n12,aD n13,aD n14,aN A15 l15 c15,aN A16 l16 c16])] σ2 (fun v18 s19=>
  ∃ A20:aA,∃ l20 c20:Nat,∃ n21:Int,(v18=(.tuple #[aN A20 l20 c20,aD n21]) /\
  aC 23 #[(.agg #[aN A3 l3 c3,aD n4,aN A5 l5 c5,aN A6 l6 c6,aN A7 l7 c7,aN A8 l8 c8,aD n9,aN A10 l10 c10,aN A11 l11 c11,aD n12,aD n13,aD n14,aN A15 l15 c15,aN A16 l16 c16]),aN A17 l17 c17] s19 (fun v22 s23=>
  ∃ n24 n25:Int,(v22=(.tuple #[aD n24,aD n25])/\bc (decide (n21=0)) (bc (decide (n25=0)) (bc (decide ((l20:Int)=1)) (ix A20 l20 0 1 (fun b26 a27=>
  ldI s23 .i64 b26 a27 (fun n28=>bc (decide (n28=0)) (rt s23 R (.bool (decide (n24=5)))) (rt s23 R (.bool false))))) (rt s23 R (.bool false))) (rt s23 R (.bool false))) (rt s23 R (.bool false))))))))
def Br:OA:=⟨[],false,[]⟩
def Sc:MAn:=(aS (aS (aS (aS (.seq (.txt [Br,Br,⟨[],true,[]⟩,Br,Br,Br,⟨[],true,[]⟩,Br,Br,Br,Br,⟨[],true,[]⟩,Br,Br,Br,Br,Br,⟨[],true,[]⟩]) .leaf)))))
theorem R8 (σ:Hp) (R:aB) (h:II σ  R):Af prog 11 #[] σ R:=
 Ae Hk Sc Tryz.func11 rfl (h:=h)
def ML (σ:Hp) (_:aA) (a0 _:Nat) (_:Int) (_:aA) (m0 _:Nat) (_:aA) (n0 _:Nat) (_:aA) (e0 _:Nat) (_:aA) (w0 _:Nat) (_:Int) (_:aA) (b0 _:Nat) (_:aA) (f0 _:Nat) (_ _ _:Int) (_:aA) (x0 _:Nat) (_:aA) (b1 _:Nat) (R:aB):Prop:=
 bc (decide ((10:Int)<(a0:Int))) (rt σ R (.bool true)) (bc (decide ((25:Int)<(m0:Int))) (rt σ R (.bool true)) (bc (decide ((12:Int)<(n0:Int))) (rt σ R (.bool true)) (bc (decide ((15:Int)<(e0:Int))) (rt σ R (.bool true)) (bc (decide ((60:Int)<(w0:Int))) (rt σ R (.bool true)) (bc (decide ((15:Int)<(b0:Int))) (rt σ R (.bool true)) (bc (decide ((20:Int)<(f0:Int))) (rt σ R (.bool true)) (bc (decide ((15:Int)<(x0:Int))) (rt σ R (.bool true)) (rt σ R (.bool (decide ((15:Int)<(b1:Int))))))))))))
def Av:OA:=⟨[],false,[]⟩
def UL:MAn:=(aS (.seq (.txt [Av,Av,Av,Av,Av,⟨[],true,[]⟩,Av,Av,Av,Av,Av,Av,⟨[],true,[]⟩,Av,Av,Av,Av,Av,Av,⟨[],true,[]⟩,Av,Av,Av,Av,Av,Av,⟨[],true,[]⟩,Av,Av,Av,Av,Av,⟨[],true,[]⟩,Av,Av,Av,Av,Av,Av,⟨[],true,[]⟩,Av,Av,Av,Av,Av,Av,⟨[],true,[]⟩,Av,Av,Av,Av,Av,⟨[],true,[]⟩]) .leaf))
theorem Ur (σ:Hp) (d0:aA) (a0 c0:Nat) (o0:Int) (q0:aA) (m0 s0:Nat) (u0:aA) (n0 r0:Nat) (k0:aA) (e0 j0:Nat) (y0:aA) (w0 z0:Nat) (f1:Int) (h0:aA) (b0 g0:Nat) (i0:aA) (f0 l0:Nat) (t0 v0 p0:Int) (c1:aA) (x0 a1:Nat) (e1:aA) (b1 d1:Nat) (R:aB) (h:ML σ d0 a0 c0 o0 q0 m0 s0 u0 n0 r0 k0 e0 j0 y0 w0 z0 f1 h0 b0 g0 i0 f0 l0 t0 v0 p0 c1 x0 a1 e1 b1 d1 R):Af prog 10 #[(.agg #[aN d0 a0 c0,aD o0,aN q0 m0 s0,aN u0 n0 r0,aN k0 e0 j0,aN y0 w0 z0,aD f1,aN h0 b0 g0,aN i0 f0 l0,aD t0,aD v0,aD p0,aN c1 x0 a1,aN e1 b1 d1])] σ R:=
 Ae Hk UL Tryz.func10 rfl (h:=h)
def GG (σ:Hp) (d0:aA) (a0 c0:Nat) (o0:Int) (q0:aA) (m0 s0:Nat) (u0:aA) (n0 r0:Nat) (k0:aA) (e0 j0:Nat) (y0:aA) (w0 z0:Nat) (f1:Int) (h0:aA) (b0 g0:Nat) (i0:aA) (f0 l0:Nat) (t0 v0 p0:Int) (c1:aA) (x0 a1:Nat) (e1:aA) (b1 d1:Nat) (l_A:aA) (l_n l_c:Nat) (R:aB):Prop:=
 aC 10 #[(.agg #[aN d0 a0 c0,aD o0,aN q0 m0 s0,aN u0 n0 r0,aN k0 e0 j0,aN y0 w0 z0,aD f1,aN h0 b0 g0,aN i0 f0 l0,aD t0,aD v0,aD p0,aN c1 x0 a1,aN e1 b1 d1])] σ (aI fun t3 σ2=>(bc t3 (rt σ2 R (.bool true)) (aC 45 #[(.agg #[aN d0 a0 c0,aD o0]),aN l_A l_n l_c] σ2 (aI fun t6 s5=>(rt s5 R (.bool t6))))))
def Pz:MAn:=(aS (.seq (.txt [⟨[],false,[]⟩,⟨[],false,[]⟩,⟨[],true,[]⟩]) .leaf))
theorem OM (σ:Hp) (d0:aA) (a0 c0:Nat) (o0:Int) (q0:aA) (m0 s0:Nat) (u0:aA) (n0 r0:Nat) (k0:aA) (e0 j0:Nat) (y0:aA) (w0 z0:Nat) (f1:Int) (h0:aA) (b0 g0:Nat) (i0:aA) (f0 l0:Nat) (t0 v0 p0:Int) (c1:aA) (x0 a1:Nat) (e1:aA) (b1 d1:Nat) (l_A:aA) (l_n l_c:Nat) (R:aB) (h:GG σ d0 a0 c0 o0 q0 m0 s0 u0 n0 r0 k0 e0 j0 y0 w0 z0 f1 h0 b0 g0 i0 f0 l0 t0 v0 p0 c1 x0 a1 e1 b1 d1 l_A l_n l_c R):Af prog 18 #[(.agg #[aN d0 a0 c0,aD o0,aN q0 m0 s0,aN u0 n0 r0,aN k0 e0 j0,aN y0 w0 z0,aD f1,aN h0 b0 g0,aN i0 f0 l0,aD t0,aD v0,aD p0,aN c1 x0 a1,aN e1 b1 d1]),aN l_A l_n l_c] σ R:=
 Ae Hk Pz Tryz.func18 rfl (h:=h)
def FK (σ:Hp) (a_A:aA) (a_n _:Nat) (b_A:aA) (b_n _:Nat) (R:aB):Prop:=
 bc (!decide ((a_n:Int)=(b_n:Int))) (rt σ R (.bool false)) (aF (fun σ2=>rt σ2 R (.bool true)) (fun J3=>∃ I6:Nat->Int->Hp->Prop,(∃ n70,I6 n70 0 σ) /\
  ∀ n7 n8 s5,I6 n7 n8 s5->∀ _:Nat->Value,bc (decide (n8<(a_n:Int))) (ix a_A a_n n8 1 (fun b9 a10=>
  ldI s5 .i64 b9 a10 (fun n11=>ix b_A b_n n8 1 (fun b12 a13=>ldI s5 .i64 b12 a13 (fun n14=>bc (!decide (n11=n14)) (rt s5 R (.bool false)) (wk .i64 (n8+1) (fun n15=>
  bk s5 n7 (fun m16 s17=>I6 m16 n15 s17)))))))) (J3 s5)))
def BD:OA:=⟨[],false,[]⟩
def Oe:MAn:=(aS (.seq (aS (.cond (aS .leaf) .leaf)) (.cut ⟨[],0,[],[]⟩ (aS (.block (.loop ⟨[],0,[.slot 5 (.sc (.int .i64))],[(0,true),(1,true)]⟩ (.seq (aS (.cond .leaf .leaf)) (.seq (.block (.seq (.plan [] (tkVW1 9 0 BD .done)) (.cond (aS .leaf) .leaf))) (.txt [])))))) (aS .leaf))))
theorem Ou (σ:Hp) (a_A:aA) (a_n a_c:Nat) (b_A:aA) (b_n b_c:Nat) (R:aB) (h:FK σ a_A a_n a_c b_A b_n b_c R):Af prog 22 #[aN a_A a_n a_c,aN b_A b_n b_c] σ R:=
 Ae Hk Oe Tryz.func22 rfl (h:=h)
def Hu (σ:Hp) (l_A:aA) (l_n l_c:Nat) (R:aB):Prop:=
 aC 51 #[aN l_A l_n l_c] σ (fun v1 σ2=>∃ A3:aA,∃ l3 c3:Nat,(v1=(aN A3 l3 c3) /\
  rt σ2 R (aN A3 l3 c3)))
def Q6:MAn:=(aS (aS .leaf))
theorem QB (σ:Hp) (l_A:aA) (l_n l_c:Nat) (R:aB) (h:Hu σ l_A l_n l_c R):Af prog 20 #[aN l_A l_n l_c] σ R:=
 Ae Hk Q6 Tryz.func20 rfl (h:=h)
def DW (σ:Hp) (d0:aA) (a0 c0:Nat) (o0:Int) (q0:aA) (m0 s0:Nat) (u0:aA) (n0 r0:Nat) (k0:aA) (e0 j0:Nat) (y0:aA) (w0 z0:Nat) (f1:Int) (h0:aA) (b0 g0:Nat) (i0:aA) (f0 l0:Nat) (t0 v0 p0:Int) (c1:aA) (x0 a1:Nat) (e1:aA) (b1 d1:Nat) (l_A:aA) (l_n l_c:Nat) (most:Int) (R:aB):Prop:=
 aF (fun σ2=>aC 13 #[(.agg #[aN d0 a0 c0,aD o0,aN q0 m0 s0,aN u0 n0 r0,aN k0 e0 j0,aN y0 w0 z0,aD f1,aN h0 b0 g0,aN i0 f0 l0,aD t0,aD v0,aD p0,aN c1 x0 a1,aN e1 b1 d1])] σ2 (fun v4 s5=>
  ∃ A6:aA,∃ l6 c6:Nat,∃ n7:Int,∃ A8:aA,∃ l8 c8:Nat,∃ A9:aA,∃ l9 c9:Nat,∃ A10:aA,∃ l10 c10:Nat,∃ A11:aA,∃ l11 c11:Nat,∃ n12:Int,∃ A13:aA,∃ l13 c13:Nat,∃ A14:aA,∃ l14 c14:Nat,∃ n15 n16 n17:Int,∃ A18:aA,∃ l18 c18:Nat,∃ A19:aA,∃ l19 c19:Nat,(v4=(.agg #[aN A6 l6 c6,aD n7,aN A8 l8 c8,aN A9 l9 c9,aN A10 l10 c10,aN A11 l11 c11,aD n12,aN A13 l13 c13,aN A14 l14 c14,aD n15,aD n16,aD n17,aN A18 l18 c18,aN A19 l19 c19]) /\
  aC 20 #[aN l_A l_n l_c] s5 (fun v20 s21=>∃ A22:aA,∃ l22 c22:Nat,(v20=(aN A22 l22 c22) /\
  aC 19 #[(.agg #[aN A6 l6 c6,aD n7,aN A8 l8 c8,aN A9 l9 c9,aN A10 l10 c10,aN A11 l11 c11,aD n12,aN A13 l13 c13,aN A14 l14 c14,aD n15,aD n16,aD n17,aN A18 l18 c18,aN A19 l19 c19]),aN A22 l22 c22,aD most] s21 (fun v23 s24=>
  ∃ A25:aA,∃ l25 c25:Nat,∃ n26:Int,(v23=(.tuple #[aN A25 l25 c25,aD n26]) /\
  aC 21 #[(.agg #[aN d0 a0 c0,aD o0,aN q0 m0 s0,aN u0 n0 r0,aN k0 e0 j0,aN y0 w0 z0,aD f1,aN h0 b0 g0,aN i0 f0 l0,aD t0,aD v0,aD p0,aN c1 x0 a1,aN e1 b1 d1]),aN l_A l_n l_c,aD most] s24 (fun v27 s28=>
  ∃ A29:aA,∃ l29 c29:Nat,∃ n30:Int,(v27=(.tuple #[aN A29 l29 c29,aD n30]) /\
  aC 22 #[aN A25 l25 c25,aN A29 l29 c29] s28 (aI fun t33 s32=>(bc t33 (bc (decide (n26=n30)) (aC 11 #[] s32 (aI fun t36 s35=>(rt s35 R (.bool t36)))) (rt s32 R (.bool false))) (rt s32 R (.bool false))))))))))))) (fun J3=>
  aG (fun t40 s38=>bc t40 (aC 11 #[] s38 (aI fun t43 s42=>(rt s42 R (.bool t43)))) (J3 s38)) (fun J39=>aC 18 #[(.agg #[aN d0 a0 c0,aD o0,aN q0 m0 s0,aN u0 n0 r0,aN k0 e0 j0,aN y0 w0 z0,aD f1,aN h0 b0 g0,aN i0 f0 l0,aD t0,aD v0,aD p0,aN c1 x0 a1,aN e1 b1 d1]),aN l_A l_n l_c] σ (aI fun t46 s45=>(bc t46 (J39 true s45) (bc (decide ((12:Int)<(l_n:Int))) (J39 (decide ((l_n:Int)<=60)) s45) (J39 false s45))))))
def AZ:OA:=⟨[],false,[]⟩
def KY:MAn:=(aS (.cut ⟨[true],1,[.slot 3 (.hb 0 0)],[(1,true),(2,true)]⟩ (.cut ⟨[true],1,[.slot 3 (.hb 0 0),.slot 23 (.sc (.bool))],[(1,true),(2,true)]⟩ (.txt [AZ,AZ,AZ,⟨[],true,[]⟩,AZ,AZ,AZ,⟨[],true,[]⟩]) (.cond (aS .leaf) .leaf)) (aS (aS (.seq (.txt [AZ,AZ,AZ,⟨[],true,[]⟩,AZ,AZ,AZ,AZ,⟨[],true,[]⟩]) .leaf)))))
theorem KB (σ:Hp) (d0:aA) (a0 c0:Nat) (o0:Int) (q0:aA) (m0 s0:Nat) (u0:aA) (n0 r0:Nat) (k0:aA) (e0 j0:Nat) (y0:aA) (w0 z0:Nat) (f1:Int) (h0:aA) (b0 g0:Nat) (i0:aA) (f0 l0:Nat) (t0 v0 p0:Int) (c1:aA) (x0 a1:Nat) (e1:aA) (b1 d1:Nat) (l_A:aA) (l_n l_c:Nat) (most:Int) (R:aB) (h:DW σ d0 a0 c0 o0 q0 m0 s0 u0 n0 r0 k0 e0 j0 y0 w0 z0 f1 h0 b0 g0 i0 f0 l0 t0 v0 p0 c1 x0 a1 e1 b1 d1 l_A l_n l_c most R):Af prog 6 #[(.agg #[aN d0 a0 c0,aD o0,aN q0 m0 s0,aN u0 n0 r0,aN k0 e0 j0,aN y0 w0 z0,aD f1,aN h0 b0 g0,aN i0 f0 l0,aD t0,aD v0,aD p0,aN c1 x0 a1,aN e1 b1 d1]),aN l_A l_n l_c,aD most] σ R:=
 Ae Hk KY Tryz.func6 rfl (h:=h)
end Go.Proofs.YtoelhdjloaknbaaGreat
