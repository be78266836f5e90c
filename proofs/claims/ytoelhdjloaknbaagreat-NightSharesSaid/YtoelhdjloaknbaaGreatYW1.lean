/- What this claim rests on. -/
import Derived.Test.YtoelhdjloaknbaaGreatYB11
namespace Go.Proofs.YtoelhdjloaknbaaGreat
set_option maxRecDepth 100000
open Go.RowKit Go.Proofs.Tryz
def aR (x:MAn):MAn:=.seq (.txt []) x
def tkYW1:Nat->Nat->OA->MPlan->MPlan
 |0,_,_,x=>x
 |n+1,i,a,x=>.take i a (tkYW1 n (i+1) a x)
theorem H2:prog.follows .mixedOrders=true:=by kernel_rfl
def G0 (σ:Hp) (R:aB):Prop:=
 aC 67 #[] σ (fun v1 σ2=>∃ A3:aA,∃ l3 c3:Nat,∃ n4:Int,∃ A5:aA,∃ l5 c5:Nat,(v1=(.tuple #[(.agg #[aN A3 l3 c3,aD n4]),aN A5 l5 c5]) /\
  exl 3 aM ([1]:List Int) σ2 (fun A6 l6 c6 s7=>exl 3 aM ([100,100]:List Int) s7 (fun A8 l8 c8 s9=>
  exl 138 [.int .i64,.int .i64,.int .i64,.int .i64] ([((-1),20,2,100)]:List (Int×Int×Int×Int)) s9 (fun A10 l10 c10 s11=>
  exl 140 [.int .i64,.int .i64,.int .i64,.int .i64] ([(0,0,15,0),(0,0,10,0)]:List (Int×Int×Int×Int)) s11 (fun A12 l12 c12 s13=>
  exl 136 [.int .i64,.int .i64,.int .i64,.int .i64,.int .i64] ([(5,4,0,0,0),(5,4,1,0,0)]:List (Int×Int×Int×Int×Int)) s13 (fun A14 l14 c14 s15=>
  exl 3 aM ([60,60]:List Int) s15 (fun A16 l16 c16 s17=>exl 3 aM ([2,0]:List Int) s17 (fun A18 l18 c18 s19=>
  rt s19 R (.tuple #[(.agg #[aN A3 l3 c3,aD n4,aN none 0 0,aN A6 l6 c6,aN A8 l8 c8,aN A14 l14 c14,aD 5,aN A10 l10 c10,aN A12 l12 c12,aD 50,aD 5,aD 230,aN A16 l16 c16,aN A18 l18 c18]),aN A5 l5 c5]))))))))))
def Rm:MAn:=(aR (aR (aR .leaf)))
theorem QS (σ:Hp) (R:aB) (h:G0 σ  R):Ag prog 30 #[] σ R:=
 Af H2 Rm Tryz.func30 rfl (h:=h)
def JA (σ:Hp) (R:aB):Prop:=
 aC 30 #[] σ (fun v1 σ2=>∃ A3:aA,∃ l3 c3:Nat,∃ n4:Int,∃ A5:aA,∃ l5 c5:Nat,∃ A6:aA,∃ l6 c6:Nat,∃ A7:aA,∃ l7 c7:Nat,∃ A8:aA,∃ l8 c8:Nat,∃ n9:Int,∃ A10:aA,∃ l10 c10:Nat,∃ A11:aA,∃ l11 c11:Nat,∃ n12 n13 n14:Int,∃ A15:aA,∃ l15 c15:Nat,∃ A16:aA,∃ l16 c16:Nat,∃ A17:aA,∃ l17 c17:Nat,(v1=(.tuple #[(.agg #[aN A3 l3 c3,aD n4,aN A5 l5 c5,aN A6 l6 c6,aN A7 l7 c7,aN A8 l8 c8,aD n9,aN A10 l10 c10,aN A11 l11 c11,aD n12,aD n13,aD n14,aN A15 l15 c15,aN A16 l16 c16]),aN A17 l17 c17]) /\
  aC 31 #[(.agg #[aN A3 l3 c3,aD n4,aN A5 l5 c5,aN A6 l6 c6,aN A7 l7 c7,aN A8 l8 c8,aD n9,aN A10 l10 c10,aN A11 l11 c11,aD n12,aD n13,aD n14,aN A15 l15 c15,aN A16 l16 c16])] σ2 (fun v18 s19=>
  ∃ A20:aA,∃ l20 c20:Nat,∃ n21:Int,(v18=(.tuple #[aN A20 l20 c20,aD n21]) /\
  aC 23 #[(.agg #[aN A3 l3 c3,aD n4,aN A5 l5 c5,aN A6 l6 c6,aN A7 l7 c7,aN A8 l8 c8,aD n9,aN A10 l10 c10,aN A11 l11 c11,aD n12,aD n13,aD n14,aN A15 l15 c15,aN A16 l16 c16]),aN A17 l17 c17] s19 (fun v22 s23=>
  ∃ n24 n25:Int,(v22=(.tuple #[aD n24,aD n25])/\bc (decide (n21=0)) (bc (decide (n25=0)) (bc (decide ((l20:Int)=1)) (ix A20 l20 0 1 (fun b26 a27=>
  ldI s23 .i64 b26 a27 (fun n28=>bc (decide (n28=0)) (rt s23 R (.bool (decide (n24=5)))) (rt s23 R (.bool false))))) (rt s23 R (.bool false))) (rt s23 R (.bool false))) (rt s23 R (.bool false))))))))
def Bv:OA:=⟨[],false,[]⟩
def TF:MAn:=(aR (aR (aR (aR (.seq (.txt [Bv,Bv,⟨[],true,[]⟩,Bv,Bv,Bv,⟨[],true,[]⟩,Bv,Bv,Bv,Bv,⟨[],true,[]⟩,Bv,Bv,Bv,Bv,Bv,⟨[],true,[]⟩]) .leaf)))))
theorem S6 (σ:Hp) (R:aB) (h:JA σ  R):Ag prog 11 #[] σ R:=
 Af H2 TF Tryz.func11 rfl (h:=h)
def Oo (σ:Hp) (_:aA) (a0 _:Nat) (_:Int) (_:aA) (n0 _:Nat) (_:aA) (m0 _:Nat) (_:aA) (e0 _:Nat) (_:aA) (w0 _:Nat) (_:Int) (_:aA) (c0 _:Nat) (_:aA) (f0 _:Nat) (_ _ _:Int) (_:aA) (x0 _:Nat) (_:aA) (b1 _:Nat) (R:aB):Prop:=
 bc (decide ((10:Int)<(a0:Int))) (rt σ R (.bool true)) (bc (decide ((25:Int)<(n0:Int))) (rt σ R (.bool true)) (bc (decide ((12:Int)<(m0:Int))) (rt σ R (.bool true)) (bc (decide ((15:Int)<(e0:Int))) (rt σ R (.bool true)) (bc (decide ((60:Int)<(w0:Int))) (rt σ R (.bool true)) (bc (decide ((15:Int)<(c0:Int))) (rt σ R (.bool true)) (bc (decide ((20:Int)<(f0:Int))) (rt σ R (.bool true)) (bc (decide ((15:Int)<(x0:Int))) (rt σ R (.bool true)) (rt σ R (.bool (decide ((15:Int)<(b1:Int))))))))))))
def Av:OA:=⟨[],false,[]⟩
def V3:MAn:=(aR (.seq (.txt [Av,Av,Av,Av,Av,⟨[],true,[]⟩,Av,Av,Av,Av,Av,Av,⟨[],true,[]⟩,Av,Av,Av,Av,Av,Av,⟨[],true,[]⟩,Av,Av,Av,Av,Av,Av,⟨[],true,[]⟩,Av,Av,Av,Av,Av,⟨[],true,[]⟩,Av,Av,Av,Av,Av,Av,⟨[],true,[]⟩,Av,Av,Av,Av,Av,Av,⟨[],true,[]⟩,Av,Av,Av,Av,Av,⟨[],true,[]⟩]) .leaf))
theorem Wg (σ:Hp) (b0:aA) (a0 d0:Nat) (o0:Int) (r0:aA) (n0 t0:Nat) (q0:aA) (m0 p0:Nat) (i0:aA) (e0 l0:Nat) (y0:aA) (w0 z0:Nat) (i1:Int) (h0:aA) (c0 g0:Nat) (j0:aA) (f0 k0:Nat) (u0 v0 s0:Int) (a1:aA) (x0 c1:Nat) (e1:aA) (b1 d1:Nat) (R:aB) (h:Oo σ b0 a0 d0 o0 r0 n0 t0 q0 m0 p0 i0 e0 l0 y0 w0 z0 i1 h0 c0 g0 j0 f0 k0 u0 v0 s0 a1 x0 c1 e1 b1 d1 R):Ag prog 10 #[(.agg #[aN b0 a0 d0,aD o0,aN r0 n0 t0,aN q0 m0 p0,aN i0 e0 l0,aN y0 w0 z0,aD i1,aN h0 c0 g0,aN j0 f0 k0,aD u0,aD v0,aD s0,aN a1 x0 c1,aN e1 b1 d1])] σ R:=
 Af H2 V3 Tryz.func10 rfl (h:=h)
def G6 (σ:Hp) (b0:aA) (a0 d0:Nat) (o0:Int) (r0:aA) (n0 t0:Nat) (q0:aA) (m0 p0:Nat) (i0:aA) (e0 l0:Nat) (y0:aA) (w0 z0:Nat) (i1:Int) (h0:aA) (c0 g0:Nat) (j0:aA) (f0 k0:Nat) (u0 v0 s0:Int) (a1:aA) (x0 c1:Nat) (e1:aA) (b1 d1:Nat) (l_A:aA) (l_n l_c:Nat) (R:aB):Prop:=
 aC 10 #[(.agg #[aN b0 a0 d0,aD o0,aN r0 n0 t0,aN q0 m0 p0,aN i0 e0 l0,aN y0 w0 z0,aD i1,aN h0 c0 g0,aN j0 f0 k0,aD u0,aD v0,aD s0,aN a1 x0 c1,aN e1 b1 d1])] σ (aI fun t3 σ2=>(bc t3 (rt σ2 R (.bool true)) (aC 45 #[(.agg #[aN b0 a0 d0,aD o0]),aN l_A l_n l_c] σ2 (aI fun t6 s5=>(rt s5 R (.bool t6))))))
def Qu:MAn:=(aR (.seq (.txt [⟨[],false,[]⟩,⟨[],false,[]⟩,⟨[],true,[]⟩]) .leaf))
theorem Rh (σ:Hp) (b0:aA) (a0 d0:Nat) (o0:Int) (r0:aA) (n0 t0:Nat) (q0:aA) (m0 p0:Nat) (i0:aA) (e0 l0:Nat) (y0:aA) (w0 z0:Nat) (i1:Int) (h0:aA) (c0 g0:Nat) (j0:aA) (f0 k0:Nat) (u0 v0 s0:Int) (a1:aA) (x0 c1:Nat) (e1:aA) (b1 d1:Nat) (l_A:aA) (l_n l_c:Nat) (R:aB) (h:G6 σ b0 a0 d0 o0 r0 n0 t0 q0 m0 p0 i0 e0 l0 y0 w0 z0 i1 h0 c0 g0 j0 f0 k0 u0 v0 s0 a1 x0 c1 e1 b1 d1 l_A l_n l_c R):Ag prog 18 #[(.agg #[aN b0 a0 d0,aD o0,aN r0 n0 t0,aN q0 m0 p0,aN i0 e0 l0,aN y0 w0 z0,aD i1,aN h0 c0 g0,aN j0 f0 k0,aD u0,aD v0,aD s0,aN a1 x0 c1,aN e1 b1 d1]),aN l_A l_n l_c] σ R:=
 Af H2 Qu Tryz.func18 rfl (h:=h)
def FX (σ:Hp) (a_A:aA) (a_n _:Nat) (b_A:aA) (b_n _:Nat) (R:aB):Prop:=
 bc (!decide ((a_n:Int)=(b_n:Int))) (rt σ R (.bool false)) (aF (fun σ2=>rt σ2 R (.bool true)) (fun J3=>∃ I6:Nat->Int->Hp->Prop,(∃ n70,I6 n70 0 σ) /\
  ∀ n7 n8 s5,I6 n7 n8 s5->∀ _:Nat->Value,bc (decide (n8<(a_n:Int))) (ix a_A a_n n8 1 (fun b9 a10=>
  ldI s5 .i64 b9 a10 (fun n11=>ix b_A b_n n8 1 (fun b12 a13=>ldI s5 .i64 b12 a13 (fun n14=>bc (!decide (n11=n14)) (rt s5 R (.bool false)) (wk .i64 (n8+1) (fun n15=>
  bk s5 n7 (fun m16 s17=>I6 m16 n15 s17)))))))) (J3 s5)))
def BG:OA:=⟨[],false,[]⟩
def PR:MAn:=(aR (.seq (aR (.cond (aR .leaf) .leaf)) (.cut ⟨[],0,[],[]⟩ (aR (.block (.loop ⟨[],0,[.slot 5 (.sc (.int .i64))],[(0,true),(1,true)]⟩ (.seq (aR (.cond .leaf .leaf)) (.seq (.block (.seq (.plan [] (tkYW1 9 0 BG .done)) (.cond (aR .leaf) .leaf))) (.txt [])))))) (aR .leaf))))
theorem PT (σ:Hp) (a_A:aA) (a_n a_c:Nat) (b_A:aA) (b_n b_c:Nat) (R:aB) (h:FX σ a_A a_n a_c b_A b_n b_c R):Ag prog 22 #[aN a_A a_n a_c,aN b_A b_n b_c] σ R:=
 Af H2 PR Tryz.func22 rfl (h:=h)
def Ie (σ:Hp) (l_A:aA) (l_n l_c:Nat) (R:aB):Prop:=
 aC 51 #[aN l_A l_n l_c] σ (fun v1 σ2=>∃ A3:aA,∃ l3 c3:Nat,(v1=(aN A3 l3 c3) /\
  rt σ2 R (aN A3 l3 c3)))
def Se:MAn:=(aR (aR .leaf))
theorem Sr (σ:Hp) (l_A:aA) (l_n l_c:Nat) (R:aB) (h:Ie σ l_A l_n l_c R):Ag prog 20 #[aN l_A l_n l_c] σ R:=
 Af H2 Se Tryz.func20 rfl (h:=h)
def DX (σ:Hp) (b0:aA) (a0 d0:Nat) (o0:Int) (r0:aA) (n0 t0:Nat) (q0:aA) (m0 p0:Nat) (i0:aA) (e0 l0:Nat) (y0:aA) (w0 z0:Nat) (i1:Int) (h0:aA) (c0 g0:Nat) (j0:aA) (f0 k0:Nat) (u0 v0 s0:Int) (a1:aA) (x0 c1:Nat) (e1:aA) (b1 d1:Nat) (l_A:aA) (l_n l_c:Nat) (h1:Int) (g1:aA) (f1 j1:Nat) (R:aB):Prop:=
 aF (fun σ2=>aC 13 #[(.agg #[aN b0 a0 d0,aD o0,aN r0 n0 t0,aN q0 m0 p0,aN i0 e0 l0,aN y0 w0 z0,aD i1,aN h0 c0 g0,aN j0 f0 k0,aD u0,aD v0,aD s0,aN a1 x0 c1,aN e1 b1 d1])] σ2 (fun v4 s5=>
  ∃ A6:aA,∃ l6 c6:Nat,∃ n7:Int,∃ A8:aA,∃ l8 c8:Nat,∃ A9:aA,∃ l9 c9:Nat,∃ A10:aA,∃ l10 c10:Nat,∃ A11:aA,∃ l11 c11:Nat,∃ n12:Int,∃ A13:aA,∃ l13 c13:Nat,∃ A14:aA,∃ l14 c14:Nat,∃ n15 n16 n17:Int,∃ A18:aA,∃ l18 c18:Nat,∃ A19:aA,∃ l19 c19:Nat,(v4=(.agg #[aN A6 l6 c6,aD n7,aN A8 l8 c8,aN A9 l9 c9,aN A10 l10 c10,aN A11 l11 c11,aD n12,aN A13 l13 c13,aN A14 l14 c14,aD n15,aD n16,aD n17,aN A18 l18 c18,aN A19 l19 c19]) /\
  cut (α:=aA->Nat->Nat->Int->Hp->Prop) (fun A23 l23 c23 n24 s21=>∀ _:Nat->Value,
  aC 25 #[(.agg #[aN b0 a0 d0,aD o0,aN r0 n0 t0,aN q0 m0 p0,aN i0 e0 l0,aN y0 w0 z0,aD i1,aN h0 c0 g0,aN j0 f0 k0,aD u0,aD v0,aD s0,aN a1 x0 c1,aN e1 b1 d1]),aN l_A l_n l_c,aD h1,aN g1 f1 j1] s21 (fun v25 s26=>
  ∃ A27:aA,∃ l27 c27:Nat,∃ n28:Int,(v25=(.tuple #[aN A27 l27 c27,aD n28]) /\
  aF (fun s30=>bc (!decide (n24=0)) (aC 11 #[] s30 (aI fun t34 s33=>(rt s33 R (.bool t34)))) (aC 20 #[aN l_A l_n l_c] s30 (aK fun A37 l37 c37 s36=>((Hp.Sub s30 s36/\aC 26 #[(.agg #[aN A6 l6 c6,aD n7,aN A8 l8 c8,aN A9 l9 c9,aN A10 l10 c10,aN A11 l11 c11,aD n12,aN A13 l13 c13,aN A14 l14 c14,aD n15,aD n16,aD n17,aN A18 l18 c18,aN A19 l19 c19]),aN A37 l37 c37] s36 (fun v38 s39=>
  ∃ A40:aA,∃ l40 c40:Nat,∃ n41:Int,(v38=(.tuple #[aN A40 l40 c40,aD n41]) /\
  bc (!decide (n41=0)) (rt s39 R (.bool false)) (aH (fun n45 s43=>
  aH (fun n49 s47=>bc (decide (n49=0)) (aC 11 #[] s47 (aI fun t52 s51=>(rt s51 R (.bool t52)))) (rt s47 R (.bool false))) (fun J48=>∃ I55:Nat->Int->Int->Hp->Prop,(∃ n560,I55 n560 n45 0 s43) /\
  ∀ n56 n57 n58 s54,I55 n56 n57 n58 s54->∀ _:Nat->Value,bc (decide (n58<(l23:Int))) (ix A23 l23 n58 1 (fun b59 a60=>
  ldI s54 .i64 b59 a60 (fun n61=>wk .i64 (n57-n61) (fun n62=>wk .i64 (n58+1) (fun n63=>bk s54 n56 (fun m64 s65=>
  I55 m64 n62 n63 s65)))))) (J48 n57 s54))) (fun J44=>∃ I68:Nat->Int->Int->Hp->Prop,(∃ n690,I68 n690 0 0 s39) /\
  ∀ n69 n70 n71 s67,I68 n69 n70 n71 s67->∀ _:Nat->Value,bc (decide (n71<(l40:Int))) (aH (fun n75 s73=>wk .i64 (n71+1) (fun n76=>bk s73 n69 (fun m77 s78=>I68 m77 n75 n76 s78))) (fun J74=>
  ix A40 l40 n71 6 (fun b79 a80=>ldI s67 .i64 b79 a80 (fun n81=>ldI s67 .i64 b79 (a80+1) (fun _=>
  ldI s67 .i64 b79 (a80+2) (fun n83=>ldB s67 b79 (a80+3) (fun t84=>ldI s67 .i64 b79 (a80+4) (fun _=>
  ldI s67 .i64 b79 (a80+5) (fun _=>aF (fun s88=>bc t84 (ix b0 a0 n83 5 (fun b90 a91=>
  ldI s88 .i64 b90 (a91+1) (fun n92=>ix l_A l_n n81 5 (fun b93 a94=>ldI s88 .i64 b93 (a94+1) (fun n95=>
  wk .i64 (n92*n95) (fun n96=>wk .i64 (n96*h1) (fun n97=>wk .i64 (n70+n97) (fun n98=>J74 n98 s88)))))))) (J74 n70 s88)) (fun J89=>
  aG (fun t102 s100=>bc t102 (rt s100 R (.bool false)) (J89 s100)) (fun J101=>
  bc (decide (n83<0)) (J101 true s67) (bc (decide ((a0:Int)<=n83)) (J101 true s67) (bc (decide (n81<0)) (J101 true s67) (J101 (decide ((l_n:Int)<=n81)) s67)))))))))))))) (J44 n70 s67)))))))))) (fun J31=>
  aG (fun t106 s104=>bc t106 (rt s104 R (.bool false)) (J31 s104)) (fun J105=>
  aC 22 #[aN A23 l23 c23,aN A27 l27 c27] s26 (aI fun t109 s108=>(bc (!t109) (J105 true s108) (J105 (!decide (n24=n28)) s108)))))))) (fun J22=>
  (((aC 20 #[aN l_A l_n l_c] s5 (fun v110 s111=>∃ A112:aA,∃ l112 c112:Nat,(v110=(aN A112 l112 c112) /\
  (Hp.Sub s5 s111/\∃ ys113:List Int,RdS aM s111 g1 f1 ys113/\Bh (List.length ([]:List Int)+List.length ys113) (exl 3 aM (([]:List Int)++ys113) s111 (fun A114 l114 c114 s115=>
  aC 24 #[(.agg #[aN A6 l6 c6,aD n7,aN A8 l8 c8,aN A9 l9 c9,aN A10 l10 c10,aN A11 l11 c11,aD n12,aN A13 l13 c13,aN A14 l14 c14,aD n15,aD n16,aD n17,aN A18 l18 c18,aN A19 l19 c19]),aN A112 l112 c112,aD h1,aN A114 l114 c114] s115 (fun v116 s117=>
  ∃ A118:aA,∃ l118 c118:Nat,∃ n119:Int,(v116=(.tuple #[aN A118 l118 c118,aD n119]) /\
  J22 A118 l118 c118 n119 s117))))))))/\(aC 20 #[aN l_A l_n l_c] s5 (aK fun A122 l122 c122 s121=>((Hp.Sub s5 s121 /\
  ∃ ys123:List Int,RdS aM s121 g1 f1 ys123/\Bh (List.length ([]:List Int)+List.length ys123) (exl 3 aM (([]:List Int)++ys123) s121 (fun A124 l124 c124 s125=>
  aC 24 #[(.agg #[aN A6 l6 c6,aD n7,aN A8 l8 c8,aN A9 l9 c9,aN A10 l10 c10,aN A11 l11 c11,aD n12,aN A13 l13 c13,aN A14 l14 c14,aD n15,aD n16,aD n17,aN A18 l18 c18,aN A19 l19 c19]),aN A122 l122 c122,aD h1,aN A124 l124 c124] s125 (fun v126 s127=>
  ∃ A128:aA,∃ l128 c128:Nat,∃ n129:Int,(v126=(.tuple #[aN A128 l128 c128,aD n129]) /\
  J22 A128 l128 c128 n129 s127)))))))))/\(aC 20 #[aN l_A l_n l_c] s5 (aK fun A132 l132 c132 s131=>((Hp.Sub s5 s131 /\
  ((∃ ys133:List Int,RdS aM s131 g1 f1 ys133/\Bh (List.length ([]:List Int)+List.length ys133) (exl 3 aM (([]:List Int)++ys133) s131 (fun A134 l134 c134 s135=>
  aC 24 #[(.agg #[aN A6 l6 c6,aD n7,aN A8 l8 c8,aN A9 l9 c9,aN A10 l10 c10,aN A11 l11 c11,aD n12,aN A13 l13 c13,aN A14 l14 c14,aD n15,aD n16,aD n17,aN A18 l18 c18,aN A19 l19 c19]),aN A132 l132 c132,aD h1,aN A134 l134 c134] s135 (fun v136 s137=>
  ∃ A138:aA,∃ l138 c138:Nat,∃ n139:Int,(v136=(.tuple #[aN A138 l138 c138,aD n139]) /\
  J22 A138 l138 c138 n139 s137)))))/\(∃ ys140:List Int,RdS aM s131 g1 f1 ys140 /\
  Bh (List.length ([]:List Int)+List.length ys140) (exl 3 aM (([]:List Int)++ys140) s131 (fun A141 l141 c141 s142=>
  aC 24 #[(.agg #[aN A6 l6 c6,aD n7,aN A8 l8 c8,aN A9 l9 c9,aN A10 l10 c10,aN A11 l11 c11,aD n12,aN A13 l13 c13,aN A14 l14 c14,aD n15,aD n16,aD n17,aN A18 l18 c18,aN A19 l19 c19]),aN A132 l132 c132,aD h1,aN A141 l141 c141] s142 (fun v143 s144=>
  ∃ A145:aA,∃ l145 c145:Nat,∃ n146:Int,(v143=(.tuple #[aN A145 l145 c145,aD n146]) /\
  J22 A145 l145 c145 n146 s144))))))))))/\((aC 20 #[aN l_A l_n l_c] s5 (aK fun A149 l149 c149 s148=>((Hp.Sub s5 s148 /\
  ∃ ys150:List Int,RdS aM s148 g1 f1 ys150/\Bh (List.length ([]:List Int)+List.length ys150) (exl 3 aM (([]:List Int)++ys150) s148 (fun A151 l151 c151 s152=>
  aC 24 #[(.agg #[aN A6 l6 c6,aD n7,aN A8 l8 c8,aN A9 l9 c9,aN A10 l10 c10,aN A11 l11 c11,aD n12,aN A13 l13 c13,aN A14 l14 c14,aD n15,aD n16,aD n17,aN A18 l18 c18,aN A19 l19 c19]),aN A149 l149 c149,aD h1,aN A151 l151 c151] s152 (fun v153 s154=>
  ∃ A155:aA,∃ l155 c155:Nat,∃ n156:Int,(v153=(.tuple #[aN A155 l155 c155,aD n156]) /\
  J22 A155 l155 c155 n156 s154))))))))/\(aC 20 #[aN l_A l_n l_c] s5 (aK fun A159 l159 c159 s158=>((Hp.Sub s5 s158 /\
  ((∃ ys160:List Int,RdS aM s158 g1 f1 ys160/\Bh (List.length ([]:List Int)+List.length ys160) (exl 3 aM (([]:List Int)++ys160) s158 (fun A161 l161 c161 s162=>
  aC 24 #[(.agg #[aN A6 l6 c6,aD n7,aN A8 l8 c8,aN A9 l9 c9,aN A10 l10 c10,aN A11 l11 c11,aD n12,aN A13 l13 c13,aN A14 l14 c14,aD n15,aD n16,aD n17,aN A18 l18 c18,aN A19 l19 c19]),aN A159 l159 c159,aD h1,aN A161 l161 c161] s162 (fun v163 s164=>
  ∃ A165:aA,∃ l165 c165:Nat,∃ n166:Int,(v163=(.tuple #[aN A165 l165 c165,aD n166]) /\
  J22 A165 l165 c165 n166 s164)))))/\(∃ ys167:List Int,RdS aM s158 g1 f1 ys167 /\
  Bh (List.length ([]:List Int)+List.length ys167) (exl 3 aM (([]:List Int)++ys167) s158 (fun A168 l168 c168 s169=>
  aC 24 #[(.agg #[aN A6 l6 c6,aD n7,aN A8 l8 c8,aN A9 l9 c9,aN A10 l10 c10,aN A11 l11 c11,aD n12,aN A13 l13 c13,aN A14 l14 c14,aD n15,aD n16,aD n17,aN A18 l18 c18,aN A19 l19 c19]),aN A159 l159 c159,aD h1,aN A168 l168 c168] s169 (fun v170 s171=>
  ∃ A172:aA,∃ l172 c172:Nat,∃ n173:Int,(v170=(.tuple #[aN A172 l172 c172,aD n173]) /\
  J22 A172 l172 c172 n173 s171)))))))))))))))) (fun J3=>aG (fun t177 s175=>bc t177 (aC 11 #[] s175 (fun v178 s179=>∃ t180:Bool,(v178=(.bool t180) /\
  rt s179 R (.bool t180)))) (J3 s175)) (fun J176=>aC 18 #[(.agg #[aN b0 a0 d0,aD o0,aN r0 n0 t0,aN q0 m0 p0,aN i0 e0 l0,aN y0 w0 z0,aD i1,aN h0 c0 g0,aN j0 f0 k0,aD u0,aD v0,aD s0,aN a1 x0 c1,aN e1 b1 d1]),aN l_A l_n l_c] σ (aI fun t183 s182=>(bc t183 (J176 true s182) (J176 (decide ((20:Int)<(f1:Int))) s182)))))
def Ad:OA:=⟨[],false,[]⟩
def B4:MPlan:=(.alt 7 false Ad (tkYW1 5 8 Ad .done) .done)
def FB:MPlan:=(.alt 0 true Ad (.alt 6 false Ad B4 .done) (.alt 6 false Ad (.take 0 Ad B4) .done))
def LL:MAn:=(aR (.seq (.plan [] (tkYW1 6 0 Ad .done)) (.cut ⟨[true,true],2,[.slot 3 (.hb 0 0)],[(1,true),(7,true),(8,true)]⟩ (.cut ⟨[true,true],2,[.slot 3 (.hb 0 0),.slot 31 (.sc (.bool))],[(1,true),(7,true),(8,true)]⟩ (.txt [Ad,Ad,Ad,⟨[],true,[]⟩]) (.cond (aR .leaf) .leaf)) (aR (.cut ⟨[true,true,true],3,[.slot 3 (.hb 0 0),.slot 9 (.hb 2 0),.slot 10 (.sc (.slc)),.slot 11 (.sc (.int .i64))],[(1,true),(7,true),(8,true)]⟩ (.plan [6,7] (.take 1 Ad (.take 3 Ad (.take 5 Ad (.alt 0 true Ad (.alt 2 true Ad (.alt 4 true Ad (.alt 6 false Ad B4 .done) .done) (.alt 4 true Ad (.alt 2 true Ad (.alt 6 false Ad B4 .done) .done) .done)) (.alt 2 true Ad (.new 4 Ad FB) (.alt 4 true Ad (.alt 0 true Ad (.alt 2 true Ad (.alt 6 false Ad B4 .done) .done) (.alt 2 true Ad FB .done)) .done))))))) (aR (.cut ⟨[true,true,true],3,[.slot 3 (.hb 0 0),.slot 9 (.hb 2 0)],[(1,true),(7,true),(10,true),(11,true)]⟩ (.cut ⟨[true,true,true],3,[.slot 3 (.hb 0 0),.slot 9 (.hb 2 0),.slot 62 (.sc (.bool))],[(1,true),(7,true),(10,true),(11,true)]⟩ (.txt [Ad,Ad,Ad,Ad,⟨[],true,[]⟩]) (.cond (aR .leaf) .leaf)) (.seq (aR (.cond (aR .leaf) .leaf)) (.seq (.plan [3] (.take 0 Ad (.take 1 Ad (.alt 2 true Ad (.alt 3 false Ad (tkYW1 5 4 Ad .done) .done) .done)))) (.seq (aR (.cond (aR .leaf) .leaf)) (aR (.cut ⟨[true,true,true],3,[.slot 16 (.sc (.int .i64))],[(10,true)]⟩ (aR (.block (.loop ⟨[true,true,true],3,[.slot 3 (.hb 0 0),.slot 16 (.sc (.int .i64)),.slot 17 (.sc (.int .i64))],[(1,true),(7,true),(10,true),(14,true)]⟩ (.seq (aR (.cond .leaf .leaf)) (.cut ⟨[true,true,true],3,[.slot 3 (.hb 0 0),.slot 16 (.sc (.int .i64))],[(1,true),(7,true),(10,true),(14,true),(17,true)]⟩ (.block (aR (.cut ⟨[true,true,true,true],4,[.slot 3 (.hb 0 0),.slot 18 (.hb 3 0)],[(1,true),(7,true),(10,true),(14,true),(16,true),(17,true)]⟩ (.cut ⟨[true,true,true,true],4,[.slot 3 (.hb 0 0),.slot 18 (.hb 3 0),.slot 108 (.sc (.bool))],[(1,true),(7,true),(10,true),(14,true),(16,true),(17,true)]⟩ (.txt [Ad,Ad,Ad,⟨[],true,[]⟩,Ad,Ad,Ad,Ad,Ad,Ad,Ad,Ad,⟨[],true,[]⟩,Ad,Ad,Ad,Ad,⟨[],true,[]⟩]) (.cond (aR .leaf) .leaf)) (aR (.cond (.plan [] (tkYW1 20 0 Ad .done)) .leaf))))) (.txt [])))))) (.cut ⟨[true,true,true],3,[.slot 16 (.sc (.int .i64))],[]⟩ (aR (.block (.loop ⟨[true,true,true],3,[.slot 16 (.sc (.int .i64)),.slot 19 (.sc (.int .i64))],[(10,true)]⟩ (.seq (aR (.cond .leaf .leaf)) (.seq (.block (.txt [])) (.txt [])))))) (.seq (.txt [Ad,Ad,⟨[],true,[]⟩]) .leaf))))))))))))))
theorem LD (σ:Hp) (b0:aA) (a0 d0:Nat) (o0:Int) (r0:aA) (n0 t0:Nat) (q0:aA) (m0 p0:Nat) (i0:aA) (e0 l0:Nat) (y0:aA) (w0 z0:Nat) (i1:Int) (h0:aA) (c0 g0:Nat) (j0:aA) (f0 k0:Nat) (u0 v0 s0:Int) (a1:aA) (x0 c1:Nat) (e1:aA) (b1 d1:Nat) (l_A:aA) (l_n l_c:Nat) (h1:Int) (g1:aA) (f1 j1:Nat) (R:aB) (h:DX σ b0 a0 d0 o0 r0 n0 t0 q0 m0 p0 i0 e0 l0 y0 w0 z0 i1 h0 c0 g0 j0 f0 k0 u0 v0 s0 a1 x0 c1 e1 b1 d1 l_A l_n l_c h1 g1 f1 j1 R):Ag prog 8 #[(.agg #[aN b0 a0 d0,aD o0,aN r0 n0 t0,aN q0 m0 p0,aN i0 e0 l0,aN y0 w0 z0,aD i1,aN h0 c0 g0,aN j0 f0 k0,aD u0,aD v0,aD s0,aN a1 x0 c1,aN e1 b1 d1]),aN l_A l_n l_c,(.agg #[aD h1,aN g1 f1 j1])] σ R:=
 Af H2 LL Tryz.func8 rfl (h:=h)
end Go.Proofs.YtoelhdjloaknbaaGreat
