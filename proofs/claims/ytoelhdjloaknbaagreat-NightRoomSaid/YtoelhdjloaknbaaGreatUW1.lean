/- What this claim rests on. -/
import Derived.Test.YtoelhdjloaknbaaGreatUB11
namespace Go.Proofs.YtoelhdjloaknbaaGreat
set_option maxRecDepth 100000
open Go.RowKit Go.Proofs.Tryz
def aR (x:MAn):MAn:=.seq (.txt []) x
theorem Lc:prog.follows .mixedOrders=true:=by kernel_rfl
def FB (σ:Hp) (R:aB):Prop:=
 aC 67 #[] σ (fun v1 σ2=>∃ A3:aA,∃ l3 c3:Nat,∃ n4:Int,∃ A5:aA,∃ l5 c5:Nat,(v1=(.tuple #[(.agg #[aN A3 l3 c3,aD n4]),aN A5 l5 c5]) /\
  exl 3 aM ([1]:List Int) σ2 (fun A6 l6 c6 s7=>exl 3 aM ([100,100]:List Int) s7 (fun A8 l8 c8 s9=>
  exl 138 [.int .i64,.int .i64,.int .i64,.int .i64] ([((-1),20,2,100)]:List (Int×Int×Int×Int)) s9 (fun A10 l10 c10 s11=>
  exl 140 [.int .i64,.int .i64,.int .i64,.int .i64] ([(0,0,15,0),(0,0,10,0)]:List (Int×Int×Int×Int)) s11 (fun A12 l12 c12 s13=>
  exl 136 [.int .i64,.int .i64,.int .i64,.int .i64,.int .i64] ([(5,4,0,0,0),(5,4,1,0,0)]:List (Int×Int×Int×Int×Int)) s13 (fun A14 l14 c14 s15=>
  exl 3 aM ([60,60]:List Int) s15 (fun A16 l16 c16 s17=>exl 3 aM ([2,0]:List Int) s17 (fun A18 l18 c18 s19=>
  rt s19 R (.tuple #[(.agg #[aN A3 l3 c3,aD n4,aN none 0 0,aN A6 l6 c6,aN A8 l8 c8,aN A14 l14 c14,aD 5,aN A10 l10 c10,aN A12 l12 c12,aD 50,aD 5,aD 230,aN A16 l16 c16,aN A18 l18 c18]),aN A5 l5 c5]))))))))))
def Ma:MAn:=(aR (aR (aR .leaf)))
theorem Mj (σ:Hp) (R:aB) (h:FB σ  R):Af prog 30 #[] σ R:=
 Ae Lc Ma Tryz.func30 rfl (h:=h)
def HB (σ:Hp) (R:aB):Prop:=
 aC 30 #[] σ (fun v1 σ2=>∃ A3:aA,∃ l3 c3:Nat,∃ n4:Int,∃ A5:aA,∃ l5 c5:Nat,∃ A6:aA,∃ l6 c6:Nat,∃ A7:aA,∃ l7 c7:Nat,∃ A8:aA,∃ l8 c8:Nat,∃ n9:Int,∃ A10:aA,∃ l10 c10:Nat,∃ A11:aA,∃ l11 c11:Nat,∃ n12 n13 n14:Int,∃ A15:aA,∃ l15 c15:Nat,∃ A16:aA,∃ l16 c16:Nat,∃ A17:aA,∃ l17 c17:Nat,(v1=(.tuple #[(.agg #[aN A3 l3 c3,aD n4,aN A5 l5 c5,aN A6 l6 c6,aN A7 l7 c7,aN A8 l8 c8,aD n9,aN A10 l10 c10,aN A11 l11 c11,aD n12,aD n13,aD n14,aN A15 l15 c15,aN A16 l16 c16]),aN A17 l17 c17]) /\
  aC 31 #[(.agg #[aN A3 l3 c3,aD n4,aN A5 l5 c5,aN A6 l6 c6,aN A7 l7 c7,aN A8 l8 c8,aD n9,aN A10 l10 c10,aN A11 l11 c11,aD n12,aD n13,aD n14,aN A15 l15 c15,aN A16 l16 c16])] σ2 (fun v18 s19=>
  ∃ A20:aA,∃ l20 c20:Nat,∃ n21:Int,(v18=(.tuple #[aN A20 l20 c20,aD n21]) /\
  aC 23 #[(.agg #[aN A3 l3 c3,aD n4,aN A5 l5 c5,aN A6 l6 c6,aN A7 l7 c7,aN A8 l8 c8,aD n9,aN A10 l10 c10,aN A11 l11 c11,aD n12,aD n13,aD n14,aN A15 l15 c15,aN A16 l16 c16]),aN A17 l17 c17] s19 (fun v22 s23=>
  ∃ n24 n25:Int,(v22=(.tuple #[aD n24,aD n25])/\bc (decide (n21=0)) (bc (decide (n25=0)) (bc (decide ((l20:Int)=1)) (ix A20 l20 0 1 (fun b26 a27=>
  ldI s23 .i64 b26 a27 (fun n28=>bc (decide (n28=0)) (rt s23 R (.bool (decide (n24=5)))) (rt s23 R (.bool false))))) (rt s23 R (.bool false))) (rt s23 R (.bool false))) (rt s23 R (.bool false))))))))
def AU:OA:=⟨[],false,[]⟩
def Oq:MAn:=(aR (aR (aR (aR (.seq (.txt [AU,AU,⟨[],true,[]⟩,AU,AU,AU,⟨[],true,[]⟩,AU,AU,AU,AU,⟨[],true,[]⟩,AU,AU,AU,AU,AU,⟨[],true,[]⟩]) .leaf)))))
theorem OS (σ:Hp) (R:aB) (h:HB σ  R):Af prog 11 #[] σ R:=
 Ae Lc Oq Tryz.func11 rfl (h:=h)
def KX (σ:Hp) (_:aA) (a0 _:Nat) (_:Int) (_:aA) (i0 _:Nat) (_:aA) (j0 _:Nat) (_:aA) (d0 _:Nat) (_:aA) (v0 _:Nat) (_:Int) (_:aA) (b0 _:Nat) (_:aA) (c0 _:Nat) (_ _ _:Int) (_:aA) (x0 _:Nat) (_:aA) (a1 _:Nat) (R:aB):Prop:=
 bc (decide ((10:Int)<(a0:Int))) (rt σ R (.bool true)) (bc (decide ((25:Int)<(i0:Int))) (rt σ R (.bool true)) (bc (decide ((12:Int)<(j0:Int))) (rt σ R (.bool true)) (bc (decide ((15:Int)<(d0:Int))) (rt σ R (.bool true)) (bc (decide ((60:Int)<(v0:Int))) (rt σ R (.bool true)) (bc (decide ((15:Int)<(b0:Int))) (rt σ R (.bool true)) (bc (decide ((20:Int)<(c0:Int))) (rt σ R (.bool true)) (bc (decide ((15:Int)<(x0:Int))) (rt σ R (.bool true)) (rt σ R (.bool (decide ((15:Int)<(a1:Int))))))))))))
def Ao:OA:=⟨[],false,[]⟩
def Qf:MAn:=(aR (.seq (.txt [Ao,Ao,Ao,Ao,Ao,⟨[],true,[]⟩,Ao,Ao,Ao,Ao,Ao,Ao,⟨[],true,[]⟩,Ao,Ao,Ao,Ao,Ao,Ao,⟨[],true,[]⟩,Ao,Ao,Ao,Ao,Ao,Ao,⟨[],true,[]⟩,Ao,Ao,Ao,Ao,Ao,⟨[],true,[]⟩,Ao,Ao,Ao,Ao,Ao,Ao,⟨[],true,[]⟩,Ao,Ao,Ao,Ao,Ao,Ao,⟨[],true,[]⟩,Ao,Ao,Ao,Ao,Ao,⟨[],true,[]⟩]) .leaf))
theorem QV (σ:Hp) (f0:aA) (a0 e0:Nat) (o0:Int) (t0:aA) (i0 u0:Nat) (s0:aA) (j0 p0:Nat) (k0:aA) (d0 n0:Nat) (y0:aA) (v0 z0:Nat) (f1:Int) (g0:aA) (b0 h0:Nat) (m0:aA) (c0 l0:Nat) (q0 w0 r0:Int) (b1:aA) (x0 c1:Nat) (d1:aA) (a1 e1:Nat) (R:aB) (h:KX σ f0 a0 e0 o0 t0 i0 u0 s0 j0 p0 k0 d0 n0 y0 v0 z0 f1 g0 b0 h0 m0 c0 l0 q0 w0 r0 b1 x0 c1 d1 a1 e1 R):Af prog 10 #[(.agg #[aN f0 a0 e0,aD o0,aN t0 i0 u0,aN s0 j0 p0,aN k0 d0 n0,aN y0 v0 z0,aD f1,aN g0 b0 h0,aN m0 c0 l0,aD q0,aD w0,aD r0,aN b1 x0 c1,aN d1 a1 e1])] σ R:=
 Ae Lc Qf Tryz.func10 rfl (h:=h)
def FP (σ:Hp) (f0:aA) (a0 e0:Nat) (o0:Int) (t0:aA) (i0 u0:Nat) (s0:aA) (j0 p0:Nat) (k0:aA) (d0 n0:Nat) (y0:aA) (v0 z0:Nat) (f1:Int) (g0:aA) (b0 h0:Nat) (m0:aA) (c0 l0:Nat) (q0 w0 r0:Int) (b1:aA) (x0 c1:Nat) (d1:aA) (a1 e1:Nat) (l_A:aA) (l_n l_c:Nat) (R:aB):Prop:=
 aC 10 #[(.agg #[aN f0 a0 e0,aD o0,aN t0 i0 u0,aN s0 j0 p0,aN k0 d0 n0,aN y0 v0 z0,aD f1,aN g0 b0 h0,aN m0 c0 l0,aD q0,aD w0,aD r0,aN b1 x0 c1,aN d1 a1 e1])] σ (aI fun t3 σ2=>(bc t3 (rt σ2 R (.bool true)) (aC 45 #[(.agg #[aN f0 a0 e0,aD o0]),aN l_A l_n l_c] σ2 (aI fun t6 s5=>(rt s5 R (.bool t6))))))
def Mu:MAn:=(aR (.seq (.txt [⟨[],false,[]⟩,⟨[],false,[]⟩,⟨[],true,[]⟩]) .leaf))
theorem Mh (σ:Hp) (f0:aA) (a0 e0:Nat) (o0:Int) (t0:aA) (i0 u0:Nat) (s0:aA) (j0 p0:Nat) (k0:aA) (d0 n0:Nat) (y0:aA) (v0 z0:Nat) (f1:Int) (g0:aA) (b0 h0:Nat) (m0:aA) (c0 l0:Nat) (q0 w0 r0:Int) (b1:aA) (x0 c1:Nat) (d1:aA) (a1 e1:Nat) (l_A:aA) (l_n l_c:Nat) (R:aB) (h:FP σ f0 a0 e0 o0 t0 i0 u0 s0 j0 p0 k0 d0 n0 y0 v0 z0 f1 g0 b0 h0 m0 c0 l0 q0 w0 r0 b1 x0 c1 d1 a1 e1 l_A l_n l_c R):Af prog 18 #[(.agg #[aN f0 a0 e0,aD o0,aN t0 i0 u0,aN s0 j0 p0,aN k0 d0 n0,aN y0 v0 z0,aD f1,aN g0 b0 h0,aN m0 c0 l0,aD q0,aD w0,aD r0,aN b1 x0 c1,aN d1 a1 e1]),aN l_A l_n l_c] σ R:=
 Ae Lc Mu Tryz.func18 rfl (h:=h)
def Gz (σ:Hp) (l_A:aA) (l_n l_c:Nat) (R:aB):Prop:=
 aC 51 #[aN l_A l_n l_c] σ (fun v1 σ2=>∃ A3:aA,∃ l3 c3:Nat,(v1=(aN A3 l3 c3) /\
  rt σ2 R (aN A3 l3 c3)))
def NC:MAn:=(aR (aR .leaf))
theorem Nh (σ:Hp) (l_A:aA) (l_n l_c:Nat) (R:aB) (h:Gz σ l_A l_n l_c R):Af prog 20 #[aN l_A l_n l_c] σ R:=
 Ae Lc NC Tryz.func20 rfl (h:=h)
end Go.Proofs.YtoelhdjloaknbaaGreat
