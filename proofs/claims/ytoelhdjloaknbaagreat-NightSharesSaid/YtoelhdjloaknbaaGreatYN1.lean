/- What this claim rests on. -/
import Derived.Test.YtoelhdjloaknbaaGreatYB11
namespace Go.Proofs.YtoelhdjloaknbaaGreat
set_option maxRecDepth 100000
open Go.RowKit Go.Proofs.Tryz
def aP (x:MAn):MAn:=.seq (.txt []) x
def tkYN1:Nat->Nat->OA->MPlan->MPlan
 |0,_,_,x=>x
 |n+1,i,a,x=>.take i a (tkYN1 n (i+1) a x)
theorem Bn:prog.follows .mixedOrders=true:=by kernel_rfl
def Gp (σ:Hp) (n low high:Int) (R:aB):Prop:=
 bc (decide (low<=n)) (rt σ R (.bool (decide (n<=high)))) (rt σ R (.bool false))
def PH:MAn:=(aP (.seq (.txt [⟨[],false,[]⟩,⟨[],false,[]⟩,⟨[],false,[]⟩,⟨[],true,[]⟩]) .leaf))
theorem PM (σ:Hp) (n low high:Int) (R:aB) (h:Gp σ n low high R):Ag prog 185 #[aD n,aD low,aD high] σ R:=
 Af Bn PH Tryz.func185 rfl (h:=h)
def D6 (σ:Hp) (k2:aA) (j2 m2:Nat) (p2:aA) (l2 q2:Nat) (g2:aA) (e2 f2:Nat) (R:aB):Prop:=
 aG (fun t4 σ2=>cut (α:=aA->Bool->Hp->Prop) (fun p8 t9 s6=>
  ∀ _:Nat->Value,aG (fun t13 s11=>aF (fun s15=>rt s15 R (aD 0)) (fun J16=>aG (fun t20 s18=>bc t20 (rt s18 R (aD 100)) (J16 s18)) (fun J19=>bc t13 (J19 true s11) (dr p8 (fun b21 o22=>
  ldS s11 b21 (o22+2) (fun A23 l23 c23=>aC 33 #[aN A23 l23 c23,(.func (.func 241) #[] #[])] s11 (aI fun t26 s25=>(J19 t26 s25)))))))) (fun J12=>bc t9 (J12 true s6) (dr p8 (fun b27 o28=>
  ldS s6 b27 (o28+1) (fun A29 l29 c29=>aC 33 #[aN A29 l29 c29,(.func (.func 240) #[] #[])] s6 (aI fun t32 s31=>(J12 t32 s31))))))) (fun J7=>bc t4 (bx σ2 (.cells #[aN k2 j2 m2,aN p2 l2 q2,aN g2 e2 f2] 28) (fun b33 s34=>
  J7 (some ⟨b33,0,none⟩) true s34)) (bx σ2 (.cells #[aN k2 j2 m2,aN p2 l2 q2,aN g2 e2 f2] 28) (fun b35 s36=>
  aC 238 #[aN k2 j2 m2,(.func (.func 239) #[] #[(.pointer (some ⟨b35,0,none⟩))])] s36 (aI fun t39 s38=>(J7 (some ⟨b35,0,none⟩) t39 s38)))))) (fun J3=>bc (decide ((20:Int)<(j2:Int))) (J3 true σ) (bc (decide ((8:Int)<(l2:Int))) (J3 true σ) (J3 (decide ((10:Int)<(e2:Int))) σ)))
def Be:OA:=⟨[],false,[]⟩
def L6:MAn:=(aP (.cut ⟨[true],1,[.slot 1 (.hb 0 0),.slot 3 (.sc (.bool))],[]⟩ (.txt [Be,Be,Be,Be,⟨[],true,[]⟩,Be,Be,Be,Be,Be,⟨[],true,[]⟩]) (.cut ⟨[false],1,[.slot 1 (.sc (.ptr)),.slot 3 (.sc (.bool))],[]⟩ (.txt [Be,⟨[],true,[]⟩]) (.cut ⟨[false],1,[.slot 3 (.sc (.bool))],[(1,true)]⟩ (.txt [Be,⟨[],true,[]⟩]) (.cut ⟨[false],1,[],[]⟩ (.cut ⟨[false],1,[.slot 38 (.sc (.bool))],[]⟩ (.txt [Be,⟨[],true,[]⟩]) (.cond (aP .leaf) .leaf)) (aP .leaf))))))
theorem Ln (σ:Hp) (k2:aA) (j2 m2:Nat) (p2:aA) (l2 q2:Nat) (g2:aA) (e2 f2:Nat) (R:aB) (h:D6 σ k2 j2 m2 p2 l2 q2 g2 e2 f2 R):Ag prog 183 #[(.agg #[aN k2 j2 m2,aN p2 l2 q2,aN g2 e2 f2])] σ R:=
 Af Bn L6 Tryz.func183 rfl (h:=h)
def C7 (σ:Hp) (i3 h3 j3:Int) (_:Bool) (cap0:aA) (R:aB):Prop:=
 dr cap0 (fun b1 o2=>ldS σ b1 (o2+2) (fun _ l3 _=>wk .i64 ((l3:Int)-1) (fun n4=>
  aC 185 #[aD i3,aD 0,aD n4] σ (aI fun t7 s6=>(bc (!t7) (rt s6 R (.bool true)) (aC 185 #[aD h3,aD 1,aD 10000] s6 (aI fun t10 s9=>(bc (!t10) (rt s9 R (.bool true)) (aC 185 #[aD j3,aD 0,aD 9] s9 (aI fun t13 s12=>(rt s12 R (.bool (!t13)))))))))))))
def AX:OA:=⟨[],false,[]⟩
def JV:MAn:=(aP (.seq (.txt [AX,AX,AX,AX,AX,AX,AX,AX,⟨[],true,[]⟩,AX,AX,AX,AX,AX,⟨[],true,[]⟩]) .leaf))
theorem JF (σ:Hp) (i3 h3 j3:Int) (k3:Bool) (cap0:aA) (R:aB) (h:C7 σ i3 h3 j3 k3 cap0 R):Ag prog 239 #[(.agg #[aD i3,aD h3,aD j3,.bool k3]),.pointer cap0] σ R:=
 Af Bn JV Tryz.func239 rfl (h:=h)
def De (σ:Hp) (n:Int) (R:aB):Prop:=
 aC 185 #[aD n,aD 0,aD 9] σ (aI fun t3 σ2=>(rt σ2 R (.bool (!t3))))
def Jj:MAn:=(aP (aP .leaf))
theorem Jk (σ:Hp) (n:Int) (R:aB) (h:De σ n R):Ag prog 240 #[aD n] σ R:=
 Af Bn Jj Tryz.func240 rfl (h:=h)
def C8 (σ:Hp) (n:Int) (R:aB):Prop:=
 aC 185 #[aD n,aD 0,aD 10000] σ (aI fun t3 σ2=>(rt σ2 R (.bool (!t3))))
def Js:MAn:=(aP (aP .leaf))
theorem Jn (σ:Hp) (n:Int) (R:aB) (h:C8 σ n R):Ag prog 241 #[aD n] σ R:=
 Af Bn Js Tryz.func241 rfl (h:=h)
def EB (σ:Hp) (_:aA) (_ _:Nat) (_:aA) (_ _:Nat) (_:aA) (a0 _:Nat) (_:aA) (_ _:Nat) (n:Int) (R:aB):Prop:=
 wk .i64 ((a0:Int)-1) (fun n1=>aC 185 #[aD n,aD 0,aD n1] σ (aI fun t4 s3=>(rt s3 R (.bool t4))))
def MJ:MAn:=(aP (aP .leaf))
theorem Nd (σ:Hp) (e0:aA) (d0 h0:Nat) (g0:aA) (f0 i0:Nat) (b0:aA) (a0 c0:Nat) (k0:aA) (j0 l0:Nat) (n:Int) (R:aB) (h:EB σ e0 d0 h0 g0 f0 i0 b0 a0 c0 k0 j0 l0 n R):Ag prog 243 #[(.agg #[aN e0 d0 h0,aN g0 f0 i0,aN b0 a0 c0,aN k0 j0 l0]),aD n] σ R:=
 Af Bn MJ Tryz.func243 rfl (h:=h)
def DA (σ:Hp) (_:aA) (_ _:Nat) (_:aA) (f0 _:Nat) (_:aA) (_ _:Nat) (_:aA) (_ _:Nat) (n:Int) (R:aB):Prop:=
 wk .i64 ((f0:Int)-1) (fun n1=>aC 185 #[aD n,aD 0,aD n1] σ (aI fun t4 s3=>(rt s3 R (.bool t4))))
def KH:MAn:=(aP (aP .leaf))
theorem KE (σ:Hp) (e0:aA) (d0 h0:Nat) (g0:aA) (f0 i0:Nat) (b0:aA) (a0 c0:Nat) (k0:aA) (j0 l0:Nat) (n:Int) (R:aB) (h:DA σ e0 d0 h0 g0 f0 i0 b0 a0 c0 k0 j0 l0 n R):Ag prog 245 #[(.agg #[aN e0 d0 h0,aN g0 f0 i0,aN b0 a0 c0,aN k0 j0 l0]),aD n] σ R:=
 Af Bn KH Tryz.func245 rfl (h:=h)
def Fo (σ:Hp) (e0:aA) (d0 h0:Nat) (g0:aA) (f0 i0:Nat) (b0:aA) (a0 c0:Nat) (k0:aA) (j0 l0:Nat) (rule n:Int) (R:aB):Prop:=
 aC 245 #[(.agg #[aN e0 d0 h0,aN g0 f0 i0,aN b0 a0 c0,aN k0 j0 l0]),aD n] σ (aI fun t3 σ2=>(bc t3 (ix g0 f0 n 1 (fun b4 a5=>ldI σ2 .i64 b4 a5 (fun n6=>
  ix e0 d0 rule 4 (fun b7 a8=>ldI σ2 .i64 b7 (a8+2) (fun n9=>rt σ2 R (.bool (decide (n9<=n6)))))))) (rt σ2 R (.bool false))))
def AV:OA:=⟨[],false,[]⟩
def Nn:MAn:=(aP (.seq (.plan [2] (.take 0 AV (.take 1 AV (.alt 2 false AV (.take 3 ⟨[],true,[]⟩ (tkYN1 16 4 AV .done)) .done)))) .leaf))
theorem Ns (σ:Hp) (e0:aA) (d0 h0:Nat) (g0:aA) (f0 i0:Nat) (b0:aA) (a0 c0:Nat) (k0:aA) (j0 l0:Nat) (rule n:Int) (R:aB) (h:Fo σ e0 d0 h0 g0 f0 i0 b0 a0 c0 k0 j0 l0 rule n R):Ag prog 271 #[(.agg #[aN e0 d0 h0,aN g0 f0 i0,aN b0 a0 c0,aN k0 j0 l0]),aD rule,aD n] σ R:=
 Af Bn Nn Tryz.func271 rfl (h:=h)
def DZ (σ:Hp) (e0:aA) (d0 h0:Nat) (g0:aA) (f0 i0:Nat) (b0:aA) (a0 c0:Nat) (k0:aA) (j0 l0:Nat) (rule a b:Int) (R:aB):Prop:=
 ix e0 d0 rule 4 (fun b1 a2=>ldB σ b1 (a2+3) (fun t3=>bc (!t3) (aC 271 #[(.agg #[aN e0 d0 h0,aN g0 f0 i0,aN b0 a0 c0,aN k0 j0 l0]),aD rule,aD a] σ (aI fun t6 s5=>(bc t6 (rt s5 R (.bool (decide (b=(-1))))) (rt s5 R (.bool false))))) (aC 271 #[(.agg #[aN e0 d0 h0,aN g0 f0 i0,aN b0 a0 c0,aN k0 j0 l0]),aD rule,aD a] σ (aI fun t9 s8=>(bc t9 (aC 271 #[(.agg #[aN e0 d0 h0,aN g0 f0 i0,aN b0 a0 c0,aN k0 j0 l0]),aD rule,aD b] s8 (aI fun t12 s11=>(bc t12 (rt s11 R (.bool (!decide (a=b)))) (rt s11 R (.bool false))))) (rt s8 R (.bool false)))))))
def Ba:OA:=⟨[],false,[]⟩
def Lo:MAn:=(aP (.seq (aP (.cond (.seq (.txt [Ba,Ba,Ba,Ba,⟨[],true,[]⟩]) .leaf) .leaf)) (.seq (.txt [Ba,Ba,Ba,Ba,⟨[],true,[]⟩,Ba,Ba,Ba,Ba,Ba,⟨[],true,[]⟩]) .leaf)))
theorem K5 (σ:Hp) (e0:aA) (d0 h0:Nat) (g0:aA) (f0 i0:Nat) (b0:aA) (a0 c0:Nat) (k0:aA) (j0 l0:Nat) (rule a b:Int) (R:aB) (h:DZ σ e0 d0 h0 g0 f0 i0 b0 a0 c0 k0 j0 l0 rule a b R):Ag prog 242 #[(.agg #[aN e0 d0 h0,aN g0 f0 i0,aN b0 a0 c0,aN k0 j0 l0]),aD rule,aD a,aD b] σ R:=
 Af Bn Lo Tryz.func242 rfl (h:=h)
def Dt (σ:Hp) (_:aA) (_ _:Nat) (_:aA) (_ _:Nat) (_:aA) (_ _:Nat) (k0:aA) (j0 l0:Nat) (n:Int) (R:aB):Prop:=
 bx σ (.cells #[aD n] 3) (fun b1 σ2=>aC 272 #[aN k0 j0 l0,(.func (.func 273) #[] #[(.pointer (some ⟨b1,0,none⟩))])] σ2 (aI fun t5 s4=>(rt s4 R (.bool t5))))
def KG:MAn:=(aP (aP .leaf))
theorem Kq (σ:Hp) (e0:aA) (d0 h0:Nat) (g0:aA) (f0 i0:Nat) (b0:aA) (a0 c0:Nat) (k0:aA) (j0 l0:Nat) (n:Int) (R:aB) (h:Dt σ e0 d0 h0 g0 f0 i0 b0 a0 c0 k0 j0 l0 n R):Ag prog 244 #[(.agg #[aN e0 d0 h0,aN g0 f0 i0,aN b0 a0 c0,aN k0 j0 l0]),aD n] σ R:=
 Af Bn KG Tryz.func244 rfl (h:=h)
def CW (σ:Hp) (_ t2 x_A _ _:Int) (cap0:aA) (R:aB):Prop:=
 bc (decide (t2=3)) (dr cap0 (fun b1 o2=>ldI σ .i64 b1 o2 (fun n3=>rt σ R (.bool (decide (x_A=n3)))))) (rt σ R (.bool false))
def ID:MAn:=(aP (.seq (.txt [⟨[],false,[]⟩,⟨[],false,[]⟩,⟨[],false,[]⟩,⟨[],true,[]⟩]) .leaf))
theorem IQ (σ:Hp) (a3 t2 x_A x_B x_C:Int) (cap0:aA) (R:aB) (h:CW σ a3 t2 x_A x_B x_C cap0 R):Ag prog 273 #[(.agg #[aD a3,aD t2,aD x_A,aD x_B,aD x_C]),.pointer cap0] σ R:=
 Af Bn ID Tryz.func273 rfl (h:=h)
def D2 (σ:Hp) (e0:aA) (d0 h0:Nat) (g0:aA) (f0 i0:Nat) (b0:aA) (a0 c0:Nat) (k0:aA) (j0 l0:Nat) (a3 t2 x_A x_B x_C:Int) (R:aB):Prop:=
 aH (fun n4 σ2=>aC 185 #[aD a3,aD n4,aD 10000] σ2 (aI fun t7 s6=>(bc (!t7) (rt s6 R (.bool false)) (bc (decide (t2=1)) (wk .i64 ((d0:Int)-1) (fun n8=>
  aC 185 #[aD x_A,aD 0,aD n8] s6 (aI fun t11 s10=>(bc t11 (aC 242 #[(.agg #[aN e0 d0 h0,aN g0 f0 i0,aN b0 a0 c0,aN k0 j0 l0]),aD x_A,aD x_B,aD x_C] s10 (aI fun t14 s13=>(rt s13 R (.bool t14)))) (rt s10 R (.bool false)))))) (bc (decide (t2=2)) (aC 243 #[(.agg #[aN e0 d0 h0,aN g0 f0 i0,aN b0 a0 c0,aN k0 j0 l0]),aD x_A] s6 (aI fun t17 s16=>(bc t17 (aC 185 #[aD x_B,aD 1,aD 3] s16 (aI fun t20 s19=>(bc t20 (rt s19 R (.bool (decide (x_C=0)))) (rt s19 R (.bool false))))) (rt s16 R (.bool false))))) (bc (decide (t2=3)) (wk .i64 ((j0:Int)-1) (fun n21=>
  aC 185 #[aD x_A,aD 0,aD n21] s6 (aI fun t24 s23=>(bc t24 (ix k0 j0 x_A 5 (fun b25 a26=>ldI s23 .i64 b25 (a26+1) (fun n27=>
  bc (decide (n27=2)) (aC 244 #[(.agg #[aN e0 d0 h0,aN g0 f0 i0,aN b0 a0 c0,aN k0 j0 l0]),aD x_A] s23 (aI fun t30 s29=>(bc (!t30) (aC 245 #[(.agg #[aN e0 d0 h0,aN g0 f0 i0,aN b0 a0 c0,aN k0 j0 l0]),aD x_B] s29 (aI fun t33 s32=>(bc t33 (rt s32 R (.bool (decide (x_C=0)))) (rt s32 R (.bool false))))) (rt s29 R (.bool false))))) (rt s23 R (.bool false))))) (rt s23 R (.bool false)))))) (bc (decide (t2=4)) (aC 243 #[(.agg #[aN e0 d0 h0,aN g0 f0 i0,aN b0 a0 c0,aN k0 j0 l0]),aD x_A] s6 (aI fun t36 s35=>(bc t36 (aC 245 #[(.agg #[aN e0 d0 h0,aN g0 f0 i0,aN b0 a0 c0,aN k0 j0 l0]),aD x_B] s35 (aI fun t39 s38=>(bc t39 (rt s38 R (.bool (decide (x_C=0)))) (rt s38 R (.bool false))))) (rt s35 R (.bool false))))) (bc (decide (t2=5)) (aC 243 #[(.agg #[aN e0 d0 h0,aN g0 f0 i0,aN b0 a0 c0,aN k0 j0 l0]),aD x_A] s6 (aI fun t42 s41=>(bc t42 (aC 185 #[aD x_B,aD 0,aD 10000] s41 (aI fun t45 s44=>(bc t45 (rt s44 R (.bool (decide (x_C=0)))) (rt s44 R (.bool false))))) (rt s41 R (.bool false))))) (bc (decide (t2=6)) (aC 243 #[(.agg #[aN e0 d0 h0,aN g0 f0 i0,aN b0 a0 c0,aN k0 j0 l0]),aD x_A] s6 (aI fun t48 s47=>(bc t48 (bc (decide (x_B=0)) (rt s47 R (.bool (decide (x_C=0)))) (rt s47 R (.bool false))) (rt s47 R (.bool false))))) (rt s6 R (.bool false))))))))))) (fun J3=>
  bc (decide ((0:Int)<(j0:Int))) (wk .i64 ((j0:Int)-1) (fun n49=>
  ix k0 j0 n49 5 (fun b50 a51=>ldI σ .i64 b50 a51 (fun n52=>J3 n52 σ)))) (J3 0 σ))
def Ai:OA:=⟨[],false,[]⟩
def CX:MAn:=(.seq (.txt [Ai,Ai,Ai,Ai,⟨[],true,[]⟩,Ai,Ai,Ai,Ai,⟨[],true,[]⟩]) .leaf)
def Lw:MAn:=(aP (aP (.cut ⟨[true,true],2,[.slot 2 (.hb 0 0),.slot 3 (.hb 1 0),.slot 5 (.sc (.int .i64))],[]⟩ (aP (aP (.cond (.txt []) .leaf))) (.seq (aP (.cond (aP .leaf) .leaf)) (.seq (aP (.block (aP (.cond (.seq (.txt [Ai,Ai,Ai,Ai,Ai,Ai,Ai,Ai,⟨[],true,[]⟩]) .leaf) (aP (.cond CX (aP (.cond (.seq (.txt [Ai,Ai,Ai,Ai,Ai,Ai,Ai,⟨[],true,[]⟩,Ai,Ai,Ai,Ai,Ai,Ai,Ai,Ai,Ai,⟨[],true,[]⟩,Ai,Ai,Ai,Ai,Ai,Ai,⟨[],true,[]⟩,Ai,Ai,Ai,Ai,Ai,⟨[],true,[]⟩]) .leaf) (aP (.cond (.seq (.txt [Ai,Ai,Ai,Ai,⟨[],true,[]⟩,Ai,Ai,Ai,Ai,Ai,⟨[],true,[]⟩]) .leaf) (aP (.cond CX (aP (.cond CX .leaf)))))))))))))) (aP .leaf))))))
theorem Lu (σ:Hp) (e0:aA) (d0 h0:Nat) (g0:aA) (f0 i0:Nat) (b0:aA) (a0 c0:Nat) (k0:aA) (j0 l0:Nat) (a3 t2 x_A x_B x_C:Int) (R:aB) (h:D2 σ e0 d0 h0 g0 f0 i0 b0 a0 c0 k0 j0 l0 a3 t2 x_A x_B x_C R):Ag prog 184 #[(.agg #[aN e0 d0 h0,aN g0 f0 i0,aN b0 a0 c0,aN k0 j0 l0]),(.agg #[aD a3,aD t2,aD x_A,aD x_B,aD x_C])] σ R:=
 Af Bn Lw Tryz.func184 rfl (h:=h)
def Gk (σ:Hp) (k2:aA) (j2 m2:Nat) (p2:aA) (l2 q2:Nat) (g2:aA) (e2 f2:Nat) (w2:aA) (u2 _:Nat) (R:aB):Prop:=
 aC 183 #[(.agg #[aN k2 j2 m2,aN p2 l2 q2,aN g2 e2 f2])] σ (aJ fun n3 σ2=>(bc (!decide (n3=0)) (rt σ2 R (.tuple #[(.agg #[aN none 0 0,aN none 0 0,aN none 0 0,aN none 0 0]),aD 0,aD n3])) (bc (decide ((100:Int)<(u2:Int))) (rt σ2 R (.tuple #[(.agg #[aN none 0 0,aN none 0 0,aN none 0 0,aN none 0 0]),aD 0,aD 2])) (cut (α:=aA->Nat->Nat->aA->Nat->Nat->aA->Nat->Nat->List (Int×Int×Int×Int×Int)->Hp->Prop) (fun A7 l7 c7 A8 l8 c8 A9 l9 c9 xs10 s5=>
  ∀ _:Nat->Value,exl 136 [.int .i64,.int .i64,.int .i64,.int .i64,.int .i64] xs10 s5 (fun A11 l11 c11 s12=>
  rt s12 R (.tuple #[(.agg #[aN A7 l7 c7,aN A8 l8 c8,aN A9 l9 c9,aN A11 l11 c11]),aD 0,aD 0]))) (fun J6=>
  ∃ I15:Nat->Int->aA->Nat->Nat->aA->Nat->Nat->aA->Nat->Nat->List (Int×Int×Int×Int×Int)->Hp->Prop,(∃ n160,adp 136 [.int .i64,.int .i64,.int .i64,.int .i64,.int .i64] none 0 0 σ2 (fun (xs17:List (Int×Int×Int×Int×Int)) s18=>
  I15 n160 0 k2 j2 m2 p2 l2 q2 g2 e2 f2 xs17 s18)) /\
  ∀ n16 n19 A20 l20 c20 A21 l21 c21 A22 l22 c22 xs23 s14,I15 n16 n19 A20 l20 c20 A21 l21 c21 A22 l22 c22 xs23 s14->∀ _:Nat->Value,bc (decide (n19<(u2:Int))) (ix w2 u2 n19 5 (fun b24 a25=>
  ldI s14 .i64 b24 a25 (fun n26=>ldI s14 .i64 b24 (a25+1) (fun n27=>ldI s14 .i64 b24 (a25+2) (fun n28=>
  ldI s14 .i64 b24 (a25+3) (fun n29=>ldI s14 .i64 b24 (a25+4) (fun n30=>exl 136 [.int .i64,.int .i64,.int .i64,.int .i64,.int .i64] xs23 s14 (fun A31 l31 c31 s32=>
  aC 184 #[(.agg #[aN A20 l20 c20,aN A21 l21 c21,aN A22 l22 c22,aN A31 l31 c31]),(.agg #[aD n26,aD n27,aD n28,aD n29,aD n30])] s32 (aI fun t35 s34=>(bc (!t35) (rt s34 R (.tuple #[(.agg #[aN A20 l20 c20,aN A21 l21 c21,aN A22 l22 c22,aN A31 l31 c31]),aD n19,aD 101])) (adp 136 [.int .i64,.int .i64,.int .i64,.int .i64,.int .i64] A31 l31 c31 s34 (fun (xs36:List (Int×Int×Int×Int×Int)) s37=>
  Bh (List.length xs36+List.length ([(n26,n27,n28,n29,n30)]:List (Int×Int×Int×Int×Int))) (wk .i64 (n19+1) (fun n38=>
  bk s37 n16 (fun m39 s40=>I15 m39 n38 A20 l20 c20 A21 l21 c21 A22 l22 c22 (xs36++([(n26,n27,n28,n29,n30)]:List (Int×Int×Int×Int×Int))) s40))))))))))))))) (J6 A20 l20 c20 A21 l21 c21 A22 l22 c22 xs23 s14))))))
def Pa:MAn:=(aP (.seq (aP (aP (.cond (aP .leaf) .leaf))) (.seq (aP (.cond (aP .leaf) .leaf)) (aP (.cut ⟨[true,false],3,[.slot 4 (.hb 1 0),.modb 1 208 [.sc (.slc),.sc (.slc),.sc (.slc),.lst 2 136 [.int .i64,.int .i64,.int .i64,.int .i64,.int .i64]]],[]⟩ (aP (.block (.loop ⟨[true,false],3,[.slot 4 (.hb 1 0),.slot 24 (.sc (.int .i64)),.modb 1 208 [.sc (.slc),.sc (.slc),.sc (.slc),.lst 2 136 [.int .i64,.int .i64,.int .i64,.int .i64,.int .i64]]],[(22,true),(23,true)]⟩ (aP (.seq (.cond .leaf .leaf) (.seq (.block (aP (.seq (aP (.cond (aP .leaf) .leaf)) (.txt [])))) (.txt []))))))) (aP .leaf))))))
theorem PV (σ:Hp) (k2:aA) (j2 m2:Nat) (p2:aA) (l2 q2:Nat) (g2:aA) (e2 f2:Nat) (w2:aA) (u2 x2:Nat) (R:aB) (h:Gk σ k2 j2 m2 p2 l2 q2 g2 e2 f2 w2 u2 x2 R):Ag prog 128 #[(.agg #[aN k2 j2 m2,aN p2 l2 q2,aN g2 e2 f2]),aN w2 u2 x2] σ R:=
 Af Bn Pa Tryz.func128 rfl (h:=h)
def GT (σ:Hp) (k2:aA) (j2 m2:Nat) (p2:aA) (l2 q2:Nat) (g2:aA) (e2 f2:Nat) (l_A:aA) (l_n l_c:Nat) (R:aB):Prop:=
 aC 128 #[(.agg #[aN k2 j2 m2,aN p2 l2 q2,aN g2 e2 f2]),aN l_A l_n l_c] σ (fun v1 σ2=>
  ∃ A3:aA,∃ l3 c3:Nat,∃ A4:aA,∃ l4 c4:Nat,∃ A5:aA,∃ l5 c5:Nat,∃ A6:aA,∃ l6 c6:Nat,∃ n7 n8:Int,(v1=(.tuple #[(.agg #[aN A3 l3 c3,aN A4 l4 c4,aN A5 l5 c5,aN A6 l6 c6]),aD n7,aD n8]) /\
  rt σ2 R (.tuple #[aD n7,aD n8])))
def Qk:MAn:=(aP (aP (aP .leaf)))
theorem QB (σ:Hp) (k2:aA) (j2 m2:Nat) (p2:aA) (l2 q2:Nat) (g2:aA) (e2 f2:Nat) (l_A:aA) (l_n l_c:Nat) (R:aB) (h:GT σ k2 j2 m2 p2 l2 q2 g2 e2 f2 l_A l_n l_c R):Ag prog 69 #[(.agg #[aN k2 j2 m2,aN p2 l2 q2,aN g2 e2 f2]),aN l_A l_n l_c] σ R:=
 Af Bn Qk Tryz.func69 rfl (h:=h)
def Ge (σ:Hp) (e0:aA) (d0 h0:Nat) (g0:aA) (f0 i0:Nat) (b0:aA) (a0 c0:Nat) (k0:aA) (j0 l0:Nat) (day:Int) (R:aB):Prop:=
 bx σ (.cells #[aD day] 3) (fun b1 σ2=>aC 246 #[aN k0 j0 l0,(.func (.func 247) #[] #[(.pointer (some ⟨b1,0,none⟩))])] σ2 (aJ fun n5 s4=>(cut (α:=aA->Nat->Nat->aA->Nat->Nat->aA->Nat->Nat->aA->Nat->Nat->Hp->Prop) (fun A9 l9 c9 A10 l10 c10 A11 l11 c11 A12 l12 c12 s7=>
  ∀ _:Nat->Value,rt s7 R (.agg #[aN A9 l9 c9,aN A10 l10 c10,aN A11 l11 c11,aN A12 l12 c12])) (fun J8=>
  bc (decide ((0:Int)<=n5)) ((0<=n5/\n5<=(l0:Int)/\J8 e0 d0 h0 g0 f0 i0 b0 a0 c0 k0 ((n5:Int).toNat) l0 s4)) (J8 e0 d0 h0 g0 f0 i0 b0 a0 c0 k0 j0 l0 s4)))))
def Pb:MAn:=(aP (aP (.cut ⟨[false,false,true],3,[.slot 2 (.hb 0 0),.slot 4 (.hb 2 0),.modb 0 208 [.sc (.slc),.sc (.slc),.sc (.slc),.sc (.slc)]],[]⟩ (aP (.cond (.txt []) .leaf)) (aP .leaf))))
theorem PO (σ:Hp) (e0:aA) (d0 h0:Nat) (g0:aA) (f0 i0:Nat) (b0:aA) (a0 c0:Nat) (k0:aA) (j0 l0:Nat) (day:Int) (R:aB) (h:Ge σ e0 d0 h0 g0 f0 i0 b0 a0 c0 k0 j0 l0 day R):Ag prog 186 #[(.agg #[aN e0 d0 h0,aN g0 f0 i0,aN b0 a0 c0,aN k0 j0 l0]),aD day] σ R:=
 Af Bn Pb Tryz.func186 rfl (h:=h)
def Es (σ:Hp) (a3 _ _ _ _:Int) (cap0:aA) (R:aB):Prop:=
 dr cap0 (fun b1 o2=>ldI σ .i64 b1 o2 (fun n3=>rt σ R (.bool (decide (n3<a3)))))
def MO:MAn:=(aP (aP .leaf))
theorem M7 (σ:Hp) (a3 t2 x_A x_B x_C:Int) (cap0:aA) (R:aB) (h:Es σ a3 t2 x_A x_B x_C cap0 R):Ag prog 247 #[(.agg #[aD a3,aD t2,aD x_A,aD x_B,aD x_C]),.pointer cap0] σ R:=
 Af Bn MO Tryz.func247 rfl (h:=h)
def Iv (σ:Hp) (e0:aA) (d0 h0:Nat) (g0:aA) (f0 i0:Nat) (b0:aA) (a0 c0:Nat) (k0:aA) (j0 l0:Nat) (R:aB):Prop:=
 bx σ (.cells #[aN e0 d0 h0,aN g0 f0 i0,aN b0 a0 c0,aN k0 j0 l0] 208) (fun b1 σ2=>
  rt σ2 R (.func (.func 275) #[] #[(.pointer (some ⟨b1,0,none⟩))]))
def MY:MAn:=(aP (aP .leaf))
theorem M3 (σ:Hp) (e0:aA) (d0 h0:Nat) (g0:aA) (f0 i0:Nat) (b0:aA) (a0 c0:Nat) (k0:aA) (j0 l0:Nat) (R:aB) (h:Iv σ e0 d0 h0 g0 f0 i0 b0 a0 c0 k0 j0 l0 R):Ag prog 250 #[(.agg #[aN e0 d0 h0,aN g0 f0 i0,aN b0 a0 c0,aN k0 j0 l0])] σ R:=
 Af Bn MY Tryz.func250 rfl (h:=h)
def Dr (σ:Hp) (yield:Value) (cap0:aA) (R:aB):Prop:=
 one yield (dr cap0 (fun b1 o2=>ldS σ b1 (o2+3) (fun A3 l3 c3=>aC 276 #[aN A3 l3 c3] σ (fun v4 s5=>
  ∃ v6:Value,(v4=v6/\bx s5 (.cells #[yield] 257) (fun b7 s8=>AeW prog v6 s8 (fun l9 Rec10 ag11 s12 R13=>
  ∃ n17 n18:Int,∃ n19 n20:Int,∃ n21 n22:Int,(ag11=#[aD n17,(.agg #[aD n18,aD n19,aD n20,aD n21,aD n22])] /\
  ∀ _:Nat->Value,rgb l9 Rec10 s12 (fun s23=>ldV s23 b7 0 (fun v24=>cl prog v24 #[(.agg #[aD n18,aD n19,aD n20,aD n21,aD n22])] s23 (aI fun t27 s26=>(bc (!t27) (rgx l9 Rec10 R13 s26 .ret) (rgo l9 Rec10 R13 s26))))))) (fun p14 s15=>
  aft p14 (rt s15 R (.tuple #[])) (rt s15 R (.tuple #[])) (fun i=>exb i 0 (rt s15 R (.tuple #[])) (False)))))))))
def Kt:MAn:=(aP (aP (.block (.rng [.exp 2] [(2,true)] [3,136] (.txt []) (.block (aP (.cond .leaf .leaf)))))))
theorem Kf (σ:Hp) (yield:Value) (cap0:aA) (R:aB) (h:Dr σ yield cap0 R):Ag prog 275 #[yield,.pointer cap0] σ R:=
 Af Bn Kt Tryz.func275 rfl (h:=h)
def EC (σ:Hp) (e0:aA) (d0 h0:Nat) (g0:aA) (f0 i0:Nat) (b0:aA) (a0 c0:Nat) (k0:aA) (j0 l0:Nat) (ride:Int) (wanted:Value) (R:aB):Prop:=
 one wanted (cut (α:=aA->Hp->Prop) (fun p4 σ2=>∀ _:Nat->Value,dr p4 (fun b5 o6=>
  st σ2 b5 o6 (aD (-1)) (fun s7=>dr p4 (fun b8 o9=>ldI s7 .i64 b8 o9 (fun n10=>rt s7 R (aD n10)))))) (fun J3=>
  aC 250 #[(.agg #[aN e0 d0 h0,aN g0 f0 i0,aN b0 a0 c0,aN k0 j0 l0])] σ (fun v11 s12=>
  ∃ v13:Value,(v11=v13/\bx s12 (.cells #[aD ride] 3) (fun b14 s15=>bx s15 (.cells #[wanted] 257) (fun b16 s17=>
  bx s17 (.cells #[aD 0] 3) (fun b18 s19=>AeW prog v13 s19 (fun l20 Rec21 ag22 s23 R24=>
  ∃ n28 n29:Int,∃ n30 n31 n32:Int,(ag22=#[(.agg #[aD n28,aD n29,aD n30,aD n31,aD n32])] /\
  ∀ _:Nat->Value,rgb l20 Rec21 s23 (fun s33=>ldV s33 b16 0 (fun v34=>cl prog v34 #[(.agg #[aD n28,aD n29,aD n30,aD n31,aD n32])] s33 (aI fun t37 s36=>(bc t37 (st s36 b18 0 (aD n28) (fun s38=>rgx l20 Rec21 R24 s38 .ret)) (aG (fun t42 s40=>bc t42 (st s40 b18 0 (aD (-1)) (fun s43=>rgx l20 Rec21 R24 s43 .ret)) (rgo l20 Rec21 R24 s40)) (fun J41=>
  bc (decide (n29=6)) (ldI s36 .i64 b14 0 (fun n44=>J41 (decide (n30=n44)) s36)) (J41 false s36))))))))) (fun p25 s26=>
  aft p25 (J3 (some ⟨b18,0,none⟩) s26) (ldI s26 .i64 b18 0 (fun n45=>rt s26 R (aD n45))) (fun i=>
  exb i 0 (J3 (some ⟨b18,0,none⟩) s26) (False))))))))))
def Mu:MAn:=(aP (.cut ⟨[true,false,false,false],4,[.slot 6 (.sc (.ptr))],[]⟩ (aP (.block (.rng [.exp 4,.exp 5,.exp 6] [(4,true),(5,true),(6,true)] [136] (.txt []) (.block (.block (aP (.cond (aP .leaf) (.cut ⟨[true],1,[.slot 17 (.sc (.bool))],[(6,true)]⟩ (.txt [⟨[],false,[]⟩,⟨[],false,[]⟩,⟨[],false,[]⟩,⟨[],true,[]⟩]) (.cond (aP .leaf) .leaf))))))))) (aP .leaf)))
theorem M8 (σ:Hp) (e0:aA) (d0 h0:Nat) (g0:aA) (f0 i0:Nat) (b0:aA) (a0 c0:Nat) (k0:aA) (j0 l0:Nat) (ride:Int) (wanted:Value) (R:aB) (h:EC σ e0 d0 h0 g0 f0 i0 b0 a0 c0 k0 j0 l0 ride wanted R):Ag prog 190 #[(.agg #[aN e0 d0 h0,aN g0 f0 i0,aN b0 a0 c0,aN k0 j0 l0]),aD ride,wanted] σ R:=
 Af Bn Mu Tryz.func190 rfl (h:=h)
def DS (σ:Hp) (e0:aA) (d0 h0:Nat) (g0:aA) (f0 i0:Nat) (b0:aA) (a0 c0:Nat) (k0:aA) (j0 l0:Nat) (rule:Int) (R:aB):Prop:=
 ix e0 d0 rule 4 (fun b1 a2=>ldI σ .i64 b1 a2 (fun n3=>bx σ (.cells #[aD rule] 3) (fun b4 s5=>
  aC 190 #[(.agg #[aN e0 d0 h0,aN g0 f0 i0,aN b0 a0 c0,aN k0 j0 l0]),aD n3,(.func (.func 274) #[] #[(.pointer (some ⟨b4,0,none⟩))])] s5 (aJ fun n8 s7=>(bc (decide (n8<0)) (rt s7 R (aD (-1))) (ldI s7 .i64 b4 0 (fun n9=>
  ix e0 d0 n9 4 (fun b10 a11=>ldI s7 .i64 b10 (a11+1) (fun n12=>wk .i64 (n8+n12) (fun n13=>
  wk .i64 (n13-1) (fun n14=>rt s7 R (aD n14))))))))))))
def Bj:OA:=⟨[],false,[]⟩
def Lt:MAn:=(aP (.seq (.plan [9] (tkYN1 9 0 Bj (.alt 9 false Bj (.take 10 Bj .done) .done))) (.seq (aP (.cond (aP .leaf) .leaf)) (aP .leaf))))
theorem L9 (σ:Hp) (e0:aA) (d0 h0:Nat) (g0:aA) (f0 i0:Nat) (b0:aA) (a0 c0:Nat) (k0:aA) (j0 l0:Nat) (rule:Int) (R:aB) (h:DS σ e0 d0 h0 g0 f0 i0 b0 a0 c0 k0 j0 l0 rule R):Ag prog 248 #[(.agg #[aN e0 d0 h0,aN g0 f0 i0,aN b0 a0 c0,aN k0 j0 l0]),aD rule] σ R:=
 Af Bn Lt Tryz.func248 rfl (h:=h)
def Di (σ:Hp) (_ t2 x_A _ _:Int) (cap0:aA) (R:aB):Prop:=
 bc (decide (t2=1)) (dr cap0 (fun b1 o2=>ldI σ .i64 b1 o2 (fun n3=>rt σ R (.bool (decide (x_A=n3)))))) (rt σ R (.bool false))
def Ji:MAn:=(aP (.seq (.txt [⟨[],false,[]⟩,⟨[],false,[]⟩,⟨[],false,[]⟩,⟨[],true,[]⟩]) .leaf))
theorem JO (σ:Hp) (a3 t2 x_A x_B x_C:Int) (cap0:aA) (R:aB) (h:Di σ a3 t2 x_A x_B x_C cap0 R):Ag prog 274 #[(.agg #[aD a3,aD t2,aD x_A,aD x_B,aD x_C]),.pointer cap0] σ R:=
 Af Bn Ji Tryz.func274 rfl (h:=h)
def Gm (σ:Hp) (k2:aA) (j2 m2:Nat) (p2:aA) (l2 q2:Nat) (g2:aA) (e2 f2:Nat) (w2:aA) (u2 x2:Nat) (day:Int) (R:aB):Prop:=
 aC 128 #[(.agg #[aN k2 j2 m2,aN p2 l2 q2,aN g2 e2 f2]),aN w2 u2 x2] σ (fun v1 σ2=>
  ∃ A3:aA,∃ l3 c3:Nat,∃ A4:aA,∃ l4 c4:Nat,∃ A5:aA,∃ l5 c5:Nat,∃ A6:aA,∃ l6 c6:Nat,∃ n7 n8:Int,(v1=(.tuple #[(.agg #[aN A3 l3 c3,aN A4 l4 c4,aN A5 l5 c5,aN A6 l6 c6]),aD n7,aD n8]) /\
  bc (!decide (n8=0)) (rt σ2 R (.tuple #[(.agg #[aN A3 l3 c3,aN A4 l4 c4,aN A5 l5 c5,aN A6 l6 c6]),aD n8])) (aC 185 #[aD day,aD 0,aD 10000] σ2 (aI fun t11 s10=>(bc (!t11) (rt s10 R (.tuple #[(.agg #[aN A3 l3 c3,aN A4 l4 c4,aN A5 l5 c5,aN A6 l6 c6]),aD 1])) (aC 186 #[(.agg #[aN A3 l3 c3,aN A4 l4 c4,aN A5 l5 c5,aN A6 l6 c6]),aD day] s10 (fun v12 s13=>
  ∃ A14:aA,∃ l14 c14:Nat,∃ A15:aA,∃ l15 c15:Nat,∃ A16:aA,∃ l16 c16:Nat,∃ A17:aA,∃ l17 c17:Nat,(v12=(.agg #[aN A14 l14 c14,aN A15 l15 c15,aN A16 l16 c16,aN A17 l17 c17]) /\
  rt s13 R (.tuple #[(.agg #[aN A14 l14 c14,aN A15 l15 c15,aN A16 l16 c16,aN A17 l17 c17]),aD 0])))))))))
def O5:MAn:=(aP (aP (.seq (.block (aP (.cond (aP .leaf) (aP (.cond (aP .leaf) .leaf))))) (aP .leaf))))
theorem PN (σ:Hp) (k2:aA) (j2 m2:Nat) (p2:aA) (l2 q2:Nat) (g2:aA) (e2 f2:Nat) (w2:aA) (u2 x2:Nat) (day:Int) (R:aB) (h:Gm σ k2 j2 m2 p2 l2 q2 g2 e2 f2 w2 u2 x2 day R):Ag prog 130 #[(.agg #[aN k2 j2 m2,aN p2 l2 q2,aN g2 e2 f2]),aN w2 u2 x2,aD day] σ R:=
 Af Bn O5 Tryz.func130 rfl (h:=h)
def Er (σ:Hp) (e0:aA) (d0 h0:Nat) (g0:aA) (f0 i0:Nat) (b0:aA) (a0 c0:Nat) (k0:aA) (j0 l0:Nat) (R:aB):Prop:=
 cut (α:=aA->Nat->Nat->Hp->Prop) (fun A4 l4 c4 σ2=>∀ _:Nat->Value,rt σ2 R (aN A4 l4 c4)) (fun J3=>
  ∃ I7:Nat->aA->Nat->Nat->Int->Hp->Prop,(∃ n80,I7 n80 none 0 0 0 σ)/\∀ n8 A9 l9 c9 n10 s6,I7 n8 A9 l9 c9 n10 s6->∀ _:Nat->Value,bc (decide (n10<(j0:Int))) (cut (α:=aA->Nat->Nat->Hp->Prop) (fun A14 l14 c14 s12=>
  ∀ _:Nat->Value,wk .i64 (n10+1) (fun n15=>bk s12 n8 (fun m16 s17=>I7 m16 A14 l14 c14 n15 s17))) (fun J13=>
  ix k0 j0 n10 5 (fun b18 a19=>ldI s6 .i64 b18 a19 (fun _=>ldI s6 .i64 b18 (a19+1) (fun n21=>
  ldI s6 .i64 b18 (a19+2) (fun _=>ldI s6 .i64 b18 (a19+3) (fun _=>ldI s6 .i64 b18 (a19+4) (fun _=>
  aG (fun t28 s26=>bc t28 (adp 3 aM A9 l9 c9 s26 (fun (xs29:List Int) s30=>
  Bh (List.length xs29+List.length ([n10]:List Int)) (exl 3 aM (xs29++([n10]:List Int)) s30 (fun A31 l31 c31 s32=>
  J13 A31 l31 c31 s32)))) (J13 A9 l9 c9 s26)) (fun J27=>bc (decide (n21=2)) (aC 244 #[(.agg #[aN e0 d0 h0,aN g0 f0 i0,aN b0 a0 c0,aN k0 j0 l0]),aD n10] s6 (aI fun t35 s34=>(J27 (!t35) s34))) (J27 false s6)))))))))) (J3 A9 l9 c9 s6))
def MG:MAn:=(aP (.cut ⟨[true],1,[.slot 2 (.sc (.slc))],[]⟩ (aP (.block (.loop ⟨[true],1,[.slot 1 (.hb 0 0),.slot 2 (.sc (.slc)),.slot 8 (.sc (.int .i64))],[(6,true),(7,true)]⟩ (aP (.seq (.cond .leaf .leaf) (.cut ⟨[true],1,[.slot 1 (.hb 0 0),.slot 2 (.sc (.slc))],[(6,true),(7,true),(8,true)]⟩ (.block (aP (.cut ⟨[true,true],2,[.slot 1 (.hb 0 0),.slot 21 (.sc (.bool))],[(2,true),(3,true),(6,true),(7,true),(8,true)]⟩ (.txt [⟨[],false,[]⟩,⟨[],false,[]⟩,⟨[],false,[]⟩,⟨[],true,[]⟩]) (.cond (.txt []) .leaf)))) (.txt []))))))) (aP .leaf)))
theorem MH (σ:Hp) (e0:aA) (d0 h0:Nat) (g0:aA) (f0 i0:Nat) (b0:aA) (a0 c0:Nat) (k0:aA) (j0 l0:Nat) (R:aB) (h:Er σ e0 d0 h0 g0 f0 i0 b0 a0 c0 k0 j0 l0 R):Ag prog 249 #[(.agg #[aN e0 d0 h0,aN g0 f0 i0,aN b0 a0 c0,aN k0 j0 l0])] σ R:=
 Af Bn MG Tryz.func249 rfl (h:=h)
def Dg (σ:Hp) (e0:aA) (d0 h0:Nat) (g0:aA) (f0 i0:Nat) (b0:aA) (a0 c0:Nat) (k0:aA) (j0 l0:Nat) (ride:Int) (R:aB):Prop:=
 aH (fun n4 σ2=>rt σ2 R (aD n4)) (fun J3=>∃ I7:Nat->Int->Int->Hp->Prop,(∃ n80,I7 n80 10000 0 σ) /\
  ∀ n8 n9 n10 s6,I7 n8 n9 n10 s6->∀ _:Nat->Value,bc (decide (n10<(d0:Int))) (aH (fun n14 s12=>wk .i64 (n10+1) (fun n15=>bk s12 n8 (fun m16 s17=>I7 m16 n14 n15 s17))) (fun J13=>
  ix e0 d0 n10 4 (fun b18 a19=>ldI s6 .i64 b18 a19 (fun n20=>ldI s6 .i64 b18 (a19+1) (fun _=>
  ldI s6 .i64 b18 (a19+2) (fun _=>ldB s6 b18 (a19+3) (fun _=>bc (decide (n20=ride)) (aC 248 #[(.agg #[aN e0 d0 h0,aN g0 f0 i0,aN b0 a0 c0,aN k0 j0 l0]),aD n10] s6 (aJ fun n26 s25=>(J13 (if n26<n9 then n26 else n9) s25))) (J13 n9 s6)))))))) (J3 n9 s6))
def J1:MAn:=(aP (aP (.cut ⟨[true],1,[.slot 5 (.sc (.int .i64))],[]⟩ (aP (.block (.loop ⟨[true],1,[.slot 2 (.hb 0 0),.slot 5 (.sc (.int .i64)),.slot 12 (.sc (.int .i64))],[(1,true),(10,true),(11,true)]⟩ (aP (.seq (.cond .leaf .leaf) (.cut ⟨[true],1,[.slot 2 (.hb 0 0),.slot 5 (.sc (.int .i64))],[(1,true),(10,true),(11,true),(12,true)]⟩ (.block (aP (aP (.cond (.txt []) .leaf)))) (.txt []))))))) (aP .leaf))))
theorem Jl (σ:Hp) (e0:aA) (d0 h0:Nat) (g0:aA) (f0 i0:Nat) (b0:aA) (a0 c0:Nat) (k0:aA) (j0 l0:Nat) (ride:Int) (R:aB) (h:Dg σ e0 d0 h0 g0 f0 i0 b0 a0 c0 k0 j0 l0 ride R):Ag prog 188 #[(.agg #[aN e0 d0 h0,aN g0 f0 i0,aN b0 a0 c0,aN k0 j0 l0]),aD ride] σ R:=
 Af Bn J1 Tryz.func188 rfl (h:=h)
def D1 (σ:Hp) (e0:aA) (d0 h0:Nat) (g0:aA) (f0 i0:Nat) (b0:aA) (a0 c0:Nat) (k0:aA) (j0 l0:Nat) (ride:Int) (R:aB):Prop:=
 bx σ (.cells #[aD 0,aD 0,aD 0,aD 0] 299) (fun b1 σ2=>aF (fun s4=>ix (some ⟨b1,0,none⟩) 4 3 1 (fun b6 a7=>ldI s4 .i64 b6 a7 (fun n8=>bc (decide (n8=0)) (ix (some ⟨b1,0,none⟩) 4 2 1 (fun b9 a10=>
  ldI s4 .i64 b9 a10 (fun n11=>rt s4 R (.bool (decide (n11<=1)))))) (rt s4 R (.bool false))))) (fun J5=>
  aC 249 #[(.agg #[aN e0 d0 h0,aN g0 f0 i0,aN b0 a0 c0,aN k0 j0 l0])] σ2 (aK fun A14 l14 _ s13=>(∃ I17:Nat->Int->Hp->Prop,(∃ n180,I17 n180 0 s13) /\
  ∀ n18 n19 s16,I17 n18 n19 s16->∀ _:Nat->Value,bc (decide (n19<(l14:Int))) (aF (fun s21=>wk .i64 (n19+1) (fun n23=>bk s21 n18 (fun m24 s25=>I17 m24 n23 s25))) (fun J22=>
  ix A14 l14 n19 1 (fun b26 a27=>ldI s16 .i64 b26 a27 (fun n28=>ix k0 j0 n28 5 (fun b29 a30=>
  ldI s16 .i64 b29 a30 (fun _=>ldI s16 .i64 b29 (a30+1) (fun _=>ldI s16 .i64 b29 (a30+2) (fun n33=>
  ldI s16 .i64 b29 (a30+3) (fun n34=>ldI s16 .i64 b29 (a30+4) (fun _=>bc (decide (n33=ride)) (ix (some ⟨b1,0,none⟩) 4 n34 1 (fun b36 a37=>
  ldI s16 .i64 b36 a37 (fun n38=>wk .i64 (n38+1) (fun n39=>ix (some ⟨b1,0,none⟩) 4 n34 1 (fun b40 a41=>
  st s16 b40 a41 (aD n39) (fun s42=>J22 s42)))))) (J22 s16))))))))))) (J5 s16)))))
def LB:MAn:=(aP (.seq (.txt [⟨[.raw],false,[]⟩]) (.cut ⟨[true],1,[],[(5,true)]⟩ (aP (.block (.loop ⟨[true],1,[.slot 2 (.hb 0 0),.slot 12 (.sc (.int .i64))],[(1,true),(5,true),(10,true),(11,true)]⟩ (aP (.seq (.cond .leaf .leaf) (.cut ⟨[true],1,[.slot 2 (.hb 0 0)],[(1,true),(5,true),(10,true),(11,true),(12,true)]⟩ (.block (aP (aP (aP (.cond (.txt []) .leaf))))) (.txt []))))))) (.seq (.txt [⟨[],false,[]⟩,⟨[],false,[]⟩,⟨[],false,[]⟩,⟨[],true,[]⟩]) .leaf))))
theorem K4 (σ:Hp) (e0:aA) (d0 h0:Nat) (g0:aA) (f0 i0:Nat) (b0:aA) (a0 c0:Nat) (k0:aA) (j0 l0:Nat) (ride:Int) (R:aB) (h:D1 σ e0 d0 h0 g0 f0 i0 b0 a0 c0 k0 j0 l0 ride R):Ag prog 189 #[(.agg #[aN e0 d0 h0,aN g0 f0 i0,aN b0 a0 c0,aN k0 j0 l0]),aD ride] σ R:=
 Af Bn LB Tryz.func189 rfl (h:=h)
def Df (σ:Hp) (e0:aA) (d0 h0:Nat) (g0:aA) (f0 i0:Nat) (b0:aA) (a0 c0:Nat) (k0:aA) (j0 l0:Nat) (ride:Int) (R:aB):Prop:=
 cut (α:=aA->aA->Hp->Prop) (fun p4 p5 σ2=>∀ _:Nat->Value,dr p4 (fun b6 o7=>
  ldI σ2 .i64 b6 o7 (fun n8=>ix b0 a0 n8 1 (fun b9 a10=>ldI σ2 .i64 b9 a10 (fun n11=>
  dr p5 (fun b12 o13=>st σ2 b12 o13 (aD n11) (fun s14=>dr p5 (fun b15 o16=>ldI s14 .i64 b15 o16 (fun n17=>
  rt s14 R (aD n17)))))))))) (fun J3=>aC 250 #[(.agg #[aN e0 d0 h0,aN g0 f0 i0,aN b0 a0 c0,aN k0 j0 l0])] σ (fun v18 s19=>
  ∃ v20:Value,(v18=v20/\bx s19 (.cells #[aD ride] 3) (fun b21 s22=>bx s22 (.cells #[aD 0] 3) (fun b23 s24=>
  AeW prog v20 s24 (fun l25 Rec26 ag27 s28 R29=>∃ n33 n34:Int,∃ n35 n36 n37:Int,(ag27=#[(.agg #[aD n33,aD n34,aD n35,aD n36,aD n37])] /\
  ∀ _:Nat->Value,rgb l25 Rec26 s28 (fun s38=>aG (fun t42 s40=>
  bc t42 (st s40 b23 0 (aD n36) (fun s43=>rgx l25 Rec26 R29 s43 .ret)) (rgo l25 Rec26 R29 s40)) (fun J41=>
  bc (decide (n34=5)) (ldI s38 .i64 b21 0 (fun n44=>J41 (decide (n35=n44)) s38)) (J41 false s38))))) (fun p30 s31=>
  aft p30 (J3 (some ⟨b21,0,none⟩) (some ⟨b23,0,none⟩) s31) (ldI s31 .i64 b23 0 (fun n45=>rt s31 R (aD n45))) (fun i=>
  exb i 0 (J3 (some ⟨b21,0,none⟩) (some ⟨b23,0,none⟩) s31) (False))))))))
def Jf:MAn:=(aP (.cut ⟨[true,false,false],3,[.slot 2 (.hb 0 0),.slot 3 (.sc (.ptr)),.slot 4 (.sc (.ptr))],[]⟩ (aP (.block (.rng [.exp 3,.exp 4] [(3,true),(4,true)] [136] (.txt []) (.block (.cut ⟨[true],1,[.slot 5 (.hb 0 0),.slot 17 (.sc (.bool))],[(4,true)]⟩ (.txt [⟨[],false,[]⟩,⟨[],false,[]⟩,⟨[],false,[]⟩,⟨[],true,[]⟩]) (.cond (aP .leaf) .leaf)))))) (aP .leaf)))
theorem JI (σ:Hp) (e0:aA) (d0 h0:Nat) (g0:aA) (f0 i0:Nat) (b0:aA) (a0 c0:Nat) (k0:aA) (j0 l0:Nat) (ride:Int) (R:aB) (h:Df σ e0 d0 h0 g0 f0 i0 b0 a0 c0 k0 j0 l0 ride R):Ag prog 192 #[(.agg #[aN e0 d0 h0,aN g0 f0 i0,aN b0 a0 c0,aN k0 j0 l0]),aD ride] σ R:=
 Af Bn Jf Tryz.func192 rfl (h:=h)
def Fq (σ:Hp) (e0:aA) (d0 h0:Nat) (g0:aA) (f0 i0:Nat) (b0:aA) (a0 c0:Nat) (k0:aA) (j0 l0:Nat) (ride day:Int) (R:aB):Prop:=
 bx σ (.cells #[aN none 0 0] 26) (fun b1 σ2=>aC 188 #[(.agg #[aN e0 d0 h0,aN g0 f0 i0,aN b0 a0 c0,aN k0 j0 l0]),aD ride] σ2 (aJ fun n5 s4=>(cl prog (.func (.func 187) #[] #[(.pointer (some ⟨b1,0,none⟩))]) #[aD 1,(.bool (decide (n5<day)))] s4 (fun _ s7=>
  aC 189 #[(.agg #[aN e0 d0 h0,aN g0 f0 i0,aN b0 a0 c0,aN k0 j0 l0]),aD ride] s7 (aI fun t10 s9=>(cl prog (.func (.func 187) #[] #[(.pointer (some ⟨b1,0,none⟩))]) #[aD 2,(.bool (!t10))] s9 (fun _ s12=>
  bx s12 (.cells #[aD ride] 3) (fun b13 s14=>aC 190 #[(.agg #[aN e0 d0 h0,aN g0 f0 i0,aN b0 a0 c0,aN k0 j0 l0]),aD ride,(.func (.func 191) #[] #[(.pointer (some ⟨b13,0,none⟩))])] s14 (aJ fun n17 s16=>(cl prog (.func (.func 187) #[] #[(.pointer (some ⟨b1,0,none⟩))]) #[aD 3,(.bool (!decide (n17=day)))] s16 (fun _ s19=>
  ldI s19 .i64 b13 0 (fun n20=>aC 192 #[(.agg #[aN e0 d0 h0,aN g0 f0 i0,aN b0 a0 c0,aN k0 j0 l0]),aD n20] s19 (aJ fun n23 s22=>(cl prog (.func (.func 187) #[] #[(.pointer (some ⟨b1,0,none⟩))]) #[aD 4,(.bool (decide (n23<day)))] s22 (fun _ s25=>
  ldS s25 b1 0 (fun A26 l26 c26=>st s25 b1 0 (aN A26 l26 c26) (fun s27=>ldS s27 b1 0 (fun A28 l28 c28=>
  rt s27 R (aN A28 l28 c28)))))))))))))))))))
def N3:MAn:=(aP (aP (aP (aP (aP (aP (aP .leaf)))))))
theorem Of (σ:Hp) (e0:aA) (d0 h0:Nat) (g0:aA) (f0 i0:Nat) (b0:aA) (a0 c0:Nat) (k0:aA) (j0 l0:Nat) (ride day:Int) (R:aB) (h:Fq σ e0 d0 h0 g0 f0 i0 b0 a0 c0 k0 j0 l0 ride day R):Ag prog 131 #[(.agg #[aN e0 d0 h0,aN g0 f0 i0,aN b0 a0 c0,aN k0 j0 l0]),aD ride,aD day] σ R:=
 Af Bn N3 Tryz.func131 rfl (h:=h)
def D5 (σ:Hp) (reason:Int) (is:Bool) (cap0:aA) (R:aB):Prop:=
 bc is (dr cap0 (fun b1 o2=>ldS σ b1 o2 (fun A3 l3 c3=>adp 3 aM A3 l3 c3 σ (fun (xs4:List Int) s5=>
  Bh (List.length xs4+List.length ([reason]:List Int)) (exl 3 aM (xs4++([reason]:List Int)) s5 (fun A6 l6 c6 s7=>
  dr cap0 (fun b8 o9=>st s7 b8 o9 (aN A6 l6 c6) (fun s10=>rt s10 R (.tuple #[]))))))))) (rt σ R (.tuple #[]))
def L8:MAn:=(aP (.cond (.txt []) .leaf))
theorem LF (σ:Hp) (reason:Int) (is:Bool) (cap0:aA) (R:aB) (h:D5 σ reason is cap0 R):Ag prog 187 #[aD reason,.bool is,.pointer cap0] σ R:=
 Af Bn L8 Tryz.func187 rfl (h:=h)
def DM (σ:Hp) (_ t2 x_A _ _:Int) (cap0:aA) (R:aB):Prop:=
 bc (decide (t2=4)) (dr cap0 (fun b1 o2=>ldI σ .i64 b1 o2 (fun n3=>rt σ R (.bool (decide (x_A=n3)))))) (rt σ R (.bool false))
def LG:MAn:=(aP (.seq (.txt [⟨[],false,[]⟩,⟨[],false,[]⟩,⟨[],false,[]⟩,⟨[],true,[]⟩]) .leaf))
theorem Ma (σ:Hp) (a3 t2 x_A x_B x_C:Int) (cap0:aA) (R:aB) (h:DM σ a3 t2 x_A x_B x_C cap0 R):Ag prog 191 #[(.agg #[aD a3,aD t2,aD x_A,aD x_B,aD x_C]),.pointer cap0] σ R:=
 Af Bn LG Tryz.func191 rfl (h:=h)
def EN (σ:Hp) (k2:aA) (j2 m2:Nat) (p2:aA) (l2 q2:Nat) (g2:aA) (e2 f2:Nat) (w2:aA) (u2 x2:Nat) (day:Int) (R:aB):Prop:=
 aC 130 #[(.agg #[aN k2 j2 m2,aN p2 l2 q2,aN g2 e2 f2]),aN w2 u2 x2,aD day] σ (fun v1 σ2=>
  ∃ A3:aA,∃ l3 c3:Nat,∃ A4:aA,∃ l4 c4:Nat,∃ A5:aA,∃ l5 c5:Nat,∃ A6:aA,∃ l6 c6:Nat,∃ n7:Int,(v1=(.tuple #[(.agg #[aN A3 l3 c3,aN A4 l4 c4,aN A5 l5 c5,aN A6 l6 c6]),aD n7]) /\
  bc (!decide (n7=0)) (rt σ2 R (.tuple #[aN none 0 0,aD n7])) (cut (α:=aA->Nat->Nat->Hp->Prop) (fun A11 l11 c11 s9=>
  ∀ _:Nat->Value,rt s9 R (.tuple #[aN A11 l11 c11,aD 0])) (fun J10=>∃ I14:Nat->aA->Nat->Nat->Int->Hp->Prop,(∃ n150,I14 n150 none 0 0 0 σ2) /\
  ∀ n15 A16 l16 c16 n17 s13,I14 n15 A16 l16 c16 n17 s13->∀ _:Nat->Value,bc (decide (n17<(l5:Int))) (cut (α:=aA->Nat->Nat->Hp->Prop) (fun A21 l21 c21 s19=>
  ∀ _:Nat->Value,wk .i64 (n17+1) (fun n22=>bk s19 n15 (fun m23 s24=>I14 m23 A21 l21 c21 n22 s24))) (fun J20=>
  aC 131 #[(.agg #[aN A3 l3 c3,aN A4 l4 c4,aN A5 l5 c5,aN A6 l6 c6]),aD n17,aD day] s13 (aK fun _ l27 _ s26=>(bc (decide ((l27:Int)=0)) (adp 3 aM A16 l16 c16 s26 (fun (xs28:List Int) s29=>
  Bh (List.length xs28+List.length ([n17]:List Int)) (exl 3 aM (xs28++([n17]:List Int)) s29 (fun A30 l30 c30 s31=>
  J20 A30 l30 c30 s31)))) (J20 A16 l16 c16 s26))))) (J10 A16 l16 c16 s13)))))
def Nf:MAn:=(aP (aP (.seq (aP (.cond (aP .leaf) .leaf)) (.cut ⟨[true,true],2,[.slot 6 (.sc (.slc))],[]⟩ (aP (.block (.loop ⟨[true,true],2,[.slot 6 (.sc (.slc)),.slot 8 (.hb 1 0),.slot 24 (.sc (.int .i64))],[(2,true),(23,true)]⟩ (aP (.seq (.cond .leaf .leaf) (.cut ⟨[true,true],2,[.slot 6 (.sc (.slc)),.slot 8 (.hb 1 0)],[(2,true),(23,true),(24,true)]⟩ (.block (aP (aP (.cond (.txt []) .leaf)))) (.txt []))))))) (aP .leaf)))))
theorem Mz (σ:Hp) (k2:aA) (j2 m2:Nat) (p2:aA) (l2 q2:Nat) (g2:aA) (e2 f2:Nat) (w2:aA) (u2 x2:Nat) (day:Int) (R:aB) (h:EN σ k2 j2 m2 p2 l2 q2 g2 e2 f2 w2 u2 x2 day R):Ag prog 74 #[(.agg #[aN k2 j2 m2,aN p2 l2 q2,aN g2 e2 f2]),aN w2 u2 x2,aD day] σ R:=
 Af Bn Nf Tryz.func74 rfl (h:=h)
def Ce (σ:Hp) (s_A:aA) (s_n s_c:Nat) (f:Value) (R:aB):Prop:=
 aC 270 #[aN s_A s_n s_c,f] σ (fun v1 σ2=>∃ n3:Int,(v1=(aD n3) /\
  rt σ2 R (.bool (decide ((0:Int)<=n3)))))
def E3:MAn:=(aP (aP .leaf))
theorem E5 (σ:Hp) (s_A:aA) (s_n s_c:Nat) (f:Value) (R:aB) (h:Ce σ s_A s_n s_c f R):Ag prog 238 #[aN s_A s_n s_c,f] σ R:=
 Af Bn E3 Tryz.func238 rfl (h:=h)
def Cy (σ:Hp) (s_A:aA) (s_n _:Nat) (f:Value) (R:aB):Prop:=
 aF (fun σ2=>rt σ2 R (aD (-1))) (fun J3=>∃ I6:Nat->Int->Hp->Prop,(∃ n70,I6 n70 0 σ) /\
  ∀ n7 n8 s5,I6 n7 n8 s5->∀ _:Nat->Value,bc (decide (n8<(s_n:Int))) (ix s_A s_n n8 4 (fun b9 a10=>
  ldI s5 .i64 b9 a10 (fun n11=>ldI s5 .i64 b9 (a10+1) (fun n12=>ldI s5 .i64 b9 (a10+2) (fun n13=>
  ldB s5 b9 (a10+3) (fun t14=>cl prog f #[(.agg #[aD n11,aD n12,aD n13,.bool t14])] s5 (aI fun t17 s16=>(bc t17 (rt s16 R (aD n8)) (wk .i64 (n8+1) (fun n18=>bk s16 n7 (fun m19 s20=>
  I6 m19 n18 s20))))))))))) (J3 s5))
def F9:MAn:=(aP (.cut ⟨[],0,[],[]⟩ (aP (.block (.loop ⟨[],0,[.slot 8 (.sc (.int .i64))],[(0,true),(1,false),(7,true)]⟩ (aP (.seq (.cond .leaf .leaf) (.seq (.block (aP (aP (.cond (aP .leaf) .leaf)))) (.txt []))))))) (aP .leaf)))
theorem F5 (σ:Hp) (s_A:aA) (s_n s_c:Nat) (f:Value) (R:aB) (h:Cy σ s_A s_n s_c f R):Ag prog 270 #[aN s_A s_n s_c,f] σ R:=
 Af Bn F9 Tryz.func270 rfl (h:=h)
def B8 (σ:Hp) (s_A:aA) (s_n s_c:Nat) (f:Value) (R:aB):Prop:=
 aC 246 #[aN s_A s_n s_c,f] σ (fun v1 σ2=>∃ n3:Int,(v1=(aD n3) /\
  rt σ2 R (.bool (decide ((0:Int)<=n3)))))
def El:MAn:=(aP (aP .leaf))
theorem Ez (σ:Hp) (s_A:aA) (s_n s_c:Nat) (f:Value) (R:aB) (h:B8 σ s_A s_n s_c f R):Ag prog 272 #[aN s_A s_n s_c,f] σ R:=
 Af Bn El Tryz.func272 rfl (h:=h)
def Ct (σ:Hp) (s_A:aA) (s_n _:Nat) (f:Value) (R:aB):Prop:=
 aF (fun σ2=>rt σ2 R (aD (-1))) (fun J3=>∃ I6:Nat->Int->Hp->Prop,(∃ n70,I6 n70 0 σ) /\
  ∀ n7 n8 s5,I6 n7 n8 s5->∀ _:Nat->Value,bc (decide (n8<(s_n:Int))) (ix s_A s_n n8 5 (fun b9 a10=>
  ldI s5 .i64 b9 a10 (fun n11=>ldI s5 .i64 b9 (a10+1) (fun n12=>ldI s5 .i64 b9 (a10+2) (fun n13=>
  ldI s5 .i64 b9 (a10+3) (fun n14=>ldI s5 .i64 b9 (a10+4) (fun n15=>cl prog f #[(.agg #[aD n11,aD n12,aD n13,aD n14,aD n15])] s5 (aI fun t18 s17=>(bc t18 (rt s17 R (aD n8)) (wk .i64 (n8+1) (fun n19=>bk s17 n7 (fun m20 s21=>
  I6 m20 n19 s21)))))))))))) (J3 s5))
def FH:MAn:=(aP (.cut ⟨[],0,[],[]⟩ (aP (.block (.loop ⟨[],0,[.slot 8 (.sc (.int .i64))],[(0,true),(1,false),(7,true)]⟩ (aP (.seq (.cond .leaf .leaf) (.seq (.block (aP (aP (.cond (aP .leaf) .leaf)))) (.txt []))))))) (aP .leaf)))
theorem FQ (σ:Hp) (s_A:aA) (s_n s_c:Nat) (f:Value) (R:aB) (h:Ct σ s_A s_n s_c f R):Ag prog 246 #[aN s_A s_n s_c,f] σ R:=
 Af Bn FH Tryz.func246 rfl (h:=h)
def Dk (σ:Hp) (s_A:aA) (s_n s_c:Nat) (R:aB):Prop:=
 bx σ (.cells #[aN s_A s_n s_c] 29) (fun b1 σ2=>rt σ2 R (.func (.func 291) #[] #[(.pointer (some ⟨b1,0,none⟩))]))
def Gt:MAn:=(aP (aP .leaf))
theorem Gq (σ:Hp) (s_A:aA) (s_n s_c:Nat) (R:aB) (h:Dk σ s_A s_n s_c R):Ag prog 276 #[aN s_A s_n s_c] σ R:=
 Af Bn Gt Tryz.func276 rfl (h:=h)
def Cn (σ:Hp) (yield:Value) (cap0:aA) (R:aB):Prop:=
 dr cap0 (fun b1 o2=>ldS σ b1 o2 (fun _ l3 _=>wk .i64 ((l3:Int)-1) (fun n4=>∃ I8:Nat->Int->Hp->Prop,(∃ n90,I8 n90 n4 σ) /\
  ∀ n9 n10 s7,I8 n9 n10 s7->∀ _:Nat->Value,bc (decide ((0:Int)<=n10)) (dr cap0 (fun b11 o12=>
  ldS s7 b11 o12 (fun A13 l13 _=>ix A13 l13 n10 5 (fun b14 a15=>ldI s7 .i64 b14 a15 (fun n16=>ldI s7 .i64 b14 (a15+1) (fun n17=>
  ldI s7 .i64 b14 (a15+2) (fun n18=>ldI s7 .i64 b14 (a15+3) (fun n19=>ldI s7 .i64 b14 (a15+4) (fun n20=>
  cl prog yield #[aD n10,(.agg #[aD n16,aD n17,aD n18,aD n19,aD n20])] s7 (aI fun t23 s22=>(bc (!t23) (rt s22 R (.tuple #[])) (wk .i64 (n10-1) (fun n24=>bk s22 n9 (fun m25 s26=>
  I8 m25 n24 s26)))))))))))))) (rt s7 R (.tuple #[])))))
def Fh:MAn:=(aP (.block (.loop ⟨[],0,[.slot 3 (.sc (.int .i64))],[(0,false),(1,true)]⟩ (.seq (aP (.cond .leaf .leaf)) (.seq (.block (aP (.cond .leaf .leaf))) (.txt []))))))
theorem E7 (σ:Hp) (yield:Value) (cap0:aA) (R:aB) (h:Cn σ yield cap0 R):Ag prog 291 #[yield,.pointer cap0] σ R:=
 Af Bn Fh Tryz.func291 rfl (h:=h)
theorem DD:prog.follows .mixedOrders=true:=by kernel_rfl
def Im (σ:Hp) (n low high:Int) (R:aB):Prop:=
 bc (decide (low<=n)) (rt σ R (.bool (decide (n<=high)))) (rt σ R (.bool false))
def Rz:MAn:=(aP (.seq (.txt [⟨[],false,[]⟩,⟨[],false,[]⟩,⟨[],false,[]⟩,⟨[],true,[]⟩]) .leaf))
theorem Rp (σ:Hp) (n low high:Int) (R:aB) (h:Im σ n low high R):Ag prog 129 #[aD n,aD low,aD high] σ R:=
 Af DD Rz Tryz.func129 rfl (h:=h)
def Ka (σ:Hp) (l1:aA) (k1 _:Nat) (u1:aA) (m1 _:Nat) (h2 r2 i2:Int) (R:aB):Prop:=
 aF (fun σ2=>aF (fun s5=>
  aF (fun s8=>rt s8 R (aD 0)) (fun J9=>∃ I12:Nat->Int->Hp->Prop,(∃ n130,I12 n130 0 s5) /\
  ∀ n13 n14 s11,I12 n13 n14 s11->∀ _:Nat->Value,bc (decide (n14<(m1:Int))) (aF (fun s16=>wk .i64 (n14+1) (fun n18=>bk s16 n13 (fun m19 s20=>I12 m19 n18 s20))) (fun J17=>
  ix u1 m1 n14 4 (fun b21 a22=>ldI s11 .i64 b21 a22 (fun n23=>ldI s11 .i64 b21 (a22+1) (fun n24=>
  ldI s11 .i64 b21 (a22+2) (fun n25=>ldI s11 .i64 b21 (a22+3) (fun n26=>aG (fun t30 s28=>bc t30 (rt s28 R (aD 50)) (J17 s28)) (fun J29=>wk .i64 ((k1:Int)-1) (fun n31=>
  aC 129 #[aD n23,aD 0,aD n31] s11 (aI fun t34 s33=>(bc (!t34) (J29 true s33) (aC 129 #[aD n24,aD 0,aD 2] s33 (aI fun t37 s36=>(bc (!t37) (J29 true s36) (aC 129 #[aD n25,aD 1,aD 1000] s36 (aI fun t40 s39=>(bc (!t40) (J29 true s39) (aC 129 #[aD n26,aD 0,aD 1000] s39 (aI fun t43 s42=>(J29 (!t43) s42)))))))))))))))))))) (J9 s11))) (fun J6=>∃ I46:Nat->Int->Hp->Prop,(∃ n470,I46 n470 0 σ2) /\
  ∀ n47 n48 s45,I46 n47 n48 s45->∀ _:Nat->Value,bc (decide (n48<(k1:Int))) (aF (fun s50=>wk .i64 (n48+1) (fun n52=>bk s50 n47 (fun m53 s54=>I46 m53 n52 s54))) (fun J51=>
  ix l1 k1 n48 4 (fun b55 a56=>ldI s45 .i64 b55 a56 (fun n57=>ldI s45 .i64 b55 (a56+1) (fun n58=>
  ldI s45 .i64 b55 (a56+2) (fun n59=>ldI s45 .i64 b55 (a56+3) (fun n60=>aG (fun t64 s62=>bc t64 (rt s62 R (aD 50)) (J51 s62)) (fun J63=>wk .i64 (n48-1) (fun n65=>
  aC 129 #[aD n57,(aD (-1)),aD n65] s45 (aI fun t68 s67=>(bc (!t68) (J63 true s67) (aC 129 #[aD n58,aD 1,aD 1000] s67 (aI fun t71 s70=>(bc (!t71) (J63 true s70) (aC 129 #[aD n59,aD 0,aD 20] s70 (aI fun t74 s73=>(bc (!t74) (J63 true s73) (aC 129 #[aD n60,aD 1,aD 10000] s73 (aI fun t77 s76=>(J63 (!t77) s76)))))))))))))))))))) (J6 s45))) (fun J3=>aG (fun t81 s79=>bc t81 (rt s79 R (aD 50)) (J3 s79)) (fun J80=>bc (decide ((10:Int)<(k1:Int))) (J80 true σ) (bc (decide ((16:Int)<(m1:Int))) (J80 true σ) (aC 129 #[aD h2,aD 1,aD 1000] σ (aI fun t84 s83=>(bc (!t84) (J80 true s83) (aC 129 #[aD r2,aD 0,aD 20] s83 (aI fun t87 s86=>(bc (!t87) (J80 true s86) (aC 129 #[aD i2,aD 1,aD 1000] s86 (aI fun t90 s89=>(J80 (!t90) s89))))))))))))
def Ao:OA:=⟨[],false,[]⟩
def T8:MAn:=(aP (.cut ⟨[true],1,[.slot 1 (.hb 0 0)],[]⟩ (.cut ⟨[true],1,[.slot 1 (.hb 0 0),.slot 34 (.sc (.bool))],[]⟩ (.txt [Ao,Ao,Ao,Ao,⟨[],true,[]⟩,Ao,Ao,Ao,Ao,Ao,⟨[],true,[]⟩,Ao,Ao,Ao,Ao,Ao,⟨[],true,[]⟩,Ao,Ao,Ao,Ao,Ao,⟨[],true,[]⟩]) (.cond (aP .leaf) .leaf)) (.cut ⟨[true],1,[.slot 1 (.hb 0 0)],[]⟩ (aP (.block (.loop ⟨[true],1,[.slot 1 (.hb 0 0),.slot 38 (.sc (.int .i64))],[(36,true),(37,true)]⟩ (aP (.seq (.cond .leaf .leaf) (.cut ⟨[true],1,[.slot 1 (.hb 0 0)],[(36,true),(37,true),(38,true)]⟩ (.block (aP (.cut ⟨[true,true],2,[.slot 1 (.hb 0 0),.slot 66 (.sc (.bool))],[(36,true),(37,true),(38,true)]⟩ (.txt [Ao,Ao,Ao,Ao,Ao,Ao,⟨[],true,[]⟩,Ao,Ao,Ao,Ao,Ao,⟨[],true,[]⟩,Ao,Ao,Ao,Ao,Ao,⟨[],true,[]⟩]) (.cond (aP .leaf) .leaf)))) (.txt []))))))) (.cut ⟨[true],1,[],[]⟩ (aP (.block (.loop ⟨[true],1,[.slot 1 (.hb 0 0),.slot 71 (.sc (.int .i64))],[(69,true),(70,true)]⟩ (aP (.seq (.cond .leaf .leaf) (.cut ⟨[true],1,[.slot 1 (.hb 0 0)],[(69,true),(70,true),(71,true)]⟩ (.block (aP (.cut ⟨[true,true],2,[.slot 1 (.hb 0 0),.slot 100 (.sc (.bool))],[(69,true),(70,true),(71,true)]⟩ (.txt [Ao,Ao,Ao,Ao,Ao,Ao,Ao,Ao,⟨[],true,[]⟩,Ao,Ao,Ao,Ao,Ao,⟨[],true,[]⟩,Ao,Ao,Ao,Ao,Ao,⟨[],true,[]⟩]) (.cond (aP .leaf) .leaf)))) (.txt []))))))) (aP .leaf)))))
theorem TD (σ:Hp) (l1:aA) (k1 r1:Nat) (u1:aA) (m1 y1:Nat) (h2 r2 i2:Int) (R:aB) (h:Ka σ l1 k1 r1 u1 m1 y1 h2 r2 i2 R):Ag prog 70 #[(.agg #[aN l1 k1 r1,aN u1 m1 y1,aD h2,aD r2,aD i2])] σ R:=
 Af DD T8 Tryz.func70 rfl (h:=h)
def Wv (σ:Hp) (l1:aA) (k1 r1:Nat) (u1:aA) (m1 y1:Nat) (h2 r2 i2 board:Int) (R:aB):Prop:=
 bx σ (.cells #[aD board] 3) (fun b1 σ2=>bx σ2 (.cells #[aN l1 k1 r1,aN u1 m1 y1,aD h2,aD r2,aD i2] 33) (fun b3 s4=>
  rt s4 R (.func (.func 277) #[] #[(.pointer (some ⟨b1,0,none⟩)),(.pointer (some ⟨b3,0,none⟩))])))
def WX:MAn:=(aP (aP .leaf))
theorem Xm (σ:Hp) (l1:aA) (k1 r1:Nat) (u1:aA) (m1 y1:Nat) (h2 r2 i2 board:Int) (R:aB) (h:Wv σ l1 k1 r1 u1 m1 y1 h2 r2 i2 board R):Ag prog 251 #[(.agg #[aN l1 k1 r1,aN u1 m1 y1,aD h2,aD r2,aD i2]),aD board] σ R:=
 Af DD WX Tryz.func251 rfl (h:=h)
def K6 (σ:Hp) (yield:Value) (cap0 cap1:aA) (R:aB):Prop:=
 aF (fun σ2=>cl prog yield #[(aD (-1))] σ2 (aI fun _ s5=>(rt s5 R (.tuple #[])))) (fun J3=>∃ I9:Nat->Hp->Prop,(∃ n100,I9 n100 σ) /\
  ∀ n10 s8,I9 n10 s8->∀ _:Nat->Value,dr cap0 (fun b11 o12=>ldI s8 .i64 b11 o12 (fun n13=>
  bc (decide ((0:Int)<=n13)) (dr cap0 (fun b14 o15=>ldI s8 .i64 b14 o15 (fun n16=>cl prog yield #[aD n16] s8 (aI fun t19 s18=>(bc (!t19) (rt s18 R (.tuple #[])) (dr cap1 (fun b20 o21=>ldS s18 b20 o21 (fun A22 l22 _=>
  dr cap0 (fun b23 o24=>ldI s18 .i64 b23 o24 (fun n25=>ix A22 l22 n25 4 (fun b26 a27=>ldI s18 .i64 b26 a27 (fun n28=>
  dr cap0 (fun b29 o30=>st s18 b29 o30 (aD n28) (fun s31=>bk s31 n10 (fun m32 s33=>I9 m32 s33))))))))))))))) (J3 s8))))
def U6:MAn:=(.cut ⟨[],0,[],[(0,false)]⟩ (.block (.loop ⟨[],0,[],[(0,false),(1,true),(2,true)]⟩ (.seq (aP (.cond .leaf .leaf)) (.seq (.block (aP (.cond .leaf .leaf))) (.txt []))))) (.txt []))
theorem U5 (σ:Hp) (yield:Value) (cap0 cap1:aA) (R:aB) (h:K6 σ yield cap0 cap1 R):Ag prog 277 #[yield,.pointer cap0,.pointer cap1] σ R:=
 Af DD U6 Tryz.func277 rfl (h:=h)
def Ft (σ:Hp) (n1 n2 n3:Int) (R:aB):Prop:=
 (0<=(0:Int)/\(0:Int)<((3:Nat):Int)/\(0<=(1:Int)/\(1:Int)<((3:Nat):Int)/\(0<=(2:Int) /\
  (2:Int)<((3:Nat):Int)/\rt σ R (aD (if n3>(if n2>n1 then n2 else n1) then n3 else (if n2>n1 then n2 else n1))))))
def NO:MAn:=(aP (aP .leaf))
theorem NA (σ:Hp) (n1 n2 n3:Int) (R:aB) (h:Ft σ n1 n2 n3 R):Ag prog 195 #[(.agg #[aD n1,aD n2,aD n3])] σ R:=
 Af DD NO Tryz.func195 rfl (h:=h)
def Gc (σ:Hp) (l1:aA) (k1 r1:Nat) (u1:aA) (m1 y1:Nat) (h2 r2 i2 set:Int) (R:aB):Prop:=
 wk .i64 ((k1:Int)+1) (fun n1=>(0<=n1/\n1<=n1/\n1<=(1000000000:Int)/\cut (α:=aA->Hp->Prop) (fun p5 s3=>
  ∀ _:Nat->Value,dr p5 (fun b6 o7=>ldS s3 b6 o7 (fun A8 l8 c8=>rt s3 R (aN A8 l8 c8)))) (fun J4=>
  ∃ I11:Nat->aA->aA->Int->Hp->Prop,(∃ n120,bx σ (.cells #[aN l1 k1 r1,aN u1 m1 y1,aD h2,aD r2,aD i2] 33) (fun b13 s14=>
  exl 266 [.int .i64,.int .i64,.int .i64] (List.replicate (n1:Int).toNat (0,0,0):List (Int×Int×Int)) s14 (fun A15 l15 c15 s16=>
  bx s16 (.cells #[aN A15 l15 c15] 263) (fun b17 s18=>I11 n120 (some ⟨b13,0,none⟩) (some ⟨b17,0,none⟩) 0 s18)))) /\
  ∀ n12 p19 p20 n21 s10,I11 n12 p19 p20 n21 s10->∀ _:Nat->Value,bc (decide (n21<(m1:Int))) (aF (fun s23=>wk .i64 (n21+1) (fun n25=>bk s23 n12 (fun m26 s27=>I11 m26 p19 p20 n25 s27))) (fun J24=>
  ix u1 m1 n21 4 (fun b28 a29=>ldI s10 .i64 b28 a29 (fun n30=>ldI s10 .i64 b28 (a29+1) (fun n31=>
  ldI s10 .i64 b28 (a29+2) (fun n32=>ldI s10 .i64 b28 (a29+3) (fun n33=>(0<=n21/\wk .i64 (((BitVec.ofInt (IntKind.bits .i64) (Int.fdiv set (2^(min (n21:Int).toNat (IntKind.bits .i64)))) &&& BitVec.ofInt (IntKind.bits .i64) 1).toNat:Int)) (fun n34=>
  bc (decide (n34=0)) (J24 s10) (dr p19 (fun b35 o36=>ldS s10 b35 o36 (fun A37 l37 c37=>ldS s10 b35 (o36+1) (fun A38 l38 c38=>
  ldI s10 .i64 b35 (o36+2) (fun n39=>ldI s10 .i64 b35 (o36+3) (fun n40=>ldI s10 .i64 b35 (o36+4) (fun n41=>
  aC 251 #[(.agg #[aN A37 l37 c37,aN A38 l38 c38,aD n39,aD n40,aD n41]),aD n30] s10 (fun v42 s43=>
  ∃ v44:Value,(v42=v44/\bx s43 (.cells #[aD n30,aD n31,aD n32,aD n33] 140) (fun b45 s46=>
  AeW prog v44 s46 (fun l47 Rec48 ag49 s50 R51=>∃ n55:Int,(ag49=#[aD n55]/\∀ _:Nat->Value,
  rgb l47 Rec48 s50 (fun s56=>aH (fun n60 s58=>dr p20 (fun b61 o62=>
  ldS s58 b61 o62 (fun A63 l63 _=>ldI s58 .i64 b45 1 (fun n64=>ix A63 l63 n60 3 (fun b65 a66=>ix (some ⟨b65,a66,none⟩) 3 n64 1 (fun b67 a68=>
  ldI s58 .i64 b67 a68 (fun n69=>ldI s58 .i64 b45 2 (fun n70=>wk .i64 (n69+n70) (fun n71=>ix A63 l63 n60 3 (fun b72 a73=>
  ix (some ⟨b72,a73,none⟩) 3 n64 1 (fun b74 a75=>st s58 b74 a75 (aD n71) (fun s76=>rgo l47 Rec48 R51 s76)))))))))))) (fun J59=>
  bc (decide (n55=(-1))) (dr p19 (fun b77 o78=>ldS s56 b77 o78 (fun _ l79 _=>J59 (l79:Int) s56))) (J59 n55 s56))))) (fun p52 s53=>
  aft p52 (J24 s53) (rt s53 R (aN none 0 0)) (fun i=>exb i 2 (J24 s53) (exb i 1 (J24 s53) (exb i 0 (J4 p20 s53) (False)))))))))))))))))))))))) (J4 p20 s10))))
def Bl:OA:=⟨[],false,[]⟩
def PS:MAn:=(aP (aP (.cut ⟨[false,false,false],3,[.slot 5 (.sc (.ptr))],[]⟩ (aP (.block (.loop ⟨[false,false,false],3,[.slot 2 (.sc (.ptr)),.slot 5 (.sc (.ptr)),.slot 17 (.sc (.int .i64))],[(1,true),(4,true),(15,true),(16,true)]⟩ (aP (.seq (.cond .leaf .leaf) (.cut ⟨[false,false,false],3,[],[(1,true),(2,true),(4,true),(5,true),(15,true),(16,true),(17,true)]⟩ (.block (aP (.seq (aP (.cond .leaf .leaf)) (aP (.block (.rng [.exp 7] [(2,true),(5,true),(7,true)] [3] (.txt []) (.block (.cut ⟨[],0,[.slot 8 (.sc (.int .i64))],[(5,true),(7,true)]⟩ (aP (.cond (.txt []) .leaf)) (.plan [12] (tkYN1 12 0 Bl (.alt 12 false Bl .done .done))))))))))) (.txt []))))))) (aP .leaf))))
theorem Pg (σ:Hp) (l1:aA) (k1 r1:Nat) (u1:aA) (m1 y1:Nat) (h2 r2 i2 set:Int) (R:aB) (h:Gc σ l1 k1 r1 u1 m1 y1 h2 r2 i2 set R):Ag prog 194 #[(.agg #[aN l1 k1 r1,aN u1 m1 y1,aD h2,aD r2,aD i2]),aD set] σ R:=
 Af DD PS Tryz.func194 rfl (h:=h)
def JX (σ:Hp) (l1:aA) (k1 _:Nat) (_:aA) (_ _:Nat) (h2 _ _ b:Int) (R:aB):Prop:=
 aF (fun σ2=>ix l1 k1 b 4 (fun b4 a5=>ldI σ2 .i64 b4 (a5+1) (fun n6=>
  rt σ2 R (aD n6)))) (fun J3=>aG (fun t10 s8=>bc t10 (rt s8 R (aD h2)) (J3 s8)) (fun J9=>
  bc (decide (b=(k1:Int))) (J9 true σ) (J9 (decide (b=(-1))) σ)))
def SV:MAn:=(aP (.cut ⟨[true],1,[.slot 2 (.hb 0 0)],[(1,true)]⟩ (.cut ⟨[true],1,[.slot 2 (.hb 0 0),.slot 13 (.sc (.bool))],[(1,true)]⟩ (.txt [⟨[],false,[]⟩,⟨[],false,[]⟩,⟨[],false,[]⟩,⟨[],false,[]⟩,⟨[],false,[]⟩,⟨[],true,[]⟩]) (.cond (aP .leaf) .leaf)) (aP .leaf)))
theorem Tr (σ:Hp) (l1:aA) (k1 r1:Nat) (u1:aA) (m1 y1:Nat) (h2 r2 i2 b:Int) (R:aB) (h:JX σ l1 k1 r1 u1 m1 y1 h2 r2 i2 b R):Ag prog 196 #[(.agg #[aN l1 k1 r1,aN u1 m1 y1,aD h2,aD r2,aD i2]),aD b] σ R:=
 Af DD SV Tryz.func196 rfl (h:=h)
def LX (σ:Hp) (_:aA) (_ _:Nat) (_:aA) (m1 _:Nat) (_ _ _ set:Int) (R:aB):Prop:=
 (0<=(m1:Int)/\wk .i64 (1*2^(min ((m1:Int):Int).toNat (IntKind.bits .i64))) (fun n1=>
  wk .i64 (n1-1) (fun n2=>aC 129 #[aD set,aD 0,aD n2] σ (aI fun t5 s4=>(rt s4 R (.bool t5))))))
def U4:MAn:=(aP (aP .leaf))
theorem Vr (σ:Hp) (l1:aA) (k1 r1:Nat) (u1:aA) (m1 y1:Nat) (h2 r2 i2 set:Int) (R:aB) (h:LX σ l1 k1 r1 u1 m1 y1 h2 r2 i2 set R):Ag prog 193 #[(.agg #[aN l1 k1 r1,aN u1 m1 y1,aD h2,aD r2,aD i2]),aD set] σ R:=
 Af DD U4 Tryz.func193 rfl (h:=h)
def FY (σ:Hp) (l1:aA) (k1 r1:Nat) (u1:aA) (m1 y1:Nat) (h2 r2 i2 set:Int) (R:aB):Prop:=
 aC 70 #[(.agg #[aN l1 k1 r1,aN u1 m1 y1,aD h2,aD r2,aD i2])] σ (aJ fun n3 σ2=>(bc (!decide (n3=0)) (rt σ2 R (aD n3)) (aC 193 #[(.agg #[aN l1 k1 r1,aN u1 m1 y1,aD h2,aD r2,aD i2]),aD set] σ2 (aI fun t6 s5=>(bc (!t6) (rt s5 R (aD 1)) (rt s5 R (aD 0)))))))
def PC:MAn:=(aP (.seq (aP (aP (.cond (aP .leaf) .leaf))) (.seq (aP (.cond (aP .leaf) .leaf)) (aP .leaf))))
theorem Ps (σ:Hp) (l1:aA) (k1 r1:Nat) (u1:aA) (m1 y1:Nat) (h2 r2 i2 set:Int) (R:aB) (h:FY σ l1 k1 r1 u1 m1 y1 h2 r2 i2 set R):Ag prog 132 #[(.agg #[aN l1 k1 r1,aN u1 m1 y1,aD h2,aD r2,aD i2]),aD set] σ R:=
 Af DD PC Tryz.func132 rfl (h:=h)
def K7 (σ:Hp) (l1:aA) (k1 r1:Nat) (u1:aA) (m1 y1:Nat) (h2 r2 i2 set:Int) (R:aB):Prop:=
 aC 194 #[(.agg #[aN l1 k1 r1,aN u1 m1 y1,aD h2,aD r2,aD i2]),aD set] σ (aK fun A3 l3 _ σ2=>(ix A3 l3 (k1:Int) 3 (fun b4 a5=>
  ldI σ2 .i64 b4 a5 (fun n6=>ldI σ2 .i64 b4 (a5+1) (fun n7=>ldI σ2 .i64 b4 (a5+2) (fun n8=>aC 195 #[(.agg #[aD n6,aD n7,aD n8])] σ2 (aJ fun n11 s10=>((Hp.Sub σ2 s10/\bc (decide (h2<n11)) (rt s10 R (.tuple #[(aD (-1)),.bool true])) (aF (fun s13=>rt s13 R (.tuple #[aD 0,.bool false])) (fun J14=>∃ I17:Nat->Int->Hp->Prop,(∃ n180,I17 n180 0 s10) /\
  ∀ n18 n19 s16,I17 n18 n19 s16->∀ _:Nat->Value,bc (decide (n19<(k1:Int))) (ix A3 l3 n19 3 (fun b20 a21=>
  ldI s16 .i64 b20 a21 (fun n22=>ldI s16 .i64 b20 (a21+1) (fun n23=>ldI s16 .i64 b20 (a21+2) (fun n24=>
  aC 195 #[(.agg #[aD n22,aD n23,aD n24])] s16 (aJ fun n27 s26=>((Hp.Sub s16 s26/\aC 196 #[(.agg #[aN l1 k1 r1,aN u1 m1 y1,aD h2,aD r2,aD i2]),aD n19] s26 (aJ fun n30 s29=>(bc (decide (n30<n27)) (rt s29 R (.tuple #[aD n19,.bool true])) (wk .i64 (n19+1) (fun n31=>
  bk s29 n18 (fun m32 s33=>I17 m32 n31 s33))))))))))))) (J14 s16))))))))))))
def Bf:OA:=⟨[],false,[]⟩
def Vy:MAn:=(aP (aP (.seq (.seq (.plan [] (tkYN1 6 0 Bf (.take 7 Bf (.take 8 Bf (.alt 6 true Bf (.take 9 Bf .done) .done))))) (.cond (aP .leaf) .leaf)) (.cut ⟨[true],1,[],[]⟩ (aP (.block (.loop ⟨[true],1,[.slot 2 (.hb 0 0),.slot 24 (.sc (.int .i64))],[(6,true),(23,true)]⟩ (aP (.seq (.cond .leaf .leaf) (.seq (.block (aP (.seq (.plan [7] (tkYN1 4 0 Bf (.take 5 Bf (.take 6 Bf (.alt 4 true Bf (.alt 7 false Bf (.take 8 Bf .done) .done) .done))))) (.cond (aP .leaf) .leaf)))) (.txt []))))))) (aP .leaf)))))
theorem UM (σ:Hp) (l1:aA) (k1 r1:Nat) (u1:aA) (m1 y1:Nat) (h2 r2 i2 set:Int) (R:aB) (h:K7 σ l1 k1 r1 u1 m1 y1 h2 r2 i2 set R):Ag prog 133 #[(.agg #[aN l1 k1 r1,aN u1 m1 y1,aD h2,aD r2,aD i2]),aD set] σ R:=
 Af DD Vy Tryz.func133 rfl (h:=h)
def LH (σ:Hp) (l1:aA) (k1 r1:Nat) (u1:aA) (m1 y1:Nat) (h2 r2 i2 set:Int) (R:aB):Prop:=
 aC 132 #[(.agg #[aN l1 k1 r1,aN u1 m1 y1,aD h2,aD r2,aD i2]),aD set] σ (aJ fun n3 σ2=>(bc (!decide (n3=0)) (rt σ2 R (.tuple #[aD 0,.bool false,aD n3])) (aC 133 #[(.agg #[aN l1 k1 r1,aN u1 m1 y1,aD h2,aD r2,aD i2]),aD set] σ2 (fun v4 s5=>
  ∃ n6:Int,∃ t7:Bool,(v4=(.tuple #[aD n6,.bool t7])/\rt s5 R (.tuple #[aD n6,(.bool (!t7)),aD 0]))))))
def U3:MAn:=(aP (.seq (aP (aP (.cond (aP .leaf) .leaf))) (aP (aP .leaf))))
theorem UW (σ:Hp) (l1:aA) (k1 r1:Nat) (u1:aA) (m1 y1:Nat) (h2 r2 i2 set:Int) (R:aB) (h:LH σ l1 k1 r1 u1 m1 y1 h2 r2 i2 set R):Ag prog 75 #[(.agg #[aN l1 k1 r1,aN u1 m1 y1,aD h2,aD r2,aD i2]),aD set] σ R:=
 Af DD U3 Tryz.func75 rfl (h:=h)
theorem CO:prog.follows .mixedOrders=true:=by kernel_rfl
def Iz (σ:Hp) (n low high:Int) (R:aB):Prop:=
 bc (decide (low<=n)) (rt σ R (.bool (decide (n<=high)))) (rt σ R (.bool false))
def SN:MAn:=(aP (.seq (.txt [⟨[],false,[]⟩,⟨[],false,[]⟩,⟨[],false,[]⟩,⟨[],true,[]⟩]) .leaf))
theorem RH (σ:Hp) (n low high:Int) (R:aB) (h:Iz σ n low high R):Ag prog 35 #[aD n,aD low,aD high] σ R:=
 Af CO SN Tryz.func35 rfl (h:=h)
def JG (σ:Hp) (p0:aA) (m0 o0:Nat) (f1:Int) (d1:aA) (i1 g1:Nat) (c1:aA) (z0 a1:Nat) (v0:aA) (t0 x0:Nat) (o1:aA) (q1 p1:Nat) (s2:Int) (r0:aA) (q0 n0:Nat) (w0:aA) (s0 u0:Nat) (h1 j1 e1:Int) (x1:aA) (t1 w1:Nat) (d2:aA) (z1 c2:Nat) (R:aB):Prop:=
 aC 68 #[(.agg #[aN p0 m0 o0,aD f1]),aN none 0 0] σ (aJ fun n3 σ2=>(bc (!decide (n3=0)) (rt σ2 R (aD n3)) (aC 69 #[(.agg #[aN d1 i1 g1,aN c1 z0 a1,aN v0 t0 x0]),aN o1 q1 p1] σ2 (fun v4 s5=>
  ∃ n6 n7:Int,(v4=(.tuple #[aD n6,aD n7])/\bc (!decide (n7=0)) (rt s5 R (aD n7)) (aC 70 #[(.agg #[aN r0 q0 n0,aN w0 s0 u0,aD h1,aD j1,aD e1])] s5 (aJ fun n10 s9=>(bc (!decide (n10=0)) (rt s9 R (aD n10)) (aF (fun s12=>rt s12 R (aD 0)) (fun J13=>aG (fun t17 s15=>bc t17 (rt s15 R (aD 120)) (aG (fun t21 s19=>
  bc t21 (rt s19 R (aD 120)) (J13 s19)) (fun J20=>aC 71 #[aD 200] s15 (fun v22 s23=>
  ∃ v24:Value,(v22=v24/\(Hp.Sub s15 s23/\aC 33 #[aN x1 t1 w1,v24] s23 (aI fun t27 s26=>(bc t27 (J20 t27 s26) (aC 71 #[aD 100] s26 (fun v28 s29=>
  ∃ v30:Value,(v28=v30/\(Hp.Sub s26 s29/\aC 33 #[aN d2 z1 c2,v30] s29 (aI fun t33 s32=>(J20 t33 s32)))))))))))))) (fun J16=>bc (!decide ((t0:Int)=(m0:Int))) (J16 (!decide ((t0:Int)=(m0:Int))) s9) (bc (!decide ((s0:Int)=(m0:Int))) (J16 (!decide ((s0:Int)=(m0:Int))) s9) (bc (!decide ((t1:Int)=(m0:Int))) (J16 (!decide ((t1:Int)=(m0:Int))) s9) (bc (!decide ((z1:Int)=(m0:Int))) (J16 (!decide ((z1:Int)=(m0:Int))) s9) (aC 35 #[aD s2,aD 0,aD 10000] s9 (aI fun t36 s35=>(J16 (!t36) s35)))))))))))))))))
def CG:OA:=⟨[],false,[]⟩
def KO:MAn:=(.plan [4] (.take 0 CG (.take 1 CG (.take 2 CG (.alt 3 true CG (.alt 4 false CG (.take 5 CG .done) .done) .done)))))
def T6:MAn:=(aP (.seq (aP (aP (.cond (aP .leaf) .leaf))) (.seq (aP (aP (.cond (aP .leaf) .leaf))) (.seq (aP (aP (.cond (aP .leaf) .leaf))) (aP (aP (.cut ⟨[true],1,[],[]⟩ (.block (.cut ⟨[true],1,[.slot 1 (.hb 0 0),.slot 36 (.sc (.bool))],[(8,true)]⟩ (aP (.cond .leaf (aP (.cond .leaf (aP (.cond .leaf (aP (.cond .leaf (.txt []))))))))) (.cond (aP .leaf) (.cut ⟨[true],1,[.slot 63 (.sc (.bool))],[]⟩ (.seq KO (.cond .leaf KO)) (.cond (aP .leaf) .leaf))))) (aP .leaf))))))))
theorem T4 (σ:Hp) (p0:aA) (m0 o0:Nat) (f1:Int) (d1:aA) (i1 g1:Nat) (c1:aA) (z0 a1:Nat) (v0:aA) (t0 x0:Nat) (o1:aA) (q1 p1:Nat) (s2:Int) (r0:aA) (q0 n0:Nat) (w0:aA) (s0 u0:Nat) (h1 j1 e1:Int) (x1:aA) (t1 w1:Nat) (d2:aA) (z1 c2:Nat) (R:aB) (h:JG σ p0 m0 o0 f1 d1 i1 g1 c1 z0 a1 v0 t0 x0 o1 q1 p1 s2 r0 q0 n0 w0 s0 u0 h1 j1 e1 x1 t1 w1 d2 z1 c2 R):Ag prog 32 #[(.agg #[aN p0 m0 o0,aD f1,aN d1 i1 g1,aN c1 z0 a1,aN v0 t0 x0,aN o1 q1 p1,aD s2,aN r0 q0 n0,aN w0 s0 u0,aD h1,aD j1,aD e1,aN x1 t1 w1,aN d2 z1 c2])] σ R:=
 Af CO T6 Tryz.func32 rfl (h:=h)
def Md (σ:Hp) (most:Int) (R:aB):Prop:=
 bx σ (.cells #[aD most] 3) (fun b1 σ2=>rt σ2 R (.func (.func 72) #[] #[(.pointer (some ⟨b1,0,none⟩))]))
def Qh:MAn:=(aP (aP .leaf))
theorem Q9 (σ:Hp) (most:Int) (R:aB) (h:Md σ most R):Ag prog 71 #[aD most] σ R:=
 Af CO Qh Tryz.func71 rfl (h:=h)
def FC (σ:Hp) (x:Int) (cap0:aA) (R:aB):Prop:=
 dr cap0 (fun b1 o2=>ldI σ .i64 b1 o2 (fun n3=>aC 35 #[aD x,aD 0,aD n3] σ (aI fun t6 s5=>(rt s5 R (.bool (!t6))))))
def Oh:MAn:=(aP (aP .leaf))
theorem NF (σ:Hp) (x:Int) (cap0:aA) (R:aB) (h:FC σ x cap0 R):Ag prog 72 #[aD x,.pointer cap0] σ R:=
 Af CO Oh Tryz.func72 rfl (h:=h)
def Je (σ:Hp) (_:aA) (_ _:Nat) (_:Int) (d1:aA) (i1 g1:Nat) (c1:aA) (z0 a1:Nat) (v0:aA) (t0 x0:Nat) (o1:aA) (q1 p1:Nat) (s2:Int) (r0:aA) (q0 n0:Nat) (w0:aA) (s0 u0:Nat) (h1 j1 e1:Int) (_:aA) (_ _:Nat) (_:aA) (_ _:Nat) (R:aB):Prop:=
 aC 74 #[(.agg #[aN d1 i1 g1,aN c1 z0 a1,aN v0 t0 x0]),aN o1 q1 p1,aD s2] σ (fun v1 σ2=>
  ∃ A3:aA,∃ l3 c3:Nat,∃ n4:Int,(v1=(.tuple #[aN A3 l3 c3,aD n4]) /\
  bc (!decide (n4=0)) (rt σ2 R (aN none 0 0)) (cut (α:=aA->Nat->Nat->Hp->Prop) (fun A8 l8 c8 s6=>
  ∀ _:Nat->Value,rt s6 R (aN A8 l8 c8)) (fun J7=>∃ I11:Nat->aA->Nat->Nat->Int->Int->Hp->Prop,(∃ n120,I11 n120 none 0 0 0 0 σ2) /\
  ∀ n12 A13 l13 c13 n14 n15 s10,I11 n12 A13 l13 c13 n14 n15 s10->∀ _:Nat->Value,bc (decide (n15<(l3:Int))) (cut (α:=aA->Nat->Nat->Int->Hp->Prop) (fun A19 l19 c19 n20 s17=>
  ∀ _:Nat->Value,wk .i64 (n15+1) (fun n21=>bk s17 n12 (fun m22 s23=>I11 m22 A19 l19 c19 n20 n21 s23))) (fun J18=>
  ix A3 l3 n15 1 (fun b24 a25=>ldI s10 .i64 b24 a25 (fun n26=>(0<=n26/\wk .i64 (1*2^(min (n26:Int).toNat (IntKind.bits .i64))) (fun n27=>
  wk .i64 (((BitVec.ofInt (IntKind.bits .i64) n14 ||| BitVec.ofInt (IntKind.bits .i64) n27).toNat:Int)) (fun n28=>
  aC 75 #[(.agg #[aN r0 q0 n0,aN w0 s0 u0,aD h1,aD j1,aD e1]),aD n28] s10 (fun v29 s30=>
  ∃ n31:Int,∃ t32:Bool,∃ n33:Int,(v29=(.tuple #[aD n31,.bool t32,aD n33]) /\
  aG (fun t37 s35=>bc t37 ((0<=n26/\wk .i64 (1*2^(min (n26:Int).toNat (IntKind.bits .i64))) (fun n38=>
  wk .i64 (((BitVec.ofInt (IntKind.bits .i64) n14 ||| BitVec.ofInt (IntKind.bits .i64) n38).toNat:Int)) (fun n39=>
  adp 3 aM A13 l13 c13 s35 (fun (xs40:List Int) s41=>Bh (List.length xs40+List.length ([n26]:List Int)) (exl 3 aM (xs40++([n26]:List Int)) s41 (fun A42 l42 c42 s43=>
  J18 A42 l42 c42 n39 s43))))))) (J18 A13 l13 c13 n14 s35)) (fun J36=>bc (decide (n33=0)) (J36 t32 s30) (J36 false s30))))))))))) (J7 A13 l13 c13 s10)))))
def Bq:OA:=⟨[],false,[]⟩
def SZ:MAn:=(aP (aP (.seq (aP (.cond (aP .leaf) .leaf)) (aP (.cut ⟨[true],1,[.slot 2 (.sc (.slc))],[]⟩ (aP (.block (.loop ⟨[true],1,[.slot 1 (.hb 0 0),.slot 2 (.sc (.slc)),.slot 5 (.sc (.int .i64)),.slot 25 (.sc (.int .i64))],[(23,true),(24,true)]⟩ (aP (.seq (.cond .leaf .leaf) (.cut ⟨[true],1,[.slot 1 (.hb 0 0),.slot 2 (.sc (.slc)),.slot 5 (.sc (.int .i64))],[(23,true),(24,true),(25,true)]⟩ (.block (aP (.seq (.plan [6] (tkYN1 6 0 Bq (.alt 6 false Bq (tkYN1 7 7 Bq .done) .done))) (.cut ⟨[true],1,[.slot 1 (.hb 0 0),.slot 44 (.sc (.bool))],[(2,true),(5,true),(7,true),(23,true),(24,true),(25,true)]⟩ (.txt [Bq,Bq,⟨[],true,[]⟩]) (.cond (aP (.txt [])) .leaf))))) (.txt []))))))) (aP .leaf))))))
theorem TK (σ:Hp) (p0:aA) (m0 o0:Nat) (f1:Int) (d1:aA) (i1 g1:Nat) (c1:aA) (z0 a1:Nat) (v0:aA) (t0 x0:Nat) (o1:aA) (q1 p1:Nat) (s2:Int) (r0:aA) (q0 n0:Nat) (w0:aA) (s0 u0:Nat) (h1 j1 e1:Int) (x1:aA) (t1 w1:Nat) (d2:aA) (z1 c2:Nat) (R:aB) (h:Je σ p0 m0 o0 f1 d1 i1 g1 c1 z0 a1 v0 t0 x0 o1 q1 p1 s2 r0 q0 n0 w0 s0 u0 h1 j1 e1 x1 t1 w1 d2 z1 c2 R):Ag prog 36 #[(.agg #[aN p0 m0 o0,aD f1,aN d1 i1 g1,aN c1 z0 a1,aN v0 t0 x0,aN o1 q1 p1,aD s2,aN r0 q0 n0,aN w0 s0 u0,aD h1,aD j1,aD e1,aN x1 t1 w1,aN d2 z1 c2])] σ R:=
 Af CO SZ Tryz.func36 rfl (h:=h)
def JZ (σ:Hp) (p0:aA) (m0 o0:Nat) (f1:Int) (d1:aA) (i1 g1:Nat) (c1:aA) (z0 a1:Nat) (v0:aA) (t0 x0:Nat) (o1:aA) (q1 p1:Nat) (s2:Int) (r0:aA) (q0 n0:Nat) (w0:aA) (s0 u0:Nat) (h1 j1 e1:Int) (x1:aA) (t1 w1:Nat) (d2:aA) (z1 c2:Nat) (R:aB):Prop:=
 aC 32 #[(.agg #[aN p0 m0 o0,aD f1,aN d1 i1 g1,aN c1 z0 a1,aN v0 t0 x0,aN o1 q1 p1,aD s2,aN r0 q0 n0,aN w0 s0 u0,aD h1,aD j1,aD e1,aN x1 t1 w1,aN d2 z1 c2])] σ (aJ fun n3 σ2=>(bc (!decide (n3=0)) (rt σ2 R (.tuple #[aN none 0 0,aD n3])) (aC 36 #[(.agg #[aN p0 m0 o0,aD f1,aN d1 i1 g1,aN c1 z0 a1,aN v0 t0 x0,aN o1 q1 p1,aD s2,aN r0 q0 n0,aN w0 s0 u0,aD h1,aD j1,aD e1,aN x1 t1 w1,aN d2 z1 c2])] σ2 (aK fun A6 l6 c6 s5=>(rt s5 R (.tuple #[aN A6 l6 c6,aD 0]))))))
def T1:MAn:=(aP (.seq (aP (aP (.cond (aP .leaf) .leaf))) (aP .leaf)))
theorem TT (σ:Hp) (p0:aA) (m0 o0:Nat) (f1:Int) (d1:aA) (i1 g1:Nat) (c1:aA) (z0 a1:Nat) (v0:aA) (t0 x0:Nat) (o1:aA) (q1 p1:Nat) (s2:Int) (r0:aA) (q0 n0:Nat) (w0:aA) (s0 u0:Nat) (h1 j1 e1:Int) (x1:aA) (t1 w1:Nat) (d2:aA) (z1 c2:Nat) (R:aB) (h:JZ σ p0 m0 o0 f1 d1 i1 g1 c1 z0 a1 v0 t0 x0 o1 q1 p1 s2 r0 q0 n0 w0 s0 u0 h1 j1 e1 x1 t1 w1 d2 z1 c2 R):Ag prog 31 #[(.agg #[aN p0 m0 o0,aD f1,aN d1 i1 g1,aN c1 z0 a1,aN v0 t0 x0,aN o1 q1 p1,aD s2,aN r0 q0 n0,aN w0 s0 u0,aD h1,aD j1,aD e1,aN x1 t1 w1,aN d2 z1 c2])] σ R:=
 Af CO T1 Tryz.func31 rfl (h:=h)
def J2 (σ:Hp) (p0:aA) (m0 o0:Nat) (f1:Int) (d1:aA) (i1 g1:Nat) (c1:aA) (z0 a1:Nat) (v0:aA) (t0 x0:Nat) (o1:aA) (q1 p1:Nat) (s2:Int) (r0:aA) (q0 n0:Nat) (w0:aA) (s0 u0:Nat) (h1 j1 e1:Int) (x1:aA) (t1 w1:Nat) (d2:aA) (z1 c2:Nat) (l_A:aA) (l_n l_c:Nat) (R:aB):Prop:=
 aC 32 #[(.agg #[aN p0 m0 o0,aD f1,aN d1 i1 g1,aN c1 z0 a1,aN v0 t0 x0,aN o1 q1 p1,aD s2,aN r0 q0 n0,aN w0 s0 u0,aD h1,aD j1,aD e1,aN x1 t1 w1,aN d2 z1 c2])] σ (aJ fun n3 σ2=>(bc (!decide (n3=0)) (rt σ2 R (.tuple #[.pointer none,aD n3])) (aC 68 #[(.agg #[aN p0 m0 o0,aD f1]),aN l_A l_n l_c] σ2 (aJ fun n6 s5=>(bc (!decide (n6=0)) (rt s5 R (.tuple #[.pointer none,aD n6])) (aC 36 #[(.agg #[aN p0 m0 o0,aD f1,aN d1 i1 g1,aN c1 z0 a1,aN v0 t0 x0,aN o1 q1 p1,aD s2,aN r0 q0 n0,aN w0 s0 u0,aD h1,aD j1,aD e1,aN x1 t1 w1,aN d2 z1 c2])] s5 (aK fun A9 l9 c9 s8=>(cut (α:=aA->Nat->Nat->Int->List (Int×Int×Int×(aA×Nat×Nat)×Int×(aA×Nat×Nat))->Hp->Prop) (fun A13 l13 c13 n14 xs15 s11=>
  ∀ _:Nat->Value,exl 115 [.int .i64,.int .i64,.int .i64,.slc,.int .i64,.slc] xs15 s11 (fun A16 l16 c16 s17=>
  bx s17 (.cells #[aN A13 l13 c13,aD n14,aN A16 l16 c16] 118) (fun b18 s19=>rt s19 R (.tuple #[(.pointer (some ⟨b18,0,none⟩)),aD 0])))) (fun J12=>
  ∃ I22:Nat->Int->aA->Nat->Nat->Int->List (Int×Int×Int×(aA×Nat×Nat)×Int×(aA×Nat×Nat))->Hp->Prop,(∃ n230,adp 115 [.int .i64,.int .i64,.int .i64,.slc,.int .i64,.slc] none 0 0 s8 (fun (xs24:List (Int×Int×Int×(aA×Nat×Nat)×Int×(aA×Nat×Nat))) s25=>
  I22 n230 0 p0 m0 o0 f1 xs24 s25))/\∀ n23 n26 A27 l27 c27 n28 xs29 s21,I22 n23 n26 A27 l27 c27 n28 xs29 s21->∀ _:Nat->Value,bc (decide (n26<(l_n:Int))) (cut (α:=aA->Nat->Nat->Int->List (Int×Int×Int×(aA×Nat×Nat)×Int×(aA×Nat×Nat))->Hp->Prop) (fun A33 l33 c33 n34 xs35 s31=>
  ∀ _:Nat->Value,wk .i64 (n26+1) (fun n36=>bk s31 n23 (fun m37 s38=>I22 m37 n36 A33 l33 c33 n34 xs35 s38))) (fun J32=>
  ix l_A l_n n26 5 (fun b39 a40=>ldI s21 .i64 b39 a40 (fun n41=>ldI s21 .i64 b39 (a40+1) (fun n42=>
  ldI s21 .i64 b39 (a40+2) (fun n43=>ldS s21 b39 (a40+3) (fun A44 l44 _=>ldI s21 .i64 b39 (a40+4) (fun n45=>
  cut (α:=Int->Int->Int->List Int->Int->List Int->Hp->Prop) (fun n49 n50 n51 xs52 n53 xs54 s47=>
  ∀ _:Nat->Value,exl 3 aM xs52 s47 (fun A55 l55 c55 s56=>exl 3 aM xs54 s56 (fun A57 l57 c57 s58=>
  bx s58 (.cells #[aD n49,aD n50,aD n51,aN A55 l55 c55,aD n53,aN A57 l57 c57] 115) (fun b59 s60=>
  (Hp.Sub s58 s60/\∃ ys61:List (Int×Int×Int×(aA×Nat×Nat)×Int×(aA×Nat×Nat)),RdS [.int .i64,.int .i64,.int .i64,.slc,.int .i64,.slc] s60 (some ⟨b59,0,none⟩) 1 ys61 /\
  Bh (List.length xs29+List.length ys61) (J32 A27 l27 c27 n28 (xs29++ys61) s60)))))) (fun J48=>
  ∃ I64:Nat->Int->Int->Int->Int->List Int->Int->List Int->Hp->Prop,(∃ n650,adp 3 aM none 0 0 s21 (fun (xs66:List Int) s67=>
  adp 3 aM none 0 0 s67 (fun (xs68:List Int) s69=>I64 n650 0 n41 n42 n43 xs66 n45 xs68 s69))) /\
  ∀ n65 n70 n71 n72 n73 xs74 n75 xs76 s63,I64 n65 n70 n71 n72 n73 xs74 n75 xs76 s63->∀ _:Nat->Value,bc (decide (n70<(l44:Int))) (cut (α:=Int->Int->Int->List Int->Int->List Int->Hp->Prop) (fun n80 n81 n82 xs83 n84 xs85 s78=>
  ∀ _:Nat->Value,wk .i64 (n70+1) (fun n86=>bk s78 n65 (fun m87 s88=>I64 m87 n86 n80 n81 n82 xs83 n84 xs85 s88))) (fun J79=>
  ix A44 l44 n70 1 (fun b89 a90=>ldI s63 .i64 b89 a90 (fun n91=>aC 89 #[aN A9 l9 c9,aD n91] s63 (aI fun t94 s93=>(bc t94 (Bh (List.length xs74+List.length ([n91]:List Int)) (Bh (List.length xs76+List.length ([n70]:List Int)) (J79 n71 n72 n73 (xs74++([n91]:List Int)) n75 (xs76++([n70]:List Int)) s93))) (J79 n71 n72 n73 xs74 n75 xs76 s93))))))) (J48 n71 n72 n73 xs74 n75 xs76 s63)))))))))) (J12 A27 l27 c27 n28 xs29 s21))))))))))
def BH:OA:=⟨[],false,[]⟩
def Tw:MAn:=(aP (.seq (aP (aP (.cond (aP .leaf) .leaf))) (.seq (aP (aP (.cond (aP .leaf) .leaf))) (aP (aP (.cut ⟨[true,false],3,[.slot 9 (.hb 1 0),.modb 1 118 [.sc (.slc),.sc (.int .i64),.lst 2 115 [.int .i64,.int .i64,.int .i64,.slc,.int .i64,.slc]]],[]⟩ (aP (.block (.loop ⟨[true,false],3,[.slot 9 (.hb 1 0),.slot 35 (.sc (.int .i64)),.modb 1 118 [.sc (.slc),.sc (.int .i64),.lst 2 115 [.int .i64,.int .i64,.int .i64,.slc,.int .i64,.slc]]],[(8,true),(33,true),(34,true)]⟩ (aP (.seq (.cond .leaf .leaf) (.cut ⟨[true,false,false],3,[.slot 9 (.hb 1 0),.modb 1 118 [.sc (.slc),.sc (.int .i64),.lst 2 115 [.int .i64,.int .i64,.int .i64,.slc,.int .i64,.slc]]],[(8,true),(33,true),(34,true),(35,true)]⟩ (.block (aP (aP (aP (.cut ⟨[true,true,true,true,false],7,[.slot 9 (.hb 1 0),.slot 12 (.hb 4 0),.modb 4 115 [.sc (.int .i64),.sc (.int .i64),.sc (.int .i64),.lst 5 3 aM,.sc (.int .i64),.lst 6 3 aM]],[(8,true),(33,true),(34,true),(35,true)]⟩ (aP (.block (.loop ⟨[true,true,true,true,false],7,[.slot 9 (.hb 1 0),.slot 12 (.hb 4 0),.slot 46 (.sc (.int .i64)),.modb 4 115 [.sc (.int .i64),.sc (.int .i64),.sc (.int .i64),.lst 5 3 aM,.sc (.int .i64),.lst 6 3 aM]],[(8,true),(33,true),(34,true),(35,true),(44,true),(45,true)]⟩ (aP (.seq (.cond .leaf .leaf) (.cut ⟨[true,true,true,true,false,false,false],7,[.slot 9 (.hb 1 0),.slot 12 (.hb 4 0),.modb 4 115 [.sc (.int .i64),.sc (.int .i64),.sc (.int .i64),.lst 5 3 aM,.sc (.int .i64),.lst 6 3 aM]],[(8,true),(33,true),(34,true),(35,true),(44,true),(45,true),(46,true)]⟩ (.block (aP (aP (.cond (aP (.txt [])) .leaf)))) (.txt []))))))) (.plan [7,10] (tkYN1 6 0 BH (.alt 6 true BH (.alt 7 false BH (.take 8 BH (.take 9 BH (.alt 10 false BH .done .done))) .done) .done)))))))) (.txt []))))))) (aP .leaf)))))))
theorem Uq (σ:Hp) (p0:aA) (m0 o0:Nat) (f1:Int) (d1:aA) (i1 g1:Nat) (c1:aA) (z0 a1:Nat) (v0:aA) (t0 x0:Nat) (o1:aA) (q1 p1:Nat) (s2:Int) (r0:aA) (q0 n0:Nat) (w0:aA) (s0 u0:Nat) (h1 j1 e1:Int) (x1:aA) (t1 w1:Nat) (d2:aA) (z1 c2:Nat) (l_A:aA) (l_n l_c:Nat) (R:aB) (h:J2 σ p0 m0 o0 f1 d1 i1 g1 c1 z0 a1 v0 t0 x0 o1 q1 p1 s2 r0 q0 n0 w0 s0 u0 h1 j1 e1 x1 t1 w1 d2 z1 c2 l_A l_n l_c R):Ag prog 46 #[(.agg #[aN p0 m0 o0,aD f1,aN d1 i1 g1,aN c1 z0 a1,aN v0 t0 x0,aN o1 q1 p1,aD s2,aN r0 q0 n0,aN w0 s0 u0,aD h1,aD j1,aD e1,aN x1 t1 w1,aN d2 z1 c2]),aN l_A l_n l_c] σ R:=
 Af CO Tw Tryz.func46 rfl (h:=h)
def CU (σ:Hp) (n:aA) (R:aB):Prop:=
 cut (α:=List (Int×Int×Int×(aA×Nat×Nat)×Int)->Hp->Prop) (fun xs4 σ2=>∀ _:Nat->Value,
  exl 65 [.int .i64,.int .i64,.int .i64,.slc,.int .i64] xs4 σ2 (fun A5 l5 c5 s6=>rt s6 R (aN A5 l5 c5))) (fun J3=>
  dr n (fun b7 o8=>ldS σ b7 (o8+2) (fun A9 l9 _=>∃ I12:Nat->List (Int×Int×Int×(aA×Nat×Nat)×Int)->Int->Hp->Prop,(∃ n130,adp 65 [.int .i64,.int .i64,.int .i64,.slc,.int .i64] none 0 0 σ (fun (xs14:List (Int×Int×Int×(aA×Nat×Nat)×Int)) s15=>
  I12 n130 xs14 0 s15))/\∀ n13 xs16 n17 s11,I12 n13 xs16 n17 s11->∀ _:Nat->Value,bc (decide (n17<(l9:Int))) (ix A9 l9 n17 6 (fun b18 a19=>
  ldI s11 .i64 b18 a19 (fun n20=>ldI s11 .i64 b18 (a19+1) (fun n21=>ldI s11 .i64 b18 (a19+2) (fun n22=>
  ldS s11 b18 (a19+3) (fun A23 l23 c23=>ldI s11 .i64 b18 (a19+4) (fun n24=>ldS s11 b18 (a19+5) (fun _ _ _=>
  Bh (List.length xs16+List.length ([(n20,n21,n22,(A23,l23,c23),n24)]:List (Int×Int×Int×(aA×Nat×Nat)×Int))) (wk .i64 (n17+1) (fun n26=>
  bk s11 n13 (fun m27 s28=>I12 m27 (xs16++([(n20,n21,n22,(A23,l23,c23),n24)]:List (Int×Int×Int×(aA×Nat×Nat)×Int))) n26 s28))))))))))) (J3 xs16 s11))))
def IH:MAn:=(aP (.cut ⟨[],1,[.slot 2 (.lst 0 65 [.int .i64,.int .i64,.int .i64,.slc,.int .i64])],[]⟩ (aP (.block (.loop ⟨[],1,[.slot 2 (.lst 0 65 [.int .i64,.int .i64,.int .i64,.slc,.int .i64]),.slot 10 (.sc (.int .i64))],[(8,true),(9,true)]⟩ (aP (.seq (.cond .leaf .leaf) (.seq (.block (aP (.txt []))) (.txt []))))))) (aP .leaf)))
theorem IB (σ:Hp) (n:aA) (R:aB) (h:CU σ n R):Ag prog 54 #[.pointer n] σ R:=
 Af CO IH Tryz.func54 rfl (h:=h)
def Lf (σ:Hp) (p0:aA) (m0 o0:Nat) (f1:Int) (d1:aA) (i1 g1:Nat) (c1:aA) (z0 a1:Nat) (v0:aA) (t0 x0:Nat) (o1:aA) (q1 p1:Nat) (s2:Int) (r0:aA) (q0 n0:Nat) (w0:aA) (s0 u0:Nat) (h1 j1 e1:Int) (x1:aA) (t1 w1:Nat) (d2:aA) (z1 c2:Nat) (l_A:aA) (l_n l_c:Nat) (R:aB):Prop:=
 aC 46 #[(.agg #[aN p0 m0 o0,aD f1,aN d1 i1 g1,aN c1 z0 a1,aN v0 t0 x0,aN o1 q1 p1,aD s2,aN r0 q0 n0,aN w0 s0 u0,aD h1,aD j1,aD e1,aN x1 t1 w1,aN d2 z1 c2]),aN l_A l_n l_c] σ (fun v1 σ2=>
  ∃ p3:aA,∃ n4:Int,(v1=(.tuple #[.pointer p3,aD n4])/\bc (!decide (n4=0)) (rt σ2 R (.tuple #[aN none 0 0,aD n4])) (dr p3 (fun b5 o6=>
  ldS σ2 b5 o6 (fun A7 l7 c7=>ldI σ2 .i64 b5 (o6+1) (fun n8=>aC 54 #[.pointer p3] σ2 (aK fun A11 l11 c11 s10=>((Hp.Sub σ2 s10/\aC 61 #[(.agg #[aN A7 l7 c7,aD n8]),aN A11 l11 c11] s10 (fun v12 s13=>
  ∃ A14:aA,∃ l14 c14:Nat,∃ n15:Int,(v12=(.tuple #[aN A14 l14 c14,aD n15]) /\
  aF (fun s17=>rt s17 R (.tuple #[aN A14 l14 c14,aD n15])) (fun J18=>
  ∃ I21:Nat->Int->Hp->Prop,(∃ n220,I21 n220 0 s13)/\∀ n22 n23 s20,I21 n22 n23 s20->∀ _:Nat->Value,bc (decide (n23<(l14:Int))) (ix A14 l14 n23 6 (fun b24 a25=>
  ldI s20 .i64 b24 a25 (fun n26=>ldI s20 .i64 b24 (a25+1) (fun n27=>ldI s20 .i64 b24 (a25+2) (fun _=>
  ldB s20 b24 (a25+3) (fun _=>ldI s20 .i64 b24 (a25+4) (fun _=>ldI s20 .i64 b24 (a25+5) (fun _=>
  dr p3 (fun b32 o33=>ldS s20 b32 (o33+2) (fun A34 l34 _=>ix A34 l34 n26 6 (fun b35 a36=>ldS s20 b35 (a36+5) (fun A37 l37 _=>
  ix A37 l37 n27 1 (fun b38 a39=>ldI s20 .i64 b38 a39 (fun n40=>ix A14 l14 n23 6 (fun b41 a42=>st s20 b41 (a42+1) (aD n40) (fun s43=>
  wk .i64 (n23+1) (fun n44=>bk s43 n22 (fun m45 s46=>I21 m45 n44 s46)))))))))))))))))) (J18 s20)))))))))))))
def AO:OA:=⟨[],false,[]⟩
def US:MAn:=(aP (aP (.seq (aP (.cond (aP .leaf) .leaf)) (.seq (.plan [6] (tkYN1 5 0 AO (.alt 5 true AO (.alt 6 false AO (tkYN1 5 7 AO .done) .done) .done))) (.cut ⟨[true],1,[],[(7,true),(8,true)]⟩ (aP (.block (.loop ⟨[true],1,[.slot 32 (.sc (.int .i64))],[(6,true),(7,true),(8,true),(30,true),(31,true)]⟩ (aP (.seq (.cond .leaf .leaf) (.seq (.block (aP (.plan [17] (tkYN1 17 0 AO (.alt 17 false AO .done .done))))) (.txt []))))))) (aP .leaf))))))
theorem UN (σ:Hp) (p0:aA) (m0 o0:Nat) (f1:Int) (d1:aA) (i1 g1:Nat) (c1:aA) (z0 a1:Nat) (v0:aA) (t0 x0:Nat) (o1:aA) (q1 p1:Nat) (s2:Int) (r0:aA) (q0 n0:Nat) (w0:aA) (s0 u0:Nat) (h1 j1 e1:Int) (x1:aA) (t1 w1:Nat) (d2:aA) (z1 c2:Nat) (l_A:aA) (l_n l_c:Nat) (R:aB) (h:Lf σ p0 m0 o0 f1 d1 i1 g1 c1 z0 a1 v0 t0 x0 o1 q1 p1 s2 r0 q0 n0 w0 s0 u0 h1 j1 e1 x1 t1 w1 d2 z1 c2 l_A l_n l_c R):Ag prog 26 #[(.agg #[aN p0 m0 o0,aD f1,aN d1 i1 g1,aN c1 z0 a1,aN v0 t0 x0,aN o1 q1 p1,aD s2,aN r0 q0 n0,aN w0 s0 u0,aD h1,aD j1,aD e1,aN x1 t1 w1,aN d2 z1 c2]),aN l_A l_n l_c] σ R:=
 Af CO US Tryz.func26 rfl (h:=h)
def GV (σ:Hp) (p0:aA) (m0 o0:Nat) (f1:Int) (d1:aA) (i1 g1:Nat) (c1:aA) (z0 a1:Nat) (v0:aA) (t0 x0:Nat) (o1:aA) (q1 p1:Nat) (s2:Int) (r0:aA) (q0 n0:Nat) (w0:aA) (s0 u0:Nat) (h1 j1 e1:Int) (x1:aA) (t1 w1:Nat) (d2:aA) (z1 c2:Nat) (l_A:aA) (l_n l_c:Nat) (R:aB):Prop:=
 aC 46 #[(.agg #[aN p0 m0 o0,aD f1,aN d1 i1 g1,aN c1 z0 a1,aN v0 t0 x0,aN o1 q1 p1,aD s2,aN r0 q0 n0,aN w0 s0 u0,aD h1,aD j1,aD e1,aN x1 t1 w1,aN d2 z1 c2]),aN l_A l_n l_c] σ (fun v1 σ2=>
  ∃ p3:aA,∃ n4:Int,(v1=(.tuple #[.pointer p3,aD n4])/\bc (!decide (n4=0)) (rt σ2 R (.tuple #[aD 0,aD n4])) (dr p3 (fun b5 o6=>
  ldS σ2 b5 o6 (fun A7 l7 c7=>ldI σ2 .i64 b5 (o6+1) (fun n8=>aC 54 #[.pointer p3] σ2 (aK fun A11 l11 c11 s10=>((Hp.Sub σ2 s10/\aC 50 #[(.agg #[aN A7 l7 c7,aD n8]),aN A11 l11 c11] s10 (fun v12 s13=>
  ∃ A14:aA,∃ l14 c14:Nat,∃ n15:Int,(v12=(.tuple #[aN A14 l14 c14,aD n15]) /\
  bc (!decide (n15=0)) (rt s13 R (.tuple #[aD 0,aD n15])) (aH (fun n19 s17=>rt s17 R (.tuple #[aD n19,aD 0])) (fun J18=>dr p3 (fun b20 o21=>
  ldS s13 b20 (o21+2) (fun A22 l22 _=>∃ I25:Nat->Int->Int->Hp->Prop,(∃ n260,I25 n260 0 0 s13) /\
  ∀ n26 n27 n28 s24,I25 n26 n27 n28 s24->∀ _:Nat->Value,bc (decide (n28<(l22:Int))) (aH (fun n32 s30=>wk .i64 (n28+1) (fun n33=>bk s30 n26 (fun m34 s35=>I25 m34 n32 n33 s35))) (fun J31=>
  ix A22 l22 n28 6 (fun b36 a37=>ldI s24 .i64 b36 a37 (fun n38=>ldI s24 .i64 b36 (a37+1) (fun _=>
  ldI s24 .i64 b36 (a37+2) (fun _=>ldS s24 b36 (a37+3) (fun _ _ _=>ldI s24 .i64 b36 (a37+4) (fun _=>
  ldS s24 b36 (a37+5) (fun _ _ _=>aH (fun n47 s45=>
  J31 (if n47>n27 then n47 else n27) s45) (fun J46=>dr p3 (fun b48 o49=>ldS s24 b48 (o49+2) (fun A50 l50 _=>
  ∃ I53:Nat->Int->Int->Hp->Prop,(∃ n540,I53 n540 0 0 s24)/\∀ n54 n55 n56 s52,I53 n54 n55 n56 s52->∀ _:Nat->Value,bc (decide (n56<(l50:Int))) (aH (fun n60 s58=>wk .i64 (n56+1) (fun n61=>bk s58 n54 (fun m62 s63=>I53 m62 n60 n61 s63))) (fun J59=>
  ix A50 l50 n56 6 (fun b64 a65=>ldI s52 .i64 b64 a65 (fun n66=>ldI s52 .i64 b64 (a65+1) (fun n67=>
  ldI s52 .i64 b64 (a65+2) (fun _=>ldS s52 b64 (a65+3) (fun _ _ _=>ldI s52 .i64 b64 (a65+4) (fun _=>
  ldS s52 b64 (a65+5) (fun _ _ _=>aG (fun t75 s73=>
  bc t75 (wk .i64 (n55+n67) (fun n76=>J59 n76 s73)) (J59 n55 s73)) (fun J74=>bc (decide (n66<=n38)) (ix A14 l14 n56 1 (fun b77 a78=>
  ldI s52 .i64 b77 a78 (fun n79=>bc (decide (n79<0)) (J74 true s52) (ix A14 l14 n56 1 (fun b80 a81=>
  ldI s52 .i64 b80 a81 (fun n82=>J74 (decide (n38<n82)) s52)))))) (J74 false s52))))))))))) (J46 n55 s52))))))))))))) (J18 n27 s24))))))))))))))))
def As:OA:=⟨[],false,[]⟩
def QX:MAn:=(aP (aP (.seq (aP (.cond (aP .leaf) .leaf)) (.seq (.plan [6] (tkYN1 5 0 As (.alt 5 true As (.alt 6 false As (tkYN1 5 7 As .done) .done) .done))) (.seq (aP (.cond (aP .leaf) .leaf)) (.cut ⟨[true],1,[.slot 4 (.sc (.int .i64))],[]⟩ (aP (.block (.loop ⟨[true],1,[.slot 4 (.sc (.int .i64)),.slot 40 (.sc (.int .i64))],[(6,true),(7,true),(38,true),(39,true)]⟩ (aP (.seq (.cond .leaf .leaf) (.cut ⟨[true],1,[.slot 4 (.sc (.int .i64))],[(6,true),(7,true),(38,true),(39,true),(40,true)]⟩ (.block (aP (aP (.cut ⟨[true,true],2,[.slot 10 (.sc (.int .i64))],[(4,true),(6,true),(7,true),(38,true),(39,true),(40,true)]⟩ (aP (.block (.loop ⟨[true,true],2,[.slot 9 (.hb 1 0),.slot 10 (.sc (.int .i64)),.slot 49 (.sc (.int .i64))],[(4,true),(6,true),(7,true),(38,true),(39,true),(40,true),(47,true),(48,true)]⟩ (aP (.seq (.cond .leaf .leaf) (.cut ⟨[true,true],2,[.slot 9 (.hb 1 0),.slot 10 (.sc (.int .i64))],[(4,true),(6,true),(7,true),(38,true),(39,true),(40,true),(47,true),(48,true),(49,true)]⟩ (.block (aP (.cut ⟨[true,true,true],3,[.slot 9 (.hb 1 0),.slot 12 (.hb 2 0),.slot 77 (.sc (.bool))],[(4,true),(6,true),(7,true),(10,true),(38,true),(39,true),(40,true),(47,true),(48,true),(49,true)]⟩ (.plan [] (tkYN1 7 0 As (.take 7 ⟨[],true,[]⟩ (tkYN1 5 8 As (.take 13 ⟨[],true,[]⟩ (tkYN1 10 14 As .done)))))) (.cond (.txt []) .leaf)))) (.txt []))))))) (.txt []))))) (.txt []))))))) (aP .leaf)))))))
theorem QV (σ:Hp) (p0:aA) (m0 o0:Nat) (f1:Int) (d1:aA) (i1 g1:Nat) (c1:aA) (z0 a1:Nat) (v0:aA) (t0 x0:Nat) (o1:aA) (q1 p1:Nat) (s2:Int) (r0:aA) (q0 n0:Nat) (w0:aA) (s0 u0:Nat) (h1 j1 e1:Int) (x1:aA) (t1 w1:Nat) (d2:aA) (z1 c2:Nat) (l_A:aA) (l_n l_c:Nat) (R:aB) (h:GV σ p0 m0 o0 f1 d1 i1 g1 c1 z0 a1 v0 t0 x0 o1 q1 p1 s2 r0 q0 n0 w0 s0 u0 h1 j1 e1 x1 t1 w1 d2 z1 c2 l_A l_n l_c R):Ag prog 23 #[(.agg #[aN p0 m0 o0,aD f1,aN d1 i1 g1,aN c1 z0 a1,aN v0 t0 x0,aN o1 q1 p1,aD s2,aN r0 q0 n0,aN w0 s0 u0,aD h1,aD j1,aD e1,aN x1 t1 w1,aN d2 z1 c2]),aN l_A l_n l_c] σ R:=
 Af CO QX Tryz.func23 rfl (h:=h)
def JM (σ:Hp) (p0:aA) (m0 o0:Nat) (f1:Int) (d1:aA) (i1 g1:Nat) (c1:aA) (z0 a1:Nat) (v0:aA) (t0 x0:Nat) (o1:aA) (q1 p1:Nat) (s2:Int) (r0:aA) (q0 n0:Nat) (w0:aA) (s0 u0:Nat) (h1 j1 e1:Int) (x1:aA) (t1 w1:Nat) (d2:aA) (z1 c2:Nat) (l_A:aA) (l_n l_c:Nat) (cents:Int) (s1:aA) (y0 b2:Nat) (R:aB):Prop:=
 aC 46 #[(.agg #[aN p0 m0 o0,aD f1,aN d1 i1 g1,aN c1 z0 a1,aN v0 t0 x0,aN o1 q1 p1,aD s2,aN r0 q0 n0,aN w0 s0 u0,aD h1,aD j1,aD e1,aN x1 t1 w1,aN d2 z1 c2]),aN l_A l_n l_c] σ (fun v1 σ2=>
  ∃ p3:aA,∃ n4:Int,(v1=(.tuple #[.pointer p3,aD n4])/\bc (!decide (n4=0)) (rt σ2 R (.tuple #[aN none 0 0,aD n4])) (aC 35 #[aD cents,aD 0,aD 1000] σ2 (aI fun t7 s6=>(bc (!t7) (rt s6 R (.tuple #[aN none 0 0,aD 1])) (dr p3 (fun b8 o9=>
  ldS s6 b8 o9 (fun A10 l10 c10=>ldI s6 .i64 b8 (o9+1) (fun n11=>aC 54 #[.pointer p3] s6 (aK fun A14 l14 c14 s13=>((Hp.Sub s6 s13/\aC 55 #[(.agg #[aN A10 l10 c10,aD n11]),aN A14 l14 c14] s13 (fun v15 s16=>
  ∃ A17:aA,∃ l17 c17:Nat,∃ n18:Int,(v15=(.tuple #[aN A17 l17 c17,aD n18]) /\
  bc (!decide (n18=0)) (rt s16 R (.tuple #[aN none 0 0,aD n18])) (aH (fun n22 s20=>wk .i64 (n22*cents) (fun n23=>aC 56 #[aD n23,aN s1 y0 b2] s20 (fun v24 s25=>
  ∃ A26:aA,∃ l26 c26:Nat,∃ n27:Int,(v24=(.tuple #[aN A26 l26 c26,aD n27]) /\
  rt s25 R (.tuple #[aN A26 l26 c26,aD n27]))))) (fun J21=>∃ I30:Nat->Int->Int->Hp->Prop,(∃ n310,I30 n310 0 0 s16) /\
  ∀ n31 n32 n33 s29,I30 n31 n32 n33 s29->∀ _:Nat->Value,bc (decide (n33<(l17:Int))) (ix A17 l17 n33 1 (fun b34 a35=>
  ldI s29 .i64 b34 a35 (fun n36=>wk .i64 (n32+n36) (fun n37=>wk .i64 (n33+1) (fun n38=>bk s29 n31 (fun m39 s40=>
  I30 m39 n37 n38 s40)))))) (J21 n32 s29)))))))))))))))))
def BA:OA:=⟨[],false,[]⟩
def Ur:MAn:=(aP (aP (.seq (aP (.cond (aP .leaf) .leaf)) (.seq (aP (.cond (aP .leaf) .leaf)) (.seq (.plan [6] (tkYN1 5 0 BA (.alt 5 true BA (.alt 6 false BA (tkYN1 5 7 BA .done) .done) .done))) (.seq (aP (.cond (aP .leaf) .leaf)) (aP (.cut ⟨[true],1,[.slot 13 (.sc (.int .i64))],[(2,true),(3,true)]⟩ (aP (.block (.loop ⟨[true],1,[.slot 13 (.sc (.int .i64)),.slot 43 (.sc (.int .i64))],[(2,true),(3,true),(41,true),(42,true)]⟩ (aP (.seq (.cond .leaf .leaf) (.seq (.block (aP (.txt []))) (.txt []))))))) (aP .leaf)))))))))
theorem TJ (σ:Hp) (p0:aA) (m0 o0:Nat) (f1:Int) (d1:aA) (i1 g1:Nat) (c1:aA) (z0 a1:Nat) (v0:aA) (t0 x0:Nat) (o1:aA) (q1 p1:Nat) (s2:Int) (r0:aA) (q0 n0:Nat) (w0:aA) (s0 u0:Nat) (h1 j1 e1:Int) (x1:aA) (t1 w1:Nat) (d2:aA) (z1 c2:Nat) (l_A:aA) (l_n l_c:Nat) (cents:Int) (s1:aA) (y0 b2:Nat) (R:aB) (h:JM σ p0 m0 o0 f1 d1 i1 g1 c1 z0 a1 v0 t0 x0 o1 q1 p1 s2 r0 q0 n0 w0 s0 u0 h1 j1 e1 x1 t1 w1 d2 z1 c2 l_A l_n l_c cents s1 y0 b2 R):Ag prog 24 #[(.agg #[aN p0 m0 o0,aD f1,aN d1 i1 g1,aN c1 z0 a1,aN v0 t0 x0,aN o1 q1 p1,aD s2,aN r0 q0 n0,aN w0 s0 u0,aD h1,aD j1,aD e1,aN x1 t1 w1,aN d2 z1 c2]),aN l_A l_n l_c,aD cents,aN s1 y0 b2] σ R:=
 Af CO Ur Tryz.func24 rfl (h:=h)
def Dj (σ:Hp) (s_A:aA) (s_n s_c:Nat) (v:Int) (R:aB):Prop:=
 aC 146 #[aN s_A s_n s_c,aD v] σ (fun v1 σ2=>∃ n3:Int,(v1=(aD n3) /\
  rt σ2 R (.bool (decide ((0:Int)<=n3)))))
def Jd:MAn:=(aP (aP .leaf))
theorem JJ (σ:Hp) (s_A:aA) (s_n s_c:Nat) (v:Int) (R:aB) (h:Dj σ s_A s_n s_c v R):Ag prog 89 #[aN s_A s_n s_c,aD v] σ R:=
 Af CO Jd Tryz.func89 rfl (h:=h)
def Ep (σ:Hp) (s_A:aA) (s_n _:Nat) (v:Int) (R:aB):Prop:=
 aF (fun σ2=>rt σ2 R (aD (-1))) (fun J3=>∃ I6:Nat->Int->Hp->Prop,(∃ n70,I6 n70 0 σ) /\
  ∀ n7 n8 s5,I6 n7 n8 s5->∀ _:Nat->Value,bc (decide (n8<(s_n:Int))) (ix s_A s_n n8 1 (fun b9 a10=>
  ldI s5 .i64 b9 a10 (fun n11=>bc (decide (v=n11)) (rt s5 R (aD n8)) (wk .i64 (n8+1) (fun n12=>
  bk s5 n7 (fun m13 s14=>I6 m13 n12 s14)))))) (J3 s5))
def MP:MAn:=(aP (.cut ⟨[],0,[],[]⟩ (aP (.block (.loop ⟨[],0,[.slot 8 (.sc (.int .i64))],[(0,true),(1,true),(7,true)]⟩ (aP (.seq (.cond .leaf .leaf) (.seq (.block (aP (aP (.cond (aP .leaf) .leaf)))) (.txt []))))))) (aP .leaf)))
theorem MI (σ:Hp) (s_A:aA) (s_n s_c:Nat) (v:Int) (R:aB) (h:Ep σ s_A s_n s_c v R):Ag prog 146 #[aN s_A s_n s_c,aD v] σ R:=
 Af CO MP Tryz.func146 rfl (h:=h)
theorem Wo:prog.follows .mixedOrders=true:=by kernel_rfl
def Cz (σ:Hp) (x_A:aA) (x_n x_c:Nat) (cmp:Value) (R:aB):Prop:=
 aC 90 #[aN x_A x_n x_c,(aD (x_n:Int)),cmp] σ (fun _ σ2=>
  rt σ2 R (.tuple #[]))
def Gf:MAn:=(.txt [])
theorem Gd (σ:Hp) (x_A:aA) (x_n x_c:Nat) (cmp:Value) (R:aB) (h:Cz σ x_A x_n x_c cmp R):Ag prog 47 #[aN x_A x_n x_c,cmp] σ R:=
 Af Wo Gf Tryz.func47 rfl (h:=h)
def CC (σ:Hp) (y2:aA) (z2 d3:Nat) (n:Int) (cmp:Value) (R:aB):Prop:=
 aH (fun n4 σ2=>aC 147 #[aN y2 z2 d3,aD n4,aD n,cmp] σ2 (fun _ s6=>
  ∃ I10:Nat->Int->Hp->Prop,(∃ n110,I10 n110 20 s6)/\∀ n11 n12 s9,I10 n11 n12 s9->∀ _:Nat->Value,bc (decide (n12<n)) (wk .i64 (2*n12) (fun n13=>
  aH (fun n17 s15=>aF (fun s19=>
  wk .i64 (n12*2) (fun n21=>bk s19 n11 (fun m22 s23=>I10 m22 n21 s23))) (fun J20=>wk .i64 (n17+n12) (fun n24=>
  bc (decide (n24<n)) (aC 148 #[aN y2 z2 d3,aD n17,aD n24,aD n,cmp] s15 (fun _ s26=>
  J20 s26)) (J20 s15)))) (fun J16=>∃ I29:Nat->Int->Int->Hp->Prop,(∃ n300,I29 n300 0 n13 s9) /\
  ∀ n30 n31 n32 s28,I29 n30 n31 n32 s28->∀ _:Nat->Value,bc (decide (n32<=n)) (wk .i64 (n31+n12) (fun n33=>
  aC 148 #[aN y2 z2 d3,aD n31,aD n33,aD n32,cmp] s28 (fun _ s35=>
  wk .i64 (2*n12) (fun n36=>wk .i64 (n32+n36) (fun n37=>bk s35 n30 (fun m38 s39=>I29 m38 n32 n37 s39)))))) (J16 n31 s28)))) (rt s9 R (.tuple #[])))) (fun J3=>
  ∃ I42:Nat->Int->Int->Hp->Prop,(∃ n430,I42 n430 0 20 σ)/\∀ n43 n44 n45 s41,I42 n43 n44 n45 s41->∀ _:Nat->Value,bc (decide (n45<=n)) (aC 147 #[aN y2 z2 d3,aD n44,aD n45,cmp] s41 (fun _ s47=>
  wk .i64 (n45+20) (fun n48=>bk s47 n43 (fun m49 s50=>I42 m49 n45 n48 s50)))) (J3 n44 s41))
def CR:MAn:=(.block (.loop ⟨[],0,[.slot 7 (.sc (.int .i64)),.slot 8 (.sc (.int .i64))],[(0,true),(1,true),(2,false),(6,true)]⟩ (.seq (aP (.cond .leaf .leaf)) (.block (aP (aP (.txt [])))))))
def GA:MAn:=(aP (aP (.cut ⟨[],0,[.slot 7 (.sc (.int .i64))],[(0,true),(1,true),(2,false),(6,true)]⟩ CR (aP (.block (.loop ⟨[],0,[.slot 6 (.sc (.int .i64))],[(0,true),(1,true),(2,false)]⟩ (.seq (aP (.cond .leaf .leaf)) (.block (aP (.cut ⟨[],0,[.slot 7 (.sc (.int .i64))],[(0,true),(1,true),(2,false),(6,true)]⟩ CR (.cut ⟨[],0,[],[(0,true),(1,true),(2,false),(6,true)]⟩ (aP (aP (.cond (.txt []) .leaf))) (.txt []))))))))))))
theorem Gz (σ:Hp) (y2:aA) (z2 d3:Nat) (n:Int) (cmp:Value) (R:aB) (h:CC σ y2 z2 d3 n cmp R):Ag prog 90 #[aN y2 z2 d3,aD n,cmp] σ R:=
 Af Wo GA Tryz.func90 rfl (h:=h)
def BZ (σ:Hp) (y2:aA) (z2 _:Nat) (a b:Int) (cmp:Value) (R:aB):Prop:=
 wk .i64 (a+1) (fun n1=>∃ I5:Nat->Int->Hp->Prop,(∃ n60,I5 n60 n1 σ)/\∀ n6 n7 s4,I5 n6 n7 s4->∀ _:Nat->Value,bc (decide (n7<b)) (aF (fun s9=>wk .i64 (n7+1) (fun n11=>bk s9 n6 (fun m12 s13=>I5 m12 n11 s13))) (fun J10=>
  ∃ I16:Nat->Int->Hp->Prop,(∃ n170,I16 n170 n7 s4)/\∀ n17 n18 s15,I16 n17 n18 s15->∀ _:Nat->Value,aF (fun s20=>wk .i64 (n18-1) (fun n22=>wk .i64 (n18-1) (fun n23=>ix y2 z2 n23 1 (fun b24 a25=>
  ldI s20 .i64 b24 a25 (fun n26=>ix y2 z2 n18 1 (fun b27 a28=>ldI s20 .i64 b27 a28 (fun n29=>
  ix y2 z2 n18 1 (fun b30 a31=>st s20 b30 a31 (aD n26) (fun s32=>ix y2 z2 n22 1 (fun b33 a34=>
  st s32 b33 a34 (aD n29) (fun s35=>wk .i64 (n18-1) (fun n36=>bk s35 n17 (fun m37 s38=>I16 m37 n36 s38))))))))))))) (fun J21=>
  aG (fun t42 s40=>bc t42 (J21 s40) (J10 s40)) (fun J41=>
  bc (decide (a<n18)) (ix y2 z2 n18 1 (fun b43 a44=>ldI s15 .i64 b43 a44 (fun n45=>wk .i64 (n18-1) (fun n46=>
  ix y2 z2 n46 1 (fun b47 a48=>ldI s15 .i64 b47 a48 (fun n49=>cl prog cmp #[aD n45,aD n49] s15 (aJ fun n52 s51=>(J41 (decide (n52<0)) s51)))))))) (J41 false s15))))) (rt s4 R (.tuple #[])))
def Ah:OA:=⟨[],false,[]⟩
def DW:MAn:=(aP (.block (.loop ⟨[],0,[.slot 8 (.sc (.int .i64))],[(0,true),(1,true),(2,true),(3,false)]⟩ (.seq (aP (.cond .leaf .leaf)) (.cut ⟨[],0,[],[(0,true),(1,true),(2,true),(3,false),(8,true)]⟩ (.block (aP (.block (.loop ⟨[],0,[.slot 9 (.sc (.int .i64))],[(0,true),(1,true),(2,true),(3,false),(8,true)]⟩ (.cut ⟨[],0,[],[(0,true),(1,true),(2,true),(3,false),(8,true),(9,true)]⟩ (.cut ⟨[],0,[.slot 34 (.sc (.bool))],[(0,true),(1,true),(2,true),(3,false),(8,true),(9,true)]⟩ (.plan [14] (.take 0 Ah (.take 1 Ah (.take 2 Ah (.take 3 ⟨[],true,[]⟩ (tkYN1 10 4 Ah (.alt 14 false Ah (.take 15 Ah (.take 16 Ah .done)) .done))))))) (.cond .leaf .leaf)) (.seq (.block (.plan [15,17] (tkYN1 15 0 Ah (.alt 15 false Ah (.take 16 Ah (.alt 17 false Ah .done .done)) .done)))) (.txt []))))))) (.txt []))))))
theorem DP (σ:Hp) (y2:aA) (z2 d3:Nat) (a b:Int) (cmp:Value) (R:aB) (h:BZ σ y2 z2 d3 a b cmp R):Ag prog 147 #[aN y2 z2 d3,aD a,aD b,cmp] σ R:=
 Af Wo DW Tryz.func147 rfl (h:=h)
theorem BY:prog.follows .mixedOrders=true:=by kernel_rfl
def Gg (σ:Hp) (n low high:Int) (R:aB):Prop:=
 bc (decide (low<=n)) (rt σ R (.bool (decide (n<=high)))) (rt σ R (.bool false))
def PJ:MAn:=(aP (.seq (.txt [⟨[],false,[]⟩,⟨[],false,[]⟩,⟨[],false,[]⟩,⟨[],true,[]⟩]) .leaf))
theorem Pm (σ:Hp) (n low high:Int) (R:aB) (h:Gg σ n low high R):Ag prog 211 #[aD n,aD low,aD high] σ R:=
 Af BY PJ Tryz.func211 rfl (h:=h)
def Gj (σ:Hp) (n:Int) (R:aB):Prop:=
 aC 211 #[aD n,aD 0,aD 1000000000] σ (aI fun t3 σ2=>(rt σ2 R (.bool t3)))
def PP:MAn:=(aP (aP .leaf))
theorem Pt (σ:Hp) (n:Int) (R:aB) (h:Gj σ n R):Ag prog 160 #[aD n] σ R:=
 Af BY PP Tryz.func160 rfl (h:=h)
def FF (σ:Hp) (l_A:aA) (l_n l_c:Nat) (R:aB):Prop:=
 aC 33 #[aN l_A l_n l_c,(.func (.func 212) #[] #[])] σ (aI fun t3 σ2=>(rt σ2 R (.bool (!t3))))
def NE:MAn:=(aP (aP .leaf))
theorem NL (σ:Hp) (l_A:aA) (l_n l_c:Nat) (R:aB) (h:FF σ l_A l_n l_c R):Ag prog 161 #[aN l_A l_n l_c] σ R:=
 Af BY NE Tryz.func161 rfl (h:=h)
def DU (σ:Hp) (n:Int) (R:aB):Prop:=
 aC 160 #[aD n] σ (fun v1 σ2=>∃ t3:Bool,(v1=(.bool t3) /\
  rt σ2 R (.bool (!t3))))
def LT:MAn:=(aP (aP .leaf))
theorem K3 (σ:Hp) (n:Int) (R:aB) (h:DU σ n R):Ag prog 212 #[aD n] σ R:=
 Af BY LT Tryz.func212 rfl (h:=h)
def JW (σ:Hp) (l_A:aA) (l_n _:Nat) (R:aB):Prop:=
 aH (fun n4 σ2=>rt σ2 R (aD n4)) (fun J3=>∃ I7:Nat->Int->Int->Hp->Prop,(∃ n80,I7 n80 0 0 σ) /\
  ∀ n8 n9 n10 s6,I7 n8 n9 n10 s6->∀ _:Nat->Value,bc (decide (n10<(l_n:Int))) (ix l_A l_n n10 1 (fun b11 a12=>
  ldI s6 .i64 b11 a12 (fun n13=>wk .i64 (n9+n13) (fun n14=>wk .i64 (n10+1) (fun n15=>bk s6 n8 (fun m16 s17=>
  I7 m16 n14 n15 s17)))))) (J3 n9 s6))
def TB:MAn:=(aP (.cut ⟨[],0,[.slot 2 (.sc (.int .i64))],[]⟩ (aP (.block (.loop ⟨[],0,[.slot 2 (.sc (.int .i64)),.slot 7 (.sc (.int .i64))],[(5,true),(6,true)]⟩ (aP (.seq (.cond .leaf .leaf) (.seq (.block (aP (.txt []))) (.txt []))))))) (aP .leaf)))
theorem T9 (σ:Hp) (l_A:aA) (l_n l_c:Nat) (R:aB) (h:JW σ l_A l_n l_c R):Ag prog 214 #[aN l_A l_n l_c] σ R:=
 Af BY TB Tryz.func214 rfl (h:=h)
def EI (σ:Hp) (l_A:aA) (l_n l_c:Nat) (R:aB):Prop:=
 aC 211 #[(aD (l_n:Int)),aD 1,aD 10] σ (aI fun t3 σ2=>(bc t3 (aC 33 #[aN l_A l_n l_c,(.func (.func 213) #[] #[])] σ2 (aI fun t6 s5=>(bc (!t6) (aC 214 #[aN l_A l_n l_c] s5 (aJ fun n9 s8=>(rt s8 R (.bool (decide ((0:Int)<n9)))))) (rt s5 R (.bool false))))) (rt σ2 R (.bool false))))
def M6:MAn:=(aP (.seq (.txt [⟨[],false,[]⟩,⟨[],false,[]⟩,⟨[],false,[]⟩,⟨[],true,[]⟩,⟨[],false,[]⟩,⟨[],false,[]⟩,⟨[],false,[]⟩,⟨[],false,[]⟩,⟨[],true,[]⟩]) .leaf))
theorem My (σ:Hp) (l_A:aA) (l_n l_c:Nat) (R:aB) (h:EI σ l_A l_n l_c R):Ag prog 162 #[aN l_A l_n l_c] σ R:=
 Af BY M6 Tryz.func162 rfl (h:=h)
def Dz (σ:Hp) (n:Int) (R:aB):Prop:=
 aC 211 #[aD n,aD 0,aD 1000] σ (aI fun t3 σ2=>(rt σ2 R (.bool (!t3))))
def Kv:MAn:=(aP (aP .leaf))
theorem KD (σ:Hp) (n:Int) (R:aB) (h:Dz σ n R):Ag prog 213 #[aD n] σ R:=
 Af BY Kv Tryz.func213 rfl (h:=h)
def GM (σ:Hp) (cents:Int) (s1:aA) (y0 b2:Nat) (R:aB):Prop:=
 aC 214 #[aN s1 y0 b2] σ (fun v1 σ2=>∃ n3:Int,(v1=(aD n3) /\
  (0<=(y0:Int)/\(y0:Int)<=(y0:Int)/\(y0:Int)<=(1000000000:Int) /\
  (0<=(y0:Int)/\(y0:Int)<=(y0:Int)/\(y0:Int)<=(1000000000:Int) /\
  bx σ2 (.cells #[aD cents] 3) (fun b4 s5=>bx s5 (.cells #[aN s1 y0 b2] 26) (fun b6 s7=>
  bx s7 (.cells #[aD n3] 3) (fun b8 s9=>cut (α:=List Int->List Int->Hp->Prop) (fun xs13 xs14 s11=>
  ∀ _:Nat->Value,bx s11 (.cells #[(.func (.func 215) #[] #[(.pointer (some ⟨b4,0,none⟩)),(.pointer (some ⟨b6,0,none⟩)),(.pointer (some ⟨b8,0,none⟩))])] 260) (fun b15 s16=>
  exl 3 aM xs14 s16 (fun A17 l17 c17 s18=>aC 47 #[aN A17 l17 c17,(.func (.func 216) #[] #[(.pointer (some ⟨b15,0,none⟩))])] s18 (fun _ s20=>
  adp 3 aM A17 l17 c17 s20 (fun (xs21:List Int) s22=>cut (α:=List Int->Hp->Prop) (fun xs26 s24=>
  ∀ _:Nat->Value,exl 3 aM xs26 s24 (fun A27 l27 c27 s28=>rt s28 R (aN A27 l27 c27))) (fun J25=>
  ldI s22 .i64 b4 0 (fun n29=>exl 3 aM xs13 s22 (fun A30 l30 c30 s31=>aC 214 #[aN A30 l30 c30] s31 (aJ fun n34 s33=>((Hp.Sub s31 s33/\adp 3 aM A30 l30 c30 s33 (fun (xs35:List Int) s36=>
  wk .i64 (n29-n34) (fun n37=>(0<=n37/\n37<=((List.length xs21:Nat):Int)/\∃ I40:Nat->Int->List Int->Hp->Prop,(∃ n410,I40 n410 0 xs35 s36) /\
  ∀ n41 n42 xs43 s39,I40 n41 n42 xs43 s39->∀ _:Nat->Value,bc (decide (n42<((List.length (List.take (n37:Int).toNat xs21):Nat):Int))) ((0<=n42 /\
  n42<((List.length (List.take (n37:Int).toNat xs21):Nat):Int)/\lat (List.take (n37:Int).toNat xs21) ((n42:Int).toNat) (fun r44=>
  (0<=r44/\r44<((List.length xs43:Nat):Int)/\lat xs43 ((r44:Int).toNat) (fun r45=>wk .i64 (r45+1) (fun n46=>
  (0<=r44/\r44<((List.length xs43:Nat):Int)/\lat xs43 ((r44:Int).toNat) (fun _=>wk .i64 (n42+1) (fun n48=>
  bk s39 n41 (fun m49 s50=>I40 m49 n48 (List.set xs43 ((r44:Int).toNat) n46) s50)))))))))) (J25 xs43 s39))))))))))))))) (fun J12=>
  ldS s9 b6 0 (fun A51 l51 _=>∃ I54:Nat->Int->List Int->List Int->Hp->Prop,(∃ n550,I54 n550 0 (List.replicate ((y0:Int):Int).toNat 0:List Int) (List.replicate ((y0:Int):Int).toNat 0:List Int) s9) /\
  ∀ n55 n56 xs57 xs58 s53,I54 n55 n56 xs57 xs58 s53->∀ _:Nat->Value,bc (decide (n56<(l51:Int))) (ix A51 l51 n56 1 (fun b59 a60=>
  ldI s53 .i64 b59 a60 (fun n61=>ldI s53 .i64 b4 0 (fun n62=>wk .i64 (n62*n61) (fun n63=>ldI s53 .i64 b8 0 (fun n64=>
  (n64≠0/\wk .i64 (Int.tdiv n63 n64) (fun n65=>(0<=n56/\n56<((List.length xs57:Nat):Int) /\
  lat xs57 ((n56:Int).toNat) (fun _=>(0<=n56/\n56<((List.length xs58:Nat):Int)/\lat xs58 ((n56:Int).toNat) (fun _=>
  wk .i64 (n56+1) (fun n68=>bk s53 n55 (fun m69 s70=>I54 m69 n68 (List.set xs57 ((n56:Int).toNat) n65) (List.set xs58 ((n56:Int).toNat) n56) s70)))))))))))))) (J12 xs57 xs58 s53))))))))))
def BM:OA:=⟨[],false,[]⟩
def QW:MAn:=(aP (aP (aP (aP (aP (.cut ⟨[false,false,false,false,false,true],6,[.slot 6 (.hl 3 0),.slot 7 (.hl 4 0),.slot 8 (.hb 5 0),.modl 3 0 3 aM,.modl 4 0 3 aM],[(2,true)]⟩ (aP (.block (.loop ⟨[false,false,false,false,false,true],6,[.slot 6 (.hl 3 0),.slot 7 (.hl 4 0),.slot 8 (.hb 5 0),.slot 24 (.sc (.int .i64)),.modl 3 0 3 aM,.modl 4 0 3 aM],[(2,true),(5,true),(22,true),(23,true)]⟩ (aP (.seq (.cond .leaf .leaf) (.seq (.block (aP (aP (.txt [])))) (.txt []))))))) (.seq (.txt [BM,BM,⟨[],false,[.adl 7 3 aM]⟩]) (.cut ⟨[false,false,false,false,false,false,false],8,[.slot 6 (.lst 7 3 aM)],[]⟩ (.seq (.plan [] (.take 0 BM (.take 1 BM (.take 2 BM (.take 7 BM (.alt 3 true ⟨[],false,[.adl 6 3 aM]⟩ (.take 4 BM (.take 5 BM (.take 6 BM .done))) .done)))))) (.block (.loop ⟨[false,false,false,false,false,false,true,false],8,[.slot 6 (.hl 7 0),.slot 50 (.hl 6 1),.slot 52 (.sc (.int .i64)),.modl 7 0 3 aM],[(51,true)]⟩ (aP (.seq (.cond .leaf .leaf) (.seq (.block (aP (.txt []))) (.txt []))))))) (aP .leaf)))))))))
theorem Ri (σ:Hp) (cents:Int) (s1:aA) (y0 b2:Nat) (R:aB) (h:GM σ cents s1 y0 b2 R):Ag prog 163 #[aD cents,aN s1 y0 b2] σ R:=
 Af BY QW Tryz.func163 rfl (h:=h)
def Fc (σ:Hp) (i:Int) (cap0 cap1 cap2:aA) (R:aB):Prop:=
 dr cap0 (fun b1 o2=>ldI σ .i64 b1 o2 (fun n3=>dr cap1 (fun b4 o5=>ldS σ b4 o5 (fun A6 l6 _=>
  ix A6 l6 i 1 (fun b7 a8=>ldI σ .i64 b7 a8 (fun n9=>wk .i64 (n3*n9) (fun n10=>dr cap2 (fun b11 o12=>
  ldI σ .i64 b11 o12 (fun n13=>(n13≠0/\rt σ R (aD (Int.tmod n10 n13))))))))))))
def Bz:OA:=⟨[],false,[]⟩
def Nh:MAn:=(aP (.seq (.plan [] (tkYN1 9 0 Bz .done)) .leaf))
theorem No (σ:Hp) (i:Int) (cap0 cap1 cap2:aA) (R:aB) (h:Fc σ i cap0 cap1 cap2 R):Ag prog 215 #[aD i,.pointer cap0,.pointer cap1,.pointer cap2] σ R:=
 Af BY Nh Tryz.func215 rfl (h:=h)
def Fr (σ:Hp) (a b:Int) (cap0:aA) (R:aB):Prop:=
 dr cap0 (fun b1 o2=>ldV σ b1 o2 (fun v3=>dr cap0 (fun b4 o5=>ldV σ b4 o5 (fun v6=>cl prog v3 #[aD b] σ (aJ fun n9 s8=>((Hp.Sub σ s8/\cl prog v6 #[aD a] s8 (aJ fun n12 s11=>(aC 217 #[aD n9,aD n12] s11 (aJ fun n15 s14=>(rt s14 R (aD n15))))))))))))
def NH:MAn:=(aP (.seq (.plan [5,6] (.take 0 ⟨[],false,[]⟩ (.take 1 ⟨[],false,[]⟩ (.take 3 ⟨[],false,[]⟩ (.take 4 ⟨[],false,[]⟩ (.alt 2 true ⟨[],false,[]⟩ (.alt 5 false ⟨[],false,[]⟩ (.alt 6 false ⟨[],false,[]⟩ (.take 7 ⟨[],false,[]⟩ .done) .done) .done) .done)))))) .leaf))
theorem Ny (σ:Hp) (a b:Int) (cap0:aA) (R:aB) (h:Fr σ a b cap0 R):Ag prog 216 #[aD a,aD b,.pointer cap0] σ R:=
 Af BY NH Tryz.func216 rfl (h:=h)
def G4 (σ:Hp) (cents:Int) (s1:aA) (y0 b2:Nat) (R:aB):Prop:=
 aC 100 #[aD cents,aN none 0 0,aN s1 y0 b2] σ (fun v1 σ2=>
  ∃ A3:aA,∃ l3 c3:Nat,∃ A4:aA,∃ l4 c4:Nat,∃ n5:Int,(v1=(.tuple #[aN A3 l3 c3,aN A4 l4 c4,aD n5]) /\
  rt σ2 R (.tuple #[aN A4 l4 c4,aD n5])))
def QQ:MAn:=(aP (aP (aP .leaf)))
theorem Q1 (σ:Hp) (cents:Int) (s1:aA) (y0 b2:Nat) (R:aB) (h:G4 σ cents s1 y0 b2 R):Ag prog 56 #[aD cents,aN s1 y0 b2] σ R:=
 Af BY QQ Tryz.func56 rfl (h:=h)
def Gl (σ:Hp) (cents:Int) (f3:aA) (e3 g3:Nat) (s1:aA) (y0 b2:Nat) (R:aB):Prop:=
 cut (α:=aA->Nat->Nat->Hp->Prop) (fun A4 l4 c4 σ2=>∀ _:Nat->Value,aC 162 #[aN s1 y0 b2] σ2 (aI fun t7 s6=>(bc (!t7) (rt s6 R (.tuple #[aN none 0 0,aN none 0 0,aD 110])) (cut (α:=Int->aA->Nat->Nat->Hp->Prop) (fun n11 A12 l12 c12 s9=>
  ∀ _:Nat->Value,aC 163 #[aD n11,aN s1 y0 b2] s9 (aK fun A15 l15 c15 s14=>(rt s14 R (.tuple #[aN A12 l12 c12,aN A15 l15 c15,aD 0])))) (fun J10=>
  ∃ I18:Nat->Int->aA->Nat->Nat->Int->Hp->Prop,(∃ n190,I18 n190 cents A4 l4 c4 0 s6) /\
  ∀ n19 n20 A21 l21 c21 n22 s17,I18 n19 n20 A21 l21 c21 n22 s17->∀ _:Nat->Value,bc (decide (n22<(e3:Int))) (ix f3 e3 n22 1 (fun b23 a24=>
  ldI s17 .i64 b23 a24 (fun n25=>adp 3 aM A21 l21 c21 s17 (fun (xs26:List Int) s27=>Bh (List.length xs26+List.length ([(if n20<n25 then n20 else n25)]:List Int)) (wk .i64 (n20-(if n20<n25 then n20 else n25)) (fun n28=>
  wk .i64 (n22+1) (fun n29=>bk s27 n19 (fun m30 s31=>exl 3 aM (xs26++([(if n20<n25 then n20 else n25)]:List Int)) s31 (fun A32 l32 c32 s33=>
  I18 m30 n28 A32 l32 c32 n29 s33))))))))) (J10 n20 A21 l21 c21 s17)))))) (fun J3=>aG (fun t37 s35=>bc t37 (rt s35 R (.tuple #[aN none 0 0,aN none 0 0,aD 1])) (J3 none 0 0 s35)) (fun J36=>
  aC 160 #[aD cents] σ (fun v38 s39=>∃ t40:Bool,(v38=(.bool t40) /\
  bc (!t40) (J36 true s39) (bc (decide ((10:Int)<(e3:Int))) (J36 true s39) (aC 161 #[aN f3 e3 g3] s39 (aI fun t43 s42=>(J36 (!t43) s42))))))))
def Pq:MAn:=(aP (.cut ⟨[],0,[.slot 6 (.sc (.slc))],[(0,true),(1,true),(2,true)]⟩ (.cut ⟨[],0,[.slot 24 (.sc (.bool))],[(0,true),(1,true),(2,true),(6,true)]⟩ (.txt [⟨[],false,[]⟩,⟨[],false,[]⟩,⟨[],false,[]⟩,⟨[],true,[]⟩,⟨[],false,[]⟩,⟨[],false,[]⟩,⟨[],false,[]⟩,⟨[],false,[]⟩,⟨[],true,[]⟩]) (.cond (aP .leaf) .leaf)) (.seq (aP (.cond (aP .leaf) .leaf)) (.cut ⟨[],0,[.slot 0 (.sc (.int .i64)),.slot 6 (.sc (.slc))],[(2,true)]⟩ (aP (.block (.loop ⟨[],0,[.slot 0 (.sc (.int .i64)),.slot 6 (.sc (.slc)),.slot 30 (.sc (.int .i64))],[(2,true),(28,true),(29,true)]⟩ (aP (.seq (.cond .leaf .leaf) (.seq (.block (aP (aP (aP (.txt []))))) (.txt []))))))) (aP .leaf)))))
theorem Pj (σ:Hp) (cents:Int) (f3:aA) (e3 g3:Nat) (s1:aA) (y0 b2:Nat) (R:aB) (h:Gl σ cents f3 e3 g3 s1 y0 b2 R):Ag prog 100 #[aD cents,aN f3 e3 g3,aN s1 y0 b2] σ R:=
 Af BY Pq Tryz.func100 rfl (h:=h)
def Ih (σ:Hp) (n low high:Int) (R:aB):Prop:=
 bc (decide (low<=n)) (rt σ R (.bool (decide (n<=high)))) (rt σ R (.bool false))
def Sl:MAn:=(aP (.seq (.txt [⟨[],false,[]⟩,⟨[],false,[]⟩,⟨[],false,[]⟩,⟨[],true,[]⟩]) .leaf))
theorem Rv (σ:Hp) (n low high:Int) (R:aB) (h:Ih σ n low high R):Ag prog 165 #[aD n,aD low,aD high] σ R:=
 Af BY Sl Tryz.func165 rfl (h:=h)
def HZ (σ:Hp) (n:Int) (R:aB):Prop:=
 aC 165 #[aD n,aD 0,aD 1000000000] σ (aI fun t3 σ2=>(rt σ2 R (.bool t3)))
def Sq:MAn:=(aP (aP .leaf))
theorem Ru (σ:Hp) (n:Int) (R:aB) (h:HZ σ n R):Ag prog 102 #[aD n] σ R:=
 Af BY Sq Tryz.func102 rfl (h:=h)
def Gr (σ:Hp) (s1:aA) (y0 _:Nat) (R:aB):Prop:=
 aH (fun n4 σ2=>aC 165 #[(aD (y0:Int)),aD 1,aD 10] σ2 (aI fun t7 s6=>(bc t7 (rt s6 R (.bool (decide ((0:Int)<n4)))) (rt s6 R (.bool false))))) (fun J3=>
  ∃ I10:Nat->Int->Int->Hp->Prop,(∃ n110,I10 n110 0 0 σ)/\∀ n11 n12 n13 s9,I10 n11 n12 n13 s9->∀ _:Nat->Value,bc (decide (n13<(y0:Int))) (ix s1 y0 n13 1 (fun b14 a15=>
  ldI s9 .i64 b14 a15 (fun n16=>aC 165 #[aD n16,aD 0,aD 1000] s9 (aI fun t19 s18=>(bc (!t19) (rt s18 R (.bool false)) (ix s1 y0 n13 1 (fun b20 a21=>
  ldI s18 .i64 b20 a21 (fun n22=>wk .i64 (n12+n22) (fun n23=>wk .i64 (n13+1) (fun n24=>bk s18 n11 (fun m25 s26=>
  I10 m25 n23 n24 s26))))))))))) (J3 n12 s9))
def Pp:MAn:=(aP (aP (.cut ⟨[],0,[.slot 3 (.sc (.int .i64))],[(0,true)]⟩ (aP (.block (.loop ⟨[],0,[.slot 3 (.sc (.int .i64)),.slot 4 (.sc (.int .i64))],[(0,true)]⟩ (.seq (aP (.cond .leaf .leaf)) (.seq (.block (.seq (aP (.cond (aP .leaf) .leaf)) (.txt []))) (.txt [])))))) (.seq (.txt [⟨[],false,[]⟩,⟨[],false,[]⟩,⟨[],false,[]⟩,⟨[],true,[]⟩]) .leaf))))
theorem O6 (σ:Hp) (s1:aA) (y0 b2:Nat) (R:aB) (h:Gr σ s1 y0 b2 R):Ag prog 103 #[aN s1 y0 b2] σ R:=
 Af BY Pp Tryz.func103 rfl (h:=h)
def Oy (σ:Hp) (l_A:aA) (l_n _:Nat) (R:aB):Prop:=
 aH (fun n4 σ2=>rt σ2 R (aD n4)) (fun J3=>∃ I7:Nat->Int->Int->Hp->Prop,(∃ n80,I7 n80 0 0 σ) /\
  ∀ n8 n9 n10 s6,I7 n8 n9 n10 s6->∀ _:Nat->Value,bc (decide (n10<(l_n:Int))) (ix l_A l_n n10 1 (fun b11 a12=>
  ldI s6 .i64 b11 a12 (fun n13=>wk .i64 (n9+n13) (fun n14=>wk .i64 (n10+1) (fun n15=>bk s6 n8 (fun m16 s17=>
  I7 m16 n14 n15 s17)))))) (J3 n9 s6))
def Wq:MAn:=(aP (aP (.cut ⟨[],0,[.slot 3 (.sc (.int .i64))],[]⟩ (aP (.block (.loop ⟨[],0,[.slot 3 (.sc (.int .i64)),.slot 4 (.sc (.int .i64))],[(0,true)]⟩ (.seq (aP (.cond .leaf .leaf)) (.seq (.block (.txt [])) (.txt [])))))) (aP .leaf))))
theorem WF (σ:Hp) (l_A:aA) (l_n l_c:Nat) (R:aB) (h:Oy σ l_A l_n l_c R):Ag prog 60 #[aN l_A l_n l_c] σ R:=
 Af BY Wq Tryz.func60 rfl (h:=h)
def JN (σ:Hp) (cents:Int) (s1:aA) (y0 b2:Nat) (R:aB):Prop:=
 aC 60 #[aN s1 y0 b2] σ (fun v1 σ2=>∃ n3:Int,(v1=(aD n3) /\
  (0<=(y0:Int)/\(y0:Int)<=(y0:Int)/\(y0:Int)<=(1000000000:Int) /\
  (0<=(y0:Int)/\(y0:Int)<=(y0:Int)/\(y0:Int)<=(1000000000:Int) /\
  cut (α:=Int->List Int->Hp->Prop) (fun n7 xs8 s5=>∀ _:Nat->Value,cut (α:=List Int->Hp->Prop) (fun xs12 s10=>
  ∀ _:Nat->Value,exl 3 aM xs12 s10 (fun A13 l13 c13 s14=>rt s14 R (aN A13 l13 c13))) (fun J11=>
  ∃ I17:Nat->Int->List Int->List Bool->Hp->Prop,(∃ n180,I17 n180 n7 xs8 (List.replicate ((y0:Int):Int).toNat false:List Bool) s5) /\
  ∀ n18 n19 xs20 xs21 s16,I17 n18 n19 xs20 xs21 s16->∀ _:Nat->Value,bc (decide ((0:Int)<n19)) (cut (α:=List Int->List Bool->Hp->Prop) (fun xs25 xs26 s23=>
  ∀ _:Nat->Value,wk .i64 (n19-1) (fun n27=>bk s23 n18 (fun m28 s29=>I17 m28 n27 xs25 xs26 s29))) (fun J24=>
  aH (fun n33 s31=>(0<=n33/\n33<((List.length xs21:Nat):Int) /\
  lat xs21 ((n33:Int).toNat) (fun _=>(0<=n33/\n33<((List.length xs20:Nat):Int)/\lat xs20 ((n33:Int).toNat) (fun r35=>
  wk .i64 (r35+1) (fun n36=>(0<=n33/\n33<((List.length xs20:Nat):Int)/\lat xs20 ((n33:Int).toNat) (fun _=>
  J24 (List.set xs20 ((n33:Int).toNat) n36) (List.set xs21 ((n33:Int).toNat) true) s31)))))))) (fun J32=>
  ∃ I40:Nat->Int->Int->Hp->Prop,(∃ n410,I40 n410 (-1) 0 s16)/\∀ n41 n42 n43 s39,I40 n41 n42 n43 s39->∀ _:Nat->Value,bc (decide (n43<(y0:Int))) (aH (fun n47 s45=>wk .i64 (n43+1) (fun n48=>bk s45 n41 (fun m49 s50=>I40 m49 n47 n48 s50))) (fun J46=>
  aG (fun t54 s52=>bc t54 (J46 n43 s52) (J46 n42 s52)) (fun J53=>
  (0<=n43/\n43<((List.length xs21:Nat):Int)/\lat xs21 ((n43:Int).toNat) (fun r55=>bc (!r55) (bc (decide (n42<0)) (J53 true s39) (ix s1 y0 n43 1 (fun b56 a57=>
  ldI s39 .i64 b56 a57 (fun n58=>wk .i64 (cents*n58) (fun n59=>(n3≠0/\ix s1 y0 n42 1 (fun b60 a61=>
  ldI s39 .i64 b60 a61 (fun n62=>wk .i64 (cents*n62) (fun n63=>(n3≠0/\J53 (decide ((Int.tmod n63 n3)<(Int.tmod n59 n3))) s39)))))))))) (J53 false s39)))))) (J32 n42 s39)))) (J11 xs20 s16))) (fun J6=>
  ∃ I66:Nat->Int->Int->List Int->Hp->Prop,(∃ n670,I66 n670 cents 0 (List.replicate ((y0:Int):Int).toNat 0:List Int) σ2) /\
  ∀ n67 n68 n69 xs70 s65,I66 n67 n68 n69 xs70 s65->∀ _:Nat->Value,bc (decide (n69<(y0:Int))) (ix s1 y0 n69 1 (fun b71 a72=>
  ldI s65 .i64 b71 a72 (fun n73=>wk .i64 (cents*n73) (fun n74=>(n3≠0/\wk .i64 (Int.tdiv n74 n3) (fun n75=>
  (0<=n69/\n69<((List.length xs70:Nat):Int)/\lat xs70 ((n69:Int).toNat) (fun _=>(0<=n69 /\
  n69<((List.length (List.set xs70 ((n69:Int).toNat) n75):Nat):Int)/\lat (List.set xs70 ((n69:Int).toNat) n75) ((n69:Int).toNat) (fun r77=>
  wk .i64 (n68-r77) (fun n78=>wk .i64 (n69+1) (fun n79=>bk s65 n67 (fun m80 s81=>I66 m80 n78 n79 (List.set xs70 ((n69:Int).toNat) n75) s81))))))))))))) (J6 n68 xs70 s65))))))
def AT:OA:=⟨[],false,[]⟩
def S0:MAn:=(aP (aP (aP (aP (aP (.cut ⟨[false,true],2,[.slot 6 (.hl 0 0),.slot 7 (.hl 1 0),.slot 8 (.sc (.int .i64)),.modl 0 0 3 aM],[(0,true),(1,true),(5,true)]⟩ (aP (.block (.loop ⟨[false,true],2,[.slot 6 (.hl 0 0),.slot 7 (.hl 1 0),.slot 8 (.sc (.int .i64)),.slot 9 (.sc (.int .i64)),.modl 0 0 3 aM],[(0,true),(1,true),(5,true)]⟩ (.seq (aP (.cond .leaf .leaf)) (.seq (.block (aP (.txt []))) (.txt [])))))) (.cut ⟨[false,false],2,[.slot 6 (.hl 0 0),.modl 0 0 3 aM],[]⟩ (.block (.loop ⟨[false,false],2,[.slot 6 (.hl 0 0),.slot 7 (.hl 1 0),.slot 8 (.sc (.int .i64)),.modl 0 0 3 aM,.modl 1 0 4 [.bool]],[(0,true),(1,true),(5,true)]⟩ (.seq (aP (.cond .leaf .leaf)) (.cut ⟨[false,false],2,[.slot 6 (.hl 0 0),.slot 7 (.hl 1 0),.modl 0 0 3 aM,.modl 1 0 4 [.bool]],[(0,true),(1,true),(5,true),(8,true)]⟩ (.block (aP (.cut ⟨[true,true],2,[.slot 6 (.hl 0 0),.slot 7 (.hl 1 0),.slot 10 (.sc (.int .i64))],[(0,true),(1,true),(5,true),(8,true)]⟩ (aP (.block (.loop ⟨[true,true],2,[.slot 6 (.hl 0 0),.slot 7 (.hl 1 0),.slot 10 (.sc (.int .i64)),.slot 11 (.sc (.int .i64))],[(0,true),(1,true),(5,true),(8,true)]⟩ (.seq (aP (.cond .leaf .leaf)) (.cut ⟨[true,true],2,[.slot 6 (.hl 0 0),.slot 7 (.hl 1 0),.slot 10 (.sc (.int .i64))],[(0,true),(1,true),(5,true),(8,true),(11,true)]⟩ (.block (.cut ⟨[true,true],2,[.slot 6 (.hl 0 0),.slot 7 (.hl 1 0),.slot 81 (.sc (.bool))],[(0,true),(1,true),(5,true),(8,true),(10,true),(11,true)]⟩ (.plan [] (tkYN1 5 0 AT (.take 5 ⟨[],true,[]⟩ (.take 6 AT (.take 7 AT (.take 8 ⟨[],true,[]⟩ (tkYN1 19 9 AT .done))))))) (.cond (.txt []) .leaf))) (.txt [])))))) (aP (.txt []))))) (.txt []))))) (aP .leaf))))))))
theorem S4 (σ:Hp) (cents:Int) (s1:aA) (y0 b2:Nat) (R:aB) (h:JN σ cents s1 y0 b2 R):Ag prog 104 #[aD cents,aN s1 y0 b2] σ R:=
 Af BY S0 Tryz.func104 rfl (h:=h)
def JC (σ:Hp) (cents:Int) (s1:aA) (y0 b2:Nat) (R:aB):Prop:=
 aC 102 #[aD cents] σ (fun v1 σ2=>∃ t3:Bool,(v1=(.bool t3) /\
  bc (!t3) (rt σ2 R (.tuple #[aN none 0 0,aD 1])) (aC 103 #[aN s1 y0 b2] σ2 (aI fun t6 s5=>(bc (!t6) (rt s5 R (.tuple #[aN none 0 0,aD 110])) (aC 104 #[aD cents,aN s1 y0 b2] s5 (aK fun A9 l9 c9 s8=>(rt s8 R (.tuple #[aN A9 l9 c9,aD 0])))))))))
def TR:MAn:=(aP (.seq (aP (.cond (aP .leaf) .leaf)) (.seq (aP (.cond (aP .leaf) .leaf)) (aP .leaf))))
theorem Uw (σ:Hp) (cents:Int) (s1:aA) (y0 b2:Nat) (R:aB) (h:JC σ cents s1 y0 b2 R):Ag prog 59 #[aD cents,aN s1 y0 b2] σ R:=
 Af BY TR Tryz.func59 rfl (h:=h)
def Fw (σ:Hp) (x y:Int) (R:aB):Prop:=
 aC 210 #[aD x] σ (fun v1 σ2=>∃ t3:Bool,(v1=(.bool t3) /\
  aC 210 #[aD y] σ2 (fun v4 s5=>∃ t6:Bool,(v4=(.bool t6) /\
  bc t3 (bc t6 (rt s5 R (aD 0)) (rt s5 R (aD (-1)))) (bc t6 (rt s5 R (aD 1)) (bc (decide (x<y)) (rt s5 R (aD (-1))) (bc (decide (y<x)) (rt s5 R (aD 1)) (rt s5 R (aD 0)))))))))
def NC:MAn:=(aP (aP (aP (.seq (aP (.cond (.seq (aP (.cond (aP .leaf) .leaf)) (aP .leaf)) .leaf)) (.seq (aP (.cond (aP .leaf) .leaf)) (.seq (aP (.cond (aP .leaf) .leaf)) (.seq (aP (.cond (aP .leaf) .leaf)) (aP .leaf))))))))
theorem OF (σ:Hp) (x y:Int) (R:aB) (h:Fw σ x y R):Ag prog 217 #[aD x,aD y] σ R:=
 Af BY NC Tryz.func217 rfl (h:=h)
def GS (σ:Hp) (x:Int) (R:aB):Prop:=
 rt σ R (.bool (!decide (x=x)))
def Qe:MAn:=(aP (aP .leaf))
theorem QN (σ:Hp) (x:Int) (R:aB) (h:GS σ x R):Ag prog 210 #[aD x] σ R:=
 Af BY Qe Tryz.func210 rfl (h:=h)
end Go.Proofs.YtoelhdjloaknbaaGreat
