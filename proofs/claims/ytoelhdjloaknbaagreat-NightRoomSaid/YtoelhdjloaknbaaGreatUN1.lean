/- What this claim rests on. -/
import Derived.Test.YtoelhdjloaknbaaGreatUB11
namespace Go.Proofs.YtoelhdjloaknbaaGreat
set_option maxRecDepth 100000
open Go.RowKit Go.Proofs.Tryz
def aP (x:MAn):MAn:=.seq (.txt []) x
def tkUN1:Nat->Nat->OA->MPlan->MPlan
 |0,_,_,x=>x
 |n+1,i,a,x=>.take i a (tkUN1 n (i+1) a x)
theorem AP:prog.follows .mixedOrders=true:=by kernel_rfl
def Fb (σ:Hp) (n low high:Int) (R:aB):Prop:=
 bc (decide (low<=n)) (rt σ R (.bool (decide (n<=high)))) (rt σ R (.bool false))
def LR:MAn:=(aP (.seq (.txt [⟨[],false,[]⟩,⟨[],false,[]⟩,⟨[],false,[]⟩,⟨[],true,[]⟩]) .leaf))
theorem LC (σ:Hp) (n low high:Int) (R:aB) (h:Fb σ n low high R):Af prog 185 #[aD n,aD low,aD high] σ R:=
 Ae AP LR Tryz.func185 rfl (h:=h)
def Di (σ:Hp) (h2:aA) (g2 j2:Nat) (k2:aA) (i2 l2:Nat) (z1:aA) (u1 y1:Nat) (R:aB):Prop:=
 aG (fun t4 σ2=>cut (α:=aA->Bool->Hp->Prop) (fun p8 t9 s6=>
  ∀ _:Nat->Value,aG (fun t13 s11=>aF (fun s15=>rt s15 R (aD 0)) (fun J16=>aG (fun t20 s18=>bc t20 (rt s18 R (aD 100)) (J16 s18)) (fun J19=>bc t13 (J19 true s11) (dr p8 (fun b21 o22=>
  ldS s11 b21 (o22+2) (fun A23 l23 c23=>aC 33 #[aN A23 l23 c23,(.func (.func 241) #[] #[])] s11 (aI fun t26 s25=>(J19 t26 s25)))))))) (fun J12=>bc t9 (J12 true s6) (dr p8 (fun b27 o28=>
  ldS s6 b27 (o28+1) (fun A29 l29 c29=>aC 33 #[aN A29 l29 c29,(.func (.func 240) #[] #[])] s6 (aI fun t32 s31=>(J12 t32 s31))))))) (fun J7=>bc t4 (bx σ2 (.cells #[aN h2 g2 j2,aN k2 i2 l2,aN z1 u1 y1] 28) (fun b33 s34=>
  J7 (some ⟨b33,0,none⟩) true s34)) (bx σ2 (.cells #[aN h2 g2 j2,aN k2 i2 l2,aN z1 u1 y1] 28) (fun b35 s36=>
  aC 238 #[aN h2 g2 j2,(.func (.func 239) #[] #[(.pointer (some ⟨b35,0,none⟩))])] s36 (aI fun t39 s38=>(J7 (some ⟨b35,0,none⟩) t39 s38)))))) (fun J3=>bc (decide ((20:Int)<(g2:Int))) (J3 true σ) (bc (decide ((8:Int)<(i2:Int))) (J3 true σ) (J3 (decide ((10:Int)<(u1:Int))) σ)))
def AK:OA:=⟨[],false,[]⟩
def Js:MAn:=(aP (.cut ⟨[true],1,[.slot 1 (.hb 0 0),.slot 3 (.sc (.bool))],[]⟩ (.txt [AK,AK,AK,AK,⟨[],true,[]⟩,AK,AK,AK,AK,AK,⟨[],true,[]⟩]) (.cut ⟨[false],1,[.slot 1 (.sc (.ptr)),.slot 3 (.sc (.bool))],[]⟩ (.txt [AK,⟨[],true,[]⟩]) (.cut ⟨[false],1,[.slot 3 (.sc (.bool))],[(1,true)]⟩ (.txt [AK,⟨[],true,[]⟩]) (.cut ⟨[false],1,[],[]⟩ (.cut ⟨[false],1,[.slot 38 (.sc (.bool))],[]⟩ (.txt [AK,⟨[],true,[]⟩]) (.cond (aP .leaf) .leaf)) (aP .leaf))))))
theorem IS (σ:Hp) (h2:aA) (g2 j2:Nat) (k2:aA) (i2 l2:Nat) (z1:aA) (u1 y1:Nat) (R:aB) (h:Di σ h2 g2 j2 k2 i2 l2 z1 u1 y1 R):Af prog 183 #[(.agg #[aN h2 g2 j2,aN k2 i2 l2,aN z1 u1 y1])] σ R:=
 Ae AP Js Tryz.func183 rfl (h:=h)
def CC (σ:Hp) (a3 z2 d3:Int) (_:Bool) (cap0:aA) (R:aB):Prop:=
 dr cap0 (fun b1 o2=>ldS σ b1 (o2+2) (fun _ l3 _=>wk .i64 ((l3:Int)-1) (fun n4=>
  aC 185 #[aD a3,aD 0,aD n4] σ (aI fun t7 s6=>(bc (!t7) (rt s6 R (.bool true)) (aC 185 #[aD z2,aD 1,aD 10000] s6 (aI fun t10 s9=>(bc (!t10) (rt s9 R (.bool true)) (aC 185 #[aD d3,aD 0,aD 9] s9 (aI fun t13 s12=>(rt s12 R (.bool (!t13)))))))))))))
def AE:OA:=⟨[],false,[]⟩
def HJ:MAn:=(aP (.seq (.txt [AE,AE,AE,AE,AE,AE,AE,AE,⟨[],true,[]⟩,AE,AE,AE,AE,AE,⟨[],true,[]⟩]) .leaf))
theorem Hz (σ:Hp) (a3 z2 d3:Int) (e3:Bool) (cap0:aA) (R:aB) (h:CC σ a3 z2 d3 e3 cap0 R):Af prog 239 #[(.agg #[aD a3,aD z2,aD d3,.bool e3]),.pointer cap0] σ R:=
 Ae AP HJ Tryz.func239 rfl (h:=h)
def CA (σ:Hp) (n:Int) (R:aB):Prop:=
 aC 185 #[aD n,aD 0,aD 9] σ (aI fun t3 σ2=>(rt σ2 R (.bool (!t3))))
def HL:MAn:=(aP (aP .leaf))
theorem HV (σ:Hp) (n:Int) (R:aB) (h:CA σ n R):Af prog 240 #[aD n] σ R:=
 Ae AP HL Tryz.func240 rfl (h:=h)
def Cx (σ:Hp) (n:Int) (R:aB):Prop:=
 aC 185 #[aD n,aD 0,aD 10000] σ (aI fun t3 σ2=>(rt σ2 R (.bool (!t3))))
def HE:MAn:=(aP (aP .leaf))
theorem Hl (σ:Hp) (n:Int) (R:aB) (h:Cx σ n R):Af prog 241 #[aD n] σ R:=
 Ae AP HE Tryz.func241 rfl (h:=h)
def DS (σ:Hp) (_:aA) (_ _:Nat) (_:aA) (_ _:Nat) (_:aA) (a0 _:Nat) (_:aA) (_ _:Nat) (n:Int) (R:aB):Prop:=
 wk .i64 ((a0:Int)-1) (fun n1=>aC 185 #[aD n,aD 0,aD n1] σ (aI fun t4 s3=>(rt s3 R (.bool t4))))
def Ka:MAn:=(aP (aP .leaf))
theorem JG (σ:Hp) (e0:aA) (d0 h0:Nat) (g0:aA) (f0 i0:Nat) (b0:aA) (a0 c0:Nat) (k0:aA) (j0 l0:Nat) (n:Int) (R:aB) (h:DS σ e0 d0 h0 g0 f0 i0 b0 a0 c0 k0 j0 l0 n R):Af prog 243 #[(.agg #[aN e0 d0 h0,aN g0 f0 i0,aN b0 a0 c0,aN k0 j0 l0]),aD n] σ R:=
 Ae AP Ka Tryz.func243 rfl (h:=h)
def CP (σ:Hp) (_:aA) (_ _:Nat) (_:aA) (f0 _:Nat) (_:aA) (_ _:Nat) (_:aA) (_ _:Nat) (n:Int) (R:aB):Prop:=
 wk .i64 ((f0:Int)-1) (fun n1=>aC 185 #[aD n,aD 0,aD n1] σ (aI fun t4 s3=>(rt s3 R (.bool t4))))
def Ia:MAn:=(aP (aP .leaf))
theorem Iz (σ:Hp) (e0:aA) (d0 h0:Nat) (g0:aA) (f0 i0:Nat) (b0:aA) (a0 c0:Nat) (k0:aA) (j0 l0:Nat) (n:Int) (R:aB) (h:CP σ e0 d0 h0 g0 f0 i0 b0 a0 c0 k0 j0 l0 n R):Af prog 245 #[(.agg #[aN e0 d0 h0,aN g0 f0 i0,aN b0 a0 c0,aN k0 j0 l0]),aD n] σ R:=
 Ae AP Ia Tryz.func245 rfl (h:=h)
def Et (σ:Hp) (e0:aA) (d0 h0:Nat) (g0:aA) (f0 i0:Nat) (b0:aA) (a0 c0:Nat) (k0:aA) (j0 l0:Nat) (rule n:Int) (R:aB):Prop:=
 aC 245 #[(.agg #[aN e0 d0 h0,aN g0 f0 i0,aN b0 a0 c0,aN k0 j0 l0]),aD n] σ (aI fun t3 σ2=>(bc t3 (ix g0 f0 n 1 (fun b4 a5=>ldI σ2 .i64 b4 a5 (fun n6=>
  ix e0 d0 rule 4 (fun b7 a8=>ldI σ2 .i64 b7 (a8+2) (fun n9=>rt σ2 R (.bool (decide (n9<=n6)))))))) (rt σ2 R (.bool false))))
def AA:OA:=⟨[],false,[]⟩
def K6:MAn:=(aP (.seq (.plan [2] (.take 0 AA (.take 1 AA (.alt 2 false AA (.take 3 ⟨[],true,[]⟩ (tkUN1 16 4 AA .done)) .done)))) .leaf))
theorem K0 (σ:Hp) (e0:aA) (d0 h0:Nat) (g0:aA) (f0 i0:Nat) (b0:aA) (a0 c0:Nat) (k0:aA) (j0 l0:Nat) (rule n:Int) (R:aB) (h:Et σ e0 d0 h0 g0 f0 i0 b0 a0 c0 k0 j0 l0 rule n R):Af prog 271 #[(.agg #[aN e0 d0 h0,aN g0 f0 i0,aN b0 a0 c0,aN k0 j0 l0]),aD rule,aD n] σ R:=
 Ae AP K6 Tryz.func271 rfl (h:=h)
def Dg (σ:Hp) (e0:aA) (d0 h0:Nat) (g0:aA) (f0 i0:Nat) (b0:aA) (a0 c0:Nat) (k0:aA) (j0 l0:Nat) (rule a b:Int) (R:aB):Prop:=
 ix e0 d0 rule 4 (fun b1 a2=>ldB σ b1 (a2+3) (fun t3=>bc (!t3) (aC 271 #[(.agg #[aN e0 d0 h0,aN g0 f0 i0,aN b0 a0 c0,aN k0 j0 l0]),aD rule,aD a] σ (aI fun t6 s5=>(bc t6 (rt s5 R (.bool (decide (b=(-1))))) (rt s5 R (.bool false))))) (aC 271 #[(.agg #[aN e0 d0 h0,aN g0 f0 i0,aN b0 a0 c0,aN k0 j0 l0]),aD rule,aD a] σ (aI fun t9 s8=>(bc t9 (aC 271 #[(.agg #[aN e0 d0 h0,aN g0 f0 i0,aN b0 a0 c0,aN k0 j0 l0]),aD rule,aD b] s8 (aI fun t12 s11=>(bc t12 (rt s11 R (.bool (!decide (a=b)))) (rt s11 R (.bool false))))) (rt s8 R (.bool false)))))))
def AH:OA:=⟨[],false,[]⟩
def IP:MAn:=(aP (.seq (aP (.cond (.seq (.txt [AH,AH,AH,AH,⟨[],true,[]⟩]) .leaf) .leaf)) (.seq (.txt [AH,AH,AH,AH,⟨[],true,[]⟩,AH,AH,AH,AH,AH,⟨[],true,[]⟩]) .leaf)))
theorem IH (σ:Hp) (e0:aA) (d0 h0:Nat) (g0:aA) (f0 i0:Nat) (b0:aA) (a0 c0:Nat) (k0:aA) (j0 l0:Nat) (rule a b:Int) (R:aB) (h:Dg σ e0 d0 h0 g0 f0 i0 b0 a0 c0 k0 j0 l0 rule a b R):Af prog 242 #[(.agg #[aN e0 d0 h0,aN g0 f0 i0,aN b0 a0 c0,aN k0 j0 l0]),aD rule,aD a,aD b] σ R:=
 Ae AP IP Tryz.func242 rfl (h:=h)
def CT (σ:Hp) (_:aA) (_ _:Nat) (_:aA) (_ _:Nat) (_:aA) (_ _:Nat) (k0:aA) (j0 l0:Nat) (n:Int) (R:aB):Prop:=
 bx σ (.cells #[aD n] 3) (fun b1 σ2=>aC 272 #[aN k0 j0 l0,(.func (.func 273) #[] #[(.pointer (some ⟨b1,0,none⟩))])] σ2 (aI fun t5 s4=>(rt s4 R (.bool t5))))
def H6:MAn:=(aP (aP .leaf))
theorem H2 (σ:Hp) (e0:aA) (d0 h0:Nat) (g0:aA) (f0 i0:Nat) (b0:aA) (a0 c0:Nat) (k0:aA) (j0 l0:Nat) (n:Int) (R:aB) (h:CT σ e0 d0 h0 g0 f0 i0 b0 a0 c0 k0 j0 l0 n R):Af prog 244 #[(.agg #[aN e0 d0 h0,aN g0 f0 i0,aN b0 a0 c0,aN k0 j0 l0]),aD n] σ R:=
 Ae AP H6 Tryz.func244 rfl (h:=h)
def Co (σ:Hp) (_ p2 x_A _ _:Int) (cap0:aA) (R:aB):Prop:=
 bc (decide (p2=3)) (dr cap0 (fun b1 o2=>ldI σ .i64 b1 o2 (fun n3=>rt σ R (.bool (decide (x_A=n3)))))) (rt σ R (.bool false))
def G4:MAn:=(aP (.seq (.txt [⟨[],false,[]⟩,⟨[],false,[]⟩,⟨[],false,[]⟩,⟨[],true,[]⟩]) .leaf))
theorem GX (σ:Hp) (x2 p2 x_A x_B x_C:Int) (cap0:aA) (R:aB) (h:Co σ x2 p2 x_A x_B x_C cap0 R):Af prog 273 #[(.agg #[aD x2,aD p2,aD x_A,aD x_B,aD x_C]),.pointer cap0] σ R:=
 Ae AP G4 Tryz.func273 rfl (h:=h)
def Dj (σ:Hp) (e0:aA) (d0 h0:Nat) (g0:aA) (f0 i0:Nat) (b0:aA) (a0 c0:Nat) (k0:aA) (j0 l0:Nat) (x2 p2 x_A x_B x_C:Int) (R:aB):Prop:=
 aH (fun n4 σ2=>aC 185 #[aD x2,aD n4,aD 10000] σ2 (aI fun t7 s6=>(bc (!t7) (rt s6 R (.bool false)) (bc (decide (p2=1)) (wk .i64 ((d0:Int)-1) (fun n8=>
  aC 185 #[aD x_A,aD 0,aD n8] s6 (aI fun t11 s10=>(bc t11 (aC 242 #[(.agg #[aN e0 d0 h0,aN g0 f0 i0,aN b0 a0 c0,aN k0 j0 l0]),aD x_A,aD x_B,aD x_C] s10 (aI fun t14 s13=>(rt s13 R (.bool t14)))) (rt s10 R (.bool false)))))) (bc (decide (p2=2)) (aC 243 #[(.agg #[aN e0 d0 h0,aN g0 f0 i0,aN b0 a0 c0,aN k0 j0 l0]),aD x_A] s6 (aI fun t17 s16=>(bc t17 (aC 185 #[aD x_B,aD 1,aD 3] s16 (aI fun t20 s19=>(bc t20 (rt s19 R (.bool (decide (x_C=0)))) (rt s19 R (.bool false))))) (rt s16 R (.bool false))))) (bc (decide (p2=3)) (wk .i64 ((j0:Int)-1) (fun n21=>
  aC 185 #[aD x_A,aD 0,aD n21] s6 (aI fun t24 s23=>(bc t24 (ix k0 j0 x_A 5 (fun b25 a26=>ldI s23 .i64 b25 (a26+1) (fun n27=>
  bc (decide (n27=2)) (aC 244 #[(.agg #[aN e0 d0 h0,aN g0 f0 i0,aN b0 a0 c0,aN k0 j0 l0]),aD x_A] s23 (aI fun t30 s29=>(bc (!t30) (aC 245 #[(.agg #[aN e0 d0 h0,aN g0 f0 i0,aN b0 a0 c0,aN k0 j0 l0]),aD x_B] s29 (aI fun t33 s32=>(bc t33 (rt s32 R (.bool (decide (x_C=0)))) (rt s32 R (.bool false))))) (rt s29 R (.bool false))))) (rt s23 R (.bool false))))) (rt s23 R (.bool false)))))) (bc (decide (p2=4)) (aC 243 #[(.agg #[aN e0 d0 h0,aN g0 f0 i0,aN b0 a0 c0,aN k0 j0 l0]),aD x_A] s6 (aI fun t36 s35=>(bc t36 (aC 245 #[(.agg #[aN e0 d0 h0,aN g0 f0 i0,aN b0 a0 c0,aN k0 j0 l0]),aD x_B] s35 (aI fun t39 s38=>(bc t39 (rt s38 R (.bool (decide (x_C=0)))) (rt s38 R (.bool false))))) (rt s35 R (.bool false))))) (bc (decide (p2=5)) (aC 243 #[(.agg #[aN e0 d0 h0,aN g0 f0 i0,aN b0 a0 c0,aN k0 j0 l0]),aD x_A] s6 (aI fun t42 s41=>(bc t42 (aC 185 #[aD x_B,aD 0,aD 10000] s41 (aI fun t45 s44=>(bc t45 (rt s44 R (.bool (decide (x_C=0)))) (rt s44 R (.bool false))))) (rt s41 R (.bool false))))) (bc (decide (p2=6)) (aC 243 #[(.agg #[aN e0 d0 h0,aN g0 f0 i0,aN b0 a0 c0,aN k0 j0 l0]),aD x_A] s6 (aI fun t48 s47=>(bc t48 (bc (decide (x_B=0)) (rt s47 R (.bool (decide (x_C=0)))) (rt s47 R (.bool false))) (rt s47 R (.bool false))))) (rt s6 R (.bool false))))))))))) (fun J3=>
  bc (decide ((0:Int)<(j0:Int))) (wk .i64 ((j0:Int)-1) (fun n49=>
  ix k0 j0 n49 5 (fun b50 a51=>ldI σ .i64 b50 a51 (fun n52=>J3 n52 σ)))) (J3 0 σ))
def Ad:OA:=⟨[],false,[]⟩
def Cp:MAn:=(.seq (.txt [Ad,Ad,Ad,Ad,⟨[],true,[]⟩,Ad,Ad,Ad,Ad,⟨[],true,[]⟩]) .leaf)
def IM:MAn:=(aP (aP (.cut ⟨[true,true],2,[.slot 2 (.hb 0 0),.slot 3 (.hb 1 0),.slot 5 (.sc (.int .i64))],[]⟩ (aP (aP (.cond (.txt []) .leaf))) (.seq (aP (.cond (aP .leaf) .leaf)) (.seq (aP (.block (aP (.cond (.seq (.txt [Ad,Ad,Ad,Ad,Ad,Ad,Ad,Ad,⟨[],true,[]⟩]) .leaf) (aP (.cond Cp (aP (.cond (.seq (.txt [Ad,Ad,Ad,Ad,Ad,Ad,Ad,⟨[],true,[]⟩,Ad,Ad,Ad,Ad,Ad,Ad,Ad,Ad,Ad,⟨[],true,[]⟩,Ad,Ad,Ad,Ad,Ad,Ad,⟨[],true,[]⟩,Ad,Ad,Ad,Ad,Ad,⟨[],true,[]⟩]) .leaf) (aP (.cond (.seq (.txt [Ad,Ad,Ad,Ad,⟨[],true,[]⟩,Ad,Ad,Ad,Ad,Ad,⟨[],true,[]⟩]) .leaf) (aP (.cond Cp (aP (.cond Cp .leaf)))))))))))))) (aP .leaf))))))
theorem Jq (σ:Hp) (e0:aA) (d0 h0:Nat) (g0:aA) (f0 i0:Nat) (b0:aA) (a0 c0:Nat) (k0:aA) (j0 l0:Nat) (x2 p2 x_A x_B x_C:Int) (R:aB) (h:Dj σ e0 d0 h0 g0 f0 i0 b0 a0 c0 k0 j0 l0 x2 p2 x_A x_B x_C R):Af prog 184 #[(.agg #[aN e0 d0 h0,aN g0 f0 i0,aN b0 a0 c0,aN k0 j0 l0]),(.agg #[aD x2,aD p2,aD x_A,aD x_B,aD x_C])] σ R:=
 Ae AP IM Tryz.func184 rfl (h:=h)
def E6 (σ:Hp) (h2:aA) (g2 j2:Nat) (k2:aA) (i2 l2:Nat) (z1:aA) (u1 y1:Nat) (s2:aA) (r2 _:Nat) (R:aB):Prop:=
 aC 183 #[(.agg #[aN h2 g2 j2,aN k2 i2 l2,aN z1 u1 y1])] σ (aJ fun n3 σ2=>(bc (!decide (n3=0)) (rt σ2 R (.tuple #[(.agg #[aN none 0 0,aN none 0 0,aN none 0 0,aN none 0 0]),aD 0,aD n3])) (bc (decide ((100:Int)<(r2:Int))) (rt σ2 R (.tuple #[(.agg #[aN none 0 0,aN none 0 0,aN none 0 0,aN none 0 0]),aD 0,aD 2])) (cut (α:=aA->Nat->Nat->aA->Nat->Nat->aA->Nat->Nat->List (Int×Int×Int×Int×Int)->Hp->Prop) (fun A7 l7 c7 A8 l8 c8 A9 l9 c9 xs10 s5=>
  ∀ _:Nat->Value,exl 136 [.int .i64,.int .i64,.int .i64,.int .i64,.int .i64] xs10 s5 (fun A11 l11 c11 s12=>
  rt s12 R (.tuple #[(.agg #[aN A7 l7 c7,aN A8 l8 c8,aN A9 l9 c9,aN A11 l11 c11]),aD 0,aD 0]))) (fun J6=>
  ∃ I15:Nat->Int->aA->Nat->Nat->aA->Nat->Nat->aA->Nat->Nat->List (Int×Int×Int×Int×Int)->Hp->Prop,(∃ n160,adp 136 [.int .i64,.int .i64,.int .i64,.int .i64,.int .i64] none 0 0 σ2 (fun (xs17:List (Int×Int×Int×Int×Int)) s18=>
  I15 n160 0 h2 g2 j2 k2 i2 l2 z1 u1 y1 xs17 s18)) /\
  ∀ n16 n19 A20 l20 c20 A21 l21 c21 A22 l22 c22 xs23 s14,I15 n16 n19 A20 l20 c20 A21 l21 c21 A22 l22 c22 xs23 s14->∀ _:Nat->Value,bc (decide (n19<(r2:Int))) (ix s2 r2 n19 5 (fun b24 a25=>
  ldI s14 .i64 b24 a25 (fun n26=>ldI s14 .i64 b24 (a25+1) (fun n27=>ldI s14 .i64 b24 (a25+2) (fun n28=>
  ldI s14 .i64 b24 (a25+3) (fun n29=>ldI s14 .i64 b24 (a25+4) (fun n30=>exl 136 [.int .i64,.int .i64,.int .i64,.int .i64,.int .i64] xs23 s14 (fun A31 l31 c31 s32=>
  aC 184 #[(.agg #[aN A20 l20 c20,aN A21 l21 c21,aN A22 l22 c22,aN A31 l31 c31]),(.agg #[aD n26,aD n27,aD n28,aD n29,aD n30])] s32 (aI fun t35 s34=>(bc (!t35) (rt s34 R (.tuple #[(.agg #[aN A20 l20 c20,aN A21 l21 c21,aN A22 l22 c22,aN A31 l31 c31]),aD n19,aD 101])) (adp 136 [.int .i64,.int .i64,.int .i64,.int .i64,.int .i64] A31 l31 c31 s34 (fun (xs36:List (Int×Int×Int×Int×Int)) s37=>
  AZ (List.length xs36+List.length ([(n26,n27,n28,n29,n30)]:List (Int×Int×Int×Int×Int))) (wk .i64 (n19+1) (fun n38=>
  bk s37 n16 (fun m39 s40=>I15 m39 n38 A20 l20 c20 A21 l21 c21 A22 l22 c22 (xs36++([(n26,n27,n28,n29,n30)]:List (Int×Int×Int×Int×Int))) s40))))))))))))))) (J6 A20 l20 c20 A21 l21 c21 A22 l22 c22 xs23 s14))))))
def LL:MAn:=(aP (.seq (aP (aP (.cond (aP .leaf) .leaf))) (.seq (aP (.cond (aP .leaf) .leaf)) (aP (.cut ⟨[true,false],3,[.slot 4 (.hb 1 0),.modb 1 208 [.sc (.slc),.sc (.slc),.sc (.slc),.lst 2 136 [.int .i64,.int .i64,.int .i64,.int .i64,.int .i64]]],[]⟩ (aP (.block (.loop ⟨[true,false],3,[.slot 4 (.hb 1 0),.slot 24 (.sc (.int .i64)),.modb 1 208 [.sc (.slc),.sc (.slc),.sc (.slc),.lst 2 136 [.int .i64,.int .i64,.int .i64,.int .i64,.int .i64]]],[(22,true),(23,true)]⟩ (aP (.seq (.cond .leaf .leaf) (.seq (.block (aP (.seq (aP (.cond (aP .leaf) .leaf)) (.txt [])))) (.txt []))))))) (aP .leaf))))))
theorem Ly (σ:Hp) (h2:aA) (g2 j2:Nat) (k2:aA) (i2 l2:Nat) (z1:aA) (u1 y1:Nat) (s2:aA) (r2 t2:Nat) (R:aB) (h:E6 σ h2 g2 j2 k2 i2 l2 z1 u1 y1 s2 r2 t2 R):Af prog 128 #[(.agg #[aN h2 g2 j2,aN k2 i2 l2,aN z1 u1 y1]),aN s2 r2 t2] σ R:=
 Ae AP LL Tryz.func128 rfl (h:=h)
def FH (σ:Hp) (h2:aA) (g2 j2:Nat) (k2:aA) (i2 l2:Nat) (z1:aA) (u1 y1:Nat) (l_A:aA) (l_n l_c:Nat) (R:aB):Prop:=
 aC 128 #[(.agg #[aN h2 g2 j2,aN k2 i2 l2,aN z1 u1 y1]),aN l_A l_n l_c] σ (fun v1 σ2=>
  ∃ A3:aA,∃ l3 c3:Nat,∃ A4:aA,∃ l4 c4:Nat,∃ A5:aA,∃ l5 c5:Nat,∃ A6:aA,∃ l6 c6:Nat,∃ n7 n8:Int,(v1=(.tuple #[(.agg #[aN A3 l3 c3,aN A4 l4 c4,aN A5 l5 c5,aN A6 l6 c6]),aD n7,aD n8]) /\
  rt σ2 R (.tuple #[aD n7,aD n8])))
def MS:MAn:=(aP (aP (aP .leaf)))
theorem L5 (σ:Hp) (h2:aA) (g2 j2:Nat) (k2:aA) (i2 l2:Nat) (z1:aA) (u1 y1:Nat) (l_A:aA) (l_n l_c:Nat) (R:aB) (h:FH σ h2 g2 j2 k2 i2 l2 z1 u1 y1 l_A l_n l_c R):Af prog 69 #[(.agg #[aN h2 g2 j2,aN k2 i2 l2,aN z1 u1 y1]),aN l_A l_n l_c] σ R:=
 Ae AP MS Tryz.func69 rfl (h:=h)
def Ff (σ:Hp) (e0:aA) (d0 h0:Nat) (g0:aA) (f0 i0:Nat) (b0:aA) (a0 c0:Nat) (k0:aA) (j0 l0:Nat) (day:Int) (R:aB):Prop:=
 bx σ (.cells #[aD day] 3) (fun b1 σ2=>aC 246 #[aN k0 j0 l0,(.func (.func 247) #[] #[(.pointer (some ⟨b1,0,none⟩))])] σ2 (aJ fun n5 s4=>(cut (α:=aA->Nat->Nat->aA->Nat->Nat->aA->Nat->Nat->aA->Nat->Nat->Hp->Prop) (fun A9 l9 c9 A10 l10 c10 A11 l11 c11 A12 l12 c12 s7=>
  ∀ _:Nat->Value,rt s7 R (.agg #[aN A9 l9 c9,aN A10 l10 c10,aN A11 l11 c11,aN A12 l12 c12])) (fun J8=>
  bc (decide ((0:Int)<=n5)) ((0<=n5/\n5<=(l0:Int)/\J8 e0 d0 h0 g0 f0 i0 b0 a0 c0 k0 ((n5:Int).toNat) l0 s4)) (J8 e0 d0 h0 g0 f0 i0 b0 a0 c0 k0 j0 l0 s4)))))
def LH:MAn:=(aP (aP (.cut ⟨[false,false,true],3,[.slot 2 (.hb 0 0),.slot 4 (.hb 2 0),.modb 0 208 [.sc (.slc),.sc (.slc),.sc (.slc),.sc (.slc)]],[]⟩ (aP (.cond (.txt []) .leaf)) (aP .leaf))))
theorem LS (σ:Hp) (e0:aA) (d0 h0:Nat) (g0:aA) (f0 i0:Nat) (b0:aA) (a0 c0:Nat) (k0:aA) (j0 l0:Nat) (day:Int) (R:aB) (h:Ff σ e0 d0 h0 g0 f0 i0 b0 a0 c0 k0 j0 l0 day R):Af prog 186 #[(.agg #[aN e0 d0 h0,aN g0 f0 i0,aN b0 a0 c0,aN k0 j0 l0]),aD day] σ R:=
 Ae AP LH Tryz.func186 rfl (h:=h)
def DY (σ:Hp) (x2 _ _ _ _:Int) (cap0:aA) (R:aB):Prop:=
 dr cap0 (fun b1 o2=>ldI σ .i64 b1 o2 (fun n3=>rt σ R (.bool (decide (n3<x2)))))
def JN:MAn:=(aP (aP .leaf))
theorem Kb (σ:Hp) (x2 p2 x_A x_B x_C:Int) (cap0:aA) (R:aB) (h:DY σ x2 p2 x_A x_B x_C cap0 R):Af prog 247 #[(.agg #[aD x2,aD p2,aD x_A,aD x_B,aD x_C]),.pointer cap0] σ R:=
 Ae AP JN Tryz.func247 rfl (h:=h)
def GQ (σ:Hp) (e0:aA) (d0 h0:Nat) (g0:aA) (f0 i0:Nat) (b0:aA) (a0 c0:Nat) (k0:aA) (j0 l0:Nat) (R:aB):Prop:=
 bx σ (.cells #[aN e0 d0 h0,aN g0 f0 i0,aN b0 a0 c0,aN k0 j0 l0] 208) (fun b1 σ2=>
  rt σ2 R (.func (.func 275) #[] #[(.pointer (some ⟨b1,0,none⟩))]))
def JL:MAn:=(aP (aP .leaf))
theorem Kh (σ:Hp) (e0:aA) (d0 h0:Nat) (g0:aA) (f0 i0:Nat) (b0:aA) (a0 c0:Nat) (k0:aA) (j0 l0:Nat) (R:aB) (h:GQ σ e0 d0 h0 g0 f0 i0 b0 a0 c0 k0 j0 l0 R):Af prog 250 #[(.agg #[aN e0 d0 h0,aN g0 f0 i0,aN b0 a0 c0,aN k0 j0 l0])] σ R:=
 Ae AP JL Tryz.func250 rfl (h:=h)
def CZ (σ:Hp) (yield:Value) (cap0:aA) (R:aB):Prop:=
 one yield (dr cap0 (fun b1 o2=>ldS σ b1 (o2+3) (fun A3 l3 c3=>aC 276 #[aN A3 l3 c3] σ (fun v4 s5=>
  ∃ v6:Value,(v4=v6/\bx s5 (.cells #[yield] 257) (fun b7 s8=>YF prog v6 s8 (fun l9 Rec10 ag11 s12 R13=>
  ∃ n17 n18:Int,∃ n19 n20:Int,∃ n21 n22:Int,(ag11=#[aD n17,(.agg #[aD n18,aD n19,aD n20,aD n21,aD n22])] /\
  ∀ _:Nat->Value,rgb l9 Rec10 s12 (fun s23=>ldV s23 b7 0 (fun v24=>cl prog v24 #[(.agg #[aD n18,aD n19,aD n20,aD n21,aD n22])] s23 (aI fun t27 s26=>(bc (!t27) (rgx l9 Rec10 R13 s26 .ret) (rgo l9 Rec10 R13 s26))))))) (fun p14 s15=>
  aft p14 (rt s15 R (.tuple #[])) (rt s15 R (.tuple #[])) (fun i=>exb i 0 (rt s15 R (.tuple #[])) (False)))))))))
def Iv:MAn:=(aP (aP (.block (.rng [.exp 2] [(2,true)] [3,136] (.txt []) (.block (aP (.cond .leaf .leaf)))))))
theorem H9 (σ:Hp) (yield:Value) (cap0:aA) (R:aB) (h:CZ σ yield cap0 R):Af prog 275 #[yield,.pointer cap0] σ R:=
 Ae AP Iv Tryz.func275 rfl (h:=h)
def DL (σ:Hp) (e0:aA) (d0 h0:Nat) (g0:aA) (f0 i0:Nat) (b0:aA) (a0 c0:Nat) (k0:aA) (j0 l0:Nat) (ride:Int) (wanted:Value) (R:aB):Prop:=
 one wanted (cut (α:=aA->Hp->Prop) (fun p4 σ2=>∀ _:Nat->Value,dr p4 (fun b5 o6=>
  st σ2 b5 o6 (aD (-1)) (fun s7=>dr p4 (fun b8 o9=>ldI s7 .i64 b8 o9 (fun n10=>rt s7 R (aD n10)))))) (fun J3=>
  aC 250 #[(.agg #[aN e0 d0 h0,aN g0 f0 i0,aN b0 a0 c0,aN k0 j0 l0])] σ (fun v11 s12=>
  ∃ v13:Value,(v11=v13/\bx s12 (.cells #[aD ride] 3) (fun b14 s15=>bx s15 (.cells #[wanted] 257) (fun b16 s17=>
  bx s17 (.cells #[aD 0] 3) (fun b18 s19=>YF prog v13 s19 (fun l20 Rec21 ag22 s23 R24=>
  ∃ n28 n29:Int,∃ n30 n31 n32:Int,(ag22=#[(.agg #[aD n28,aD n29,aD n30,aD n31,aD n32])] /\
  ∀ _:Nat->Value,rgb l20 Rec21 s23 (fun s33=>ldV s33 b16 0 (fun v34=>cl prog v34 #[(.agg #[aD n28,aD n29,aD n30,aD n31,aD n32])] s33 (aI fun t37 s36=>(bc t37 (st s36 b18 0 (aD n28) (fun s38=>rgx l20 Rec21 R24 s38 .ret)) (aG (fun t42 s40=>bc t42 (st s40 b18 0 (aD (-1)) (fun s43=>rgx l20 Rec21 R24 s43 .ret)) (rgo l20 Rec21 R24 s40)) (fun J41=>
  bc (decide (n29=6)) (ldI s36 .i64 b14 0 (fun n44=>J41 (decide (n30=n44)) s36)) (J41 false s36))))))))) (fun p25 s26=>
  aft p25 (J3 (some ⟨b18,0,none⟩) s26) (ldI s26 .i64 b18 0 (fun n45=>rt s26 R (aD n45))) (fun i=>
  exb i 0 (J3 (some ⟨b18,0,none⟩) s26) (False))))))))))
def Ki:MAn:=(aP (.cut ⟨[true,false,false,false],4,[.slot 6 (.sc (.ptr))],[]⟩ (aP (.block (.rng [.exp 4,.exp 5,.exp 6] [(4,true),(5,true),(6,true)] [136] (.txt []) (.block (.block (aP (.cond (aP .leaf) (.cut ⟨[true],1,[.slot 17 (.sc (.bool))],[(6,true)]⟩ (.txt [⟨[],false,[]⟩,⟨[],false,[]⟩,⟨[],false,[]⟩,⟨[],true,[]⟩]) (.cond (aP .leaf) .leaf))))))))) (aP .leaf)))
theorem Kd (σ:Hp) (e0:aA) (d0 h0:Nat) (g0:aA) (f0 i0:Nat) (b0:aA) (a0 c0:Nat) (k0:aA) (j0 l0:Nat) (ride:Int) (wanted:Value) (R:aB) (h:DL σ e0 d0 h0 g0 f0 i0 b0 a0 c0 k0 j0 l0 ride wanted R):Af prog 190 #[(.agg #[aN e0 d0 h0,aN g0 f0 i0,aN b0 a0 c0,aN k0 j0 l0]),aD ride,wanted] σ R:=
 Ae AP Ki Tryz.func190 rfl (h:=h)
def Dm (σ:Hp) (e0:aA) (d0 h0:Nat) (g0:aA) (f0 i0:Nat) (b0:aA) (a0 c0:Nat) (k0:aA) (j0 l0:Nat) (rule:Int) (R:aB):Prop:=
 ix e0 d0 rule 4 (fun b1 a2=>ldI σ .i64 b1 a2 (fun n3=>bx σ (.cells #[aD rule] 3) (fun b4 s5=>
  aC 190 #[(.agg #[aN e0 d0 h0,aN g0 f0 i0,aN b0 a0 c0,aN k0 j0 l0]),aD n3,(.func (.func 274) #[] #[(.pointer (some ⟨b4,0,none⟩))])] s5 (aJ fun n8 s7=>(bc (decide (n8<0)) (rt s7 R (aD (-1))) (ldI s7 .i64 b4 0 (fun n9=>
  ix e0 d0 n9 4 (fun b10 a11=>ldI s7 .i64 b10 (a11+1) (fun n12=>wk .i64 (n8+n12) (fun n13=>
  wk .i64 (n13-1) (fun n14=>rt s7 R (aD n14))))))))))))
def AM:OA:=⟨[],false,[]⟩
def Jg:MAn:=(aP (.seq (.plan [9] (tkUN1 9 0 AM (.alt 9 false AM (.take 10 AM .done) .done))) (.seq (aP (.cond (aP .leaf) .leaf)) (aP .leaf))))
theorem Ja (σ:Hp) (e0:aA) (d0 h0:Nat) (g0:aA) (f0 i0:Nat) (b0:aA) (a0 c0:Nat) (k0:aA) (j0 l0:Nat) (rule:Int) (R:aB) (h:Dm σ e0 d0 h0 g0 f0 i0 b0 a0 c0 k0 j0 l0 rule R):Af prog 248 #[(.agg #[aN e0 d0 h0,aN g0 f0 i0,aN b0 a0 c0,aN k0 j0 l0]),aD rule] σ R:=
 Ae AP Jg Tryz.func248 rfl (h:=h)
def CB (σ:Hp) (_ p2 x_A _ _:Int) (cap0:aA) (R:aB):Prop:=
 bc (decide (p2=1)) (dr cap0 (fun b1 o2=>ldI σ .i64 b1 o2 (fun n3=>rt σ R (.bool (decide (x_A=n3)))))) (rt σ R (.bool false))
def HY:MAn:=(aP (.seq (.txt [⟨[],false,[]⟩,⟨[],false,[]⟩,⟨[],false,[]⟩,⟨[],true,[]⟩]) .leaf))
theorem Hx (σ:Hp) (x2 p2 x_A x_B x_C:Int) (cap0:aA) (R:aB) (h:CB σ x2 p2 x_A x_B x_C cap0 R):Af prog 274 #[(.agg #[aD x2,aD p2,aD x_A,aD x_B,aD x_C]),.pointer cap0] σ R:=
 Ae AP HY Tryz.func274 rfl (h:=h)
def EX (σ:Hp) (h2:aA) (g2 j2:Nat) (k2:aA) (i2 l2:Nat) (z1:aA) (u1 y1:Nat) (s2:aA) (r2 t2:Nat) (day:Int) (R:aB):Prop:=
 aC 128 #[(.agg #[aN h2 g2 j2,aN k2 i2 l2,aN z1 u1 y1]),aN s2 r2 t2] σ (fun v1 σ2=>
  ∃ A3:aA,∃ l3 c3:Nat,∃ A4:aA,∃ l4 c4:Nat,∃ A5:aA,∃ l5 c5:Nat,∃ A6:aA,∃ l6 c6:Nat,∃ n7 n8:Int,(v1=(.tuple #[(.agg #[aN A3 l3 c3,aN A4 l4 c4,aN A5 l5 c5,aN A6 l6 c6]),aD n7,aD n8]) /\
  bc (!decide (n8=0)) (rt σ2 R (.tuple #[(.agg #[aN A3 l3 c3,aN A4 l4 c4,aN A5 l5 c5,aN A6 l6 c6]),aD n8])) (aC 185 #[aD day,aD 0,aD 10000] σ2 (aI fun t11 s10=>(bc (!t11) (rt s10 R (.tuple #[(.agg #[aN A3 l3 c3,aN A4 l4 c4,aN A5 l5 c5,aN A6 l6 c6]),aD 1])) (aC 186 #[(.agg #[aN A3 l3 c3,aN A4 l4 c4,aN A5 l5 c5,aN A6 l6 c6]),aD day] s10 (fun v12 s13=>
  ∃ A14:aA,∃ l14 c14:Nat,∃ A15:aA,∃ l15 c15:Nat,∃ A16:aA,∃ l16 c16:Nat,∃ A17:aA,∃ l17 c17:Nat,(v12=(.agg #[aN A14 l14 c14,aN A15 l15 c15,aN A16 l16 c16,aN A17 l17 c17]) /\
  rt s13 R (.tuple #[(.agg #[aN A14 l14 c14,aN A15 l15 c15,aN A16 l16 c16,aN A17 l17 c17]),aD 0])))))))))
def LN:MAn:=(aP (aP (.seq (.block (aP (.cond (aP .leaf) (aP (.cond (aP .leaf) .leaf))))) (aP .leaf))))
theorem LK (σ:Hp) (h2:aA) (g2 j2:Nat) (k2:aA) (i2 l2:Nat) (z1:aA) (u1 y1:Nat) (s2:aA) (r2 t2:Nat) (day:Int) (R:aB) (h:EX σ h2 g2 j2 k2 i2 l2 z1 u1 y1 s2 r2 t2 day R):Af prog 130 #[(.agg #[aN h2 g2 j2,aN k2 i2 l2,aN z1 u1 y1]),aN s2 r2 t2,aD day] σ R:=
 Ae AP LN Tryz.func130 rfl (h:=h)
def DG (σ:Hp) (e0:aA) (d0 h0:Nat) (g0:aA) (f0 i0:Nat) (b0:aA) (a0 c0:Nat) (k0:aA) (j0 l0:Nat) (R:aB):Prop:=
 cut (α:=aA->Nat->Nat->Hp->Prop) (fun A4 l4 c4 σ2=>∀ _:Nat->Value,rt σ2 R (aN A4 l4 c4)) (fun J3=>
  ∃ I7:Nat->aA->Nat->Nat->Int->Hp->Prop,(∃ n80,I7 n80 none 0 0 0 σ)/\∀ n8 A9 l9 c9 n10 s6,I7 n8 A9 l9 c9 n10 s6->∀ _:Nat->Value,bc (decide (n10<(j0:Int))) (cut (α:=aA->Nat->Nat->Hp->Prop) (fun A14 l14 c14 s12=>
  ∀ _:Nat->Value,wk .i64 (n10+1) (fun n15=>bk s12 n8 (fun m16 s17=>I7 m16 A14 l14 c14 n15 s17))) (fun J13=>
  ix k0 j0 n10 5 (fun b18 a19=>ldI s6 .i64 b18 a19 (fun _=>ldI s6 .i64 b18 (a19+1) (fun n21=>
  ldI s6 .i64 b18 (a19+2) (fun _=>ldI s6 .i64 b18 (a19+3) (fun _=>ldI s6 .i64 b18 (a19+4) (fun _=>
  aG (fun t28 s26=>bc t28 (adp 3 aM A9 l9 c9 s26 (fun (xs29:List Int) s30=>
  AZ (List.length xs29+List.length ([n10]:List Int)) (exl 3 aM (xs29++([n10]:List Int)) s30 (fun A31 l31 c31 s32=>
  J13 A31 l31 c31 s32)))) (J13 A9 l9 c9 s26)) (fun J27=>bc (decide (n21=2)) (aC 244 #[(.agg #[aN e0 d0 h0,aN g0 f0 i0,aN b0 a0 c0,aN k0 j0 l0]),aD n10] s6 (aI fun t35 s34=>(J27 (!t35) s34))) (J27 false s6)))))))))) (J3 A9 l9 c9 s6))
def Kf:MAn:=(aP (.cut ⟨[true],1,[.slot 2 (.sc (.slc))],[]⟩ (aP (.block (.loop ⟨[true],1,[.slot 1 (.hb 0 0),.slot 2 (.sc (.slc)),.slot 8 (.sc (.int .i64))],[(6,true),(7,true)]⟩ (aP (.seq (.cond .leaf .leaf) (.cut ⟨[true],1,[.slot 1 (.hb 0 0),.slot 2 (.sc (.slc))],[(6,true),(7,true),(8,true)]⟩ (.block (aP (.cut ⟨[true,true],2,[.slot 1 (.hb 0 0),.slot 21 (.sc (.bool))],[(2,true),(3,true),(6,true),(7,true),(8,true)]⟩ (.txt [⟨[],false,[]⟩,⟨[],false,[]⟩,⟨[],false,[]⟩,⟨[],true,[]⟩]) (.cond (.txt []) .leaf)))) (.txt []))))))) (aP .leaf)))
theorem JO (σ:Hp) (e0:aA) (d0 h0:Nat) (g0:aA) (f0 i0:Nat) (b0:aA) (a0 c0:Nat) (k0:aA) (j0 l0:Nat) (R:aB) (h:DG σ e0 d0 h0 g0 f0 i0 b0 a0 c0 k0 j0 l0 R):Af prog 249 #[(.agg #[aN e0 d0 h0,aN g0 f0 i0,aN b0 a0 c0,aN k0 j0 l0])] σ R:=
 Ae AP Kf Tryz.func249 rfl (h:=h)
def CF (σ:Hp) (e0:aA) (d0 h0:Nat) (g0:aA) (f0 i0:Nat) (b0:aA) (a0 c0:Nat) (k0:aA) (j0 l0:Nat) (ride:Int) (R:aB):Prop:=
 aH (fun n4 σ2=>rt σ2 R (aD n4)) (fun J3=>∃ I7:Nat->Int->Int->Hp->Prop,(∃ n80,I7 n80 10000 0 σ) /\
  ∀ n8 n9 n10 s6,I7 n8 n9 n10 s6->∀ _:Nat->Value,bc (decide (n10<(d0:Int))) (aH (fun n14 s12=>wk .i64 (n10+1) (fun n15=>bk s12 n8 (fun m16 s17=>I7 m16 n14 n15 s17))) (fun J13=>
  ix e0 d0 n10 4 (fun b18 a19=>ldI s6 .i64 b18 a19 (fun n20=>ldI s6 .i64 b18 (a19+1) (fun _=>
  ldI s6 .i64 b18 (a19+2) (fun _=>ldB s6 b18 (a19+3) (fun _=>bc (decide (n20=ride)) (aC 248 #[(.agg #[aN e0 d0 h0,aN g0 f0 i0,aN b0 a0 c0,aN k0 j0 l0]),aD n10] s6 (aJ fun n26 s25=>(J13 (if n26<n9 then n26 else n9) s25))) (J13 n9 s6)))))))) (J3 n9 s6))
def HN:MAn:=(aP (aP (.cut ⟨[true],1,[.slot 5 (.sc (.int .i64))],[]⟩ (aP (.block (.loop ⟨[true],1,[.slot 2 (.hb 0 0),.slot 5 (.sc (.int .i64)),.slot 12 (.sc (.int .i64))],[(1,true),(10,true),(11,true)]⟩ (aP (.seq (.cond .leaf .leaf) (.cut ⟨[true],1,[.slot 2 (.hb 0 0),.slot 5 (.sc (.int .i64))],[(1,true),(10,true),(11,true),(12,true)]⟩ (.block (aP (aP (.cond (.txt []) .leaf)))) (.txt []))))))) (aP .leaf))))
theorem HP (σ:Hp) (e0:aA) (d0 h0:Nat) (g0:aA) (f0 i0:Nat) (b0:aA) (a0 c0:Nat) (k0:aA) (j0 l0:Nat) (ride:Int) (R:aB) (h:CF σ e0 d0 h0 g0 f0 i0 b0 a0 c0 k0 j0 l0 ride R):Af prog 188 #[(.agg #[aN e0 d0 h0,aN g0 f0 i0,aN b0 a0 c0,aN k0 j0 l0]),aD ride] σ R:=
 Ae AP HN Tryz.func188 rfl (h:=h)
def Dc (σ:Hp) (e0:aA) (d0 h0:Nat) (g0:aA) (f0 i0:Nat) (b0:aA) (a0 c0:Nat) (k0:aA) (j0 l0:Nat) (ride:Int) (R:aB):Prop:=
 bx σ (.cells #[aD 0,aD 0,aD 0,aD 0] 299) (fun b1 σ2=>aF (fun s4=>ix (some ⟨b1,0,none⟩) 4 3 1 (fun b6 a7=>ldI s4 .i64 b6 a7 (fun n8=>bc (decide (n8=0)) (ix (some ⟨b1,0,none⟩) 4 2 1 (fun b9 a10=>
  ldI s4 .i64 b9 a10 (fun n11=>rt s4 R (.bool (decide (n11<=1)))))) (rt s4 R (.bool false))))) (fun J5=>
  aC 249 #[(.agg #[aN e0 d0 h0,aN g0 f0 i0,aN b0 a0 c0,aN k0 j0 l0])] σ2 (aK fun A14 l14 _ s13=>(∃ I17:Nat->Int->Hp->Prop,(∃ n180,I17 n180 0 s13) /\
  ∀ n18 n19 s16,I17 n18 n19 s16->∀ _:Nat->Value,bc (decide (n19<(l14:Int))) (aF (fun s21=>wk .i64 (n19+1) (fun n23=>bk s21 n18 (fun m24 s25=>I17 m24 n23 s25))) (fun J22=>
  ix A14 l14 n19 1 (fun b26 a27=>ldI s16 .i64 b26 a27 (fun n28=>ix k0 j0 n28 5 (fun b29 a30=>
  ldI s16 .i64 b29 a30 (fun _=>ldI s16 .i64 b29 (a30+1) (fun _=>ldI s16 .i64 b29 (a30+2) (fun n33=>
  ldI s16 .i64 b29 (a30+3) (fun n34=>ldI s16 .i64 b29 (a30+4) (fun _=>bc (decide (n33=ride)) (ix (some ⟨b1,0,none⟩) 4 n34 1 (fun b36 a37=>
  ldI s16 .i64 b36 a37 (fun n38=>wk .i64 (n38+1) (fun n39=>ix (some ⟨b1,0,none⟩) 4 n34 1 (fun b40 a41=>
  st s16 b40 a41 (aD n39) (fun s42=>J22 s42)))))) (J22 s16))))))))))) (J5 s16)))))
def Jk:MAn:=(aP (.seq (.txt [⟨[.raw],false,[]⟩]) (.cut ⟨[true],1,[],[(5,true)]⟩ (aP (.block (.loop ⟨[true],1,[.slot 2 (.hb 0 0),.slot 12 (.sc (.int .i64))],[(1,true),(5,true),(10,true),(11,true)]⟩ (aP (.seq (.cond .leaf .leaf) (.cut ⟨[true],1,[.slot 2 (.hb 0 0)],[(1,true),(5,true),(10,true),(11,true),(12,true)]⟩ (.block (aP (aP (aP (.cond (.txt []) .leaf))))) (.txt []))))))) (.seq (.txt [⟨[],false,[]⟩,⟨[],false,[]⟩,⟨[],false,[]⟩,⟨[],true,[]⟩]) .leaf))))
theorem Jl (σ:Hp) (e0:aA) (d0 h0:Nat) (g0:aA) (f0 i0:Nat) (b0:aA) (a0 c0:Nat) (k0:aA) (j0 l0:Nat) (ride:Int) (R:aB) (h:Dc σ e0 d0 h0 g0 f0 i0 b0 a0 c0 k0 j0 l0 ride R):Af prog 189 #[(.agg #[aN e0 d0 h0,aN g0 f0 i0,aN b0 a0 c0,aN k0 j0 l0]),aD ride] σ R:=
 Ae AP Jk Tryz.func189 rfl (h:=h)
def Cz (σ:Hp) (e0:aA) (d0 h0:Nat) (g0:aA) (f0 i0:Nat) (b0:aA) (a0 c0:Nat) (k0:aA) (j0 l0:Nat) (ride:Int) (R:aB):Prop:=
 cut (α:=aA->aA->Hp->Prop) (fun p4 p5 σ2=>∀ _:Nat->Value,dr p4 (fun b6 o7=>
  ldI σ2 .i64 b6 o7 (fun n8=>ix b0 a0 n8 1 (fun b9 a10=>ldI σ2 .i64 b9 a10 (fun n11=>
  dr p5 (fun b12 o13=>st σ2 b12 o13 (aD n11) (fun s14=>dr p5 (fun b15 o16=>ldI s14 .i64 b15 o16 (fun n17=>
  rt s14 R (aD n17)))))))))) (fun J3=>aC 250 #[(.agg #[aN e0 d0 h0,aN g0 f0 i0,aN b0 a0 c0,aN k0 j0 l0])] σ (fun v18 s19=>
  ∃ v20:Value,(v18=v20/\bx s19 (.cells #[aD ride] 3) (fun b21 s22=>bx s22 (.cells #[aD 0] 3) (fun b23 s24=>
  YF prog v20 s24 (fun l25 Rec26 ag27 s28 R29=>∃ n33 n34:Int,∃ n35 n36 n37:Int,(ag27=#[(.agg #[aD n33,aD n34,aD n35,aD n36,aD n37])] /\
  ∀ _:Nat->Value,rgb l25 Rec26 s28 (fun s38=>aG (fun t42 s40=>
  bc t42 (st s40 b23 0 (aD n36) (fun s43=>rgx l25 Rec26 R29 s43 .ret)) (rgo l25 Rec26 R29 s40)) (fun J41=>
  bc (decide (n34=5)) (ldI s38 .i64 b21 0 (fun n44=>J41 (decide (n35=n44)) s38)) (J41 false s38))))) (fun p30 s31=>
  aft p30 (J3 (some ⟨b21,0,none⟩) (some ⟨b23,0,none⟩) s31) (ldI s31 .i64 b23 0 (fun n45=>rt s31 R (aD n45))) (fun i=>
  exb i 0 (J3 (some ⟨b21,0,none⟩) (some ⟨b23,0,none⟩) s31) (False))))))))
def Hw:MAn:=(aP (.cut ⟨[true,false,false],3,[.slot 2 (.hb 0 0),.slot 3 (.sc (.ptr)),.slot 4 (.sc (.ptr))],[]⟩ (aP (.block (.rng [.exp 3,.exp 4] [(3,true),(4,true)] [136] (.txt []) (.block (.cut ⟨[true],1,[.slot 5 (.hb 0 0),.slot 17 (.sc (.bool))],[(4,true)]⟩ (.txt [⟨[],false,[]⟩,⟨[],false,[]⟩,⟨[],false,[]⟩,⟨[],true,[]⟩]) (.cond (aP .leaf) .leaf)))))) (aP .leaf)))
theorem HD (σ:Hp) (e0:aA) (d0 h0:Nat) (g0:aA) (f0 i0:Nat) (b0:aA) (a0 c0:Nat) (k0:aA) (j0 l0:Nat) (ride:Int) (R:aB) (h:Cz σ e0 d0 h0 g0 f0 i0 b0 a0 c0 k0 j0 l0 ride R):Af prog 192 #[(.agg #[aN e0 d0 h0,aN g0 f0 i0,aN b0 a0 c0,aN k0 j0 l0]),aD ride] σ R:=
 Ae AP Hw Tryz.func192 rfl (h:=h)
def Er (σ:Hp) (e0:aA) (d0 h0:Nat) (g0:aA) (f0 i0:Nat) (b0:aA) (a0 c0:Nat) (k0:aA) (j0 l0:Nat) (ride day:Int) (R:aB):Prop:=
 bx σ (.cells #[aN none 0 0] 26) (fun b1 σ2=>aC 188 #[(.agg #[aN e0 d0 h0,aN g0 f0 i0,aN b0 a0 c0,aN k0 j0 l0]),aD ride] σ2 (aJ fun n5 s4=>(cl prog (.func (.func 187) #[] #[(.pointer (some ⟨b1,0,none⟩))]) #[aD 1,(.bool (decide (n5<day)))] s4 (fun _ s7=>
  aC 189 #[(.agg #[aN e0 d0 h0,aN g0 f0 i0,aN b0 a0 c0,aN k0 j0 l0]),aD ride] s7 (aI fun t10 s9=>(cl prog (.func (.func 187) #[] #[(.pointer (some ⟨b1,0,none⟩))]) #[aD 2,(.bool (!t10))] s9 (fun _ s12=>
  bx s12 (.cells #[aD ride] 3) (fun b13 s14=>aC 190 #[(.agg #[aN e0 d0 h0,aN g0 f0 i0,aN b0 a0 c0,aN k0 j0 l0]),aD ride,(.func (.func 191) #[] #[(.pointer (some ⟨b13,0,none⟩))])] s14 (aJ fun n17 s16=>(cl prog (.func (.func 187) #[] #[(.pointer (some ⟨b1,0,none⟩))]) #[aD 3,(.bool (!decide (n17=day)))] s16 (fun _ s19=>
  ldI s19 .i64 b13 0 (fun n20=>aC 192 #[(.agg #[aN e0 d0 h0,aN g0 f0 i0,aN b0 a0 c0,aN k0 j0 l0]),aD n20] s19 (aJ fun n23 s22=>(cl prog (.func (.func 187) #[] #[(.pointer (some ⟨b1,0,none⟩))]) #[aD 4,(.bool (decide (n23<day)))] s22 (fun _ s25=>
  ldS s25 b1 0 (fun A26 l26 c26=>st s25 b1 0 (aN A26 l26 c26) (fun s27=>ldS s27 b1 0 (fun A28 l28 c28=>
  rt s27 R (aN A28 l28 c28)))))))))))))))))))
def Lb:MAn:=(aP (aP (aP (aP (aP (aP (aP .leaf)))))))
theorem Kn (σ:Hp) (e0:aA) (d0 h0:Nat) (g0:aA) (f0 i0:Nat) (b0:aA) (a0 c0:Nat) (k0:aA) (j0 l0:Nat) (ride day:Int) (R:aB) (h:Er σ e0 d0 h0 g0 f0 i0 b0 a0 c0 k0 j0 l0 ride day R):Af prog 131 #[(.agg #[aN e0 d0 h0,aN g0 f0 i0,aN b0 a0 c0,aN k0 j0 l0]),aD ride,aD day] σ R:=
 Ae AP Lb Tryz.func131 rfl (h:=h)
def Dn (σ:Hp) (reason:Int) (is:Bool) (cap0:aA) (R:aB):Prop:=
 bc is (dr cap0 (fun b1 o2=>ldS σ b1 o2 (fun A3 l3 c3=>adp 3 aM A3 l3 c3 σ (fun (xs4:List Int) s5=>
  AZ (List.length xs4+List.length ([reason]:List Int)) (exl 3 aM (xs4++([reason]:List Int)) s5 (fun A6 l6 c6 s7=>
  dr cap0 (fun b8 o9=>st s7 b8 o9 (aN A6 l6 c6) (fun s10=>rt s10 R (.tuple #[]))))))))) (rt σ R (.tuple #[]))
def Jh:MAn:=(aP (.cond (.txt []) .leaf))
theorem I2 (σ:Hp) (reason:Int) (is:Bool) (cap0:aA) (R:aB) (h:Dn σ reason is cap0 R):Af prog 187 #[aD reason,.bool is,.pointer cap0] σ R:=
 Ae AP Jh Tryz.func187 rfl (h:=h)
def Dd (σ:Hp) (_ p2 x_A _ _:Int) (cap0:aA) (R:aB):Prop:=
 bc (decide (p2=4)) (dr cap0 (fun b1 o2=>ldI σ .i64 b1 o2 (fun n3=>rt σ R (.bool (decide (x_A=n3)))))) (rt σ R (.bool false))
def Jz:MAn:=(aP (.seq (.txt [⟨[],false,[]⟩,⟨[],false,[]⟩,⟨[],false,[]⟩,⟨[],true,[]⟩]) .leaf))
theorem IQ (σ:Hp) (x2 p2 x_A x_B x_C:Int) (cap0:aA) (R:aB) (h:Dd σ x2 p2 x_A x_B x_C cap0 R):Af prog 191 #[(.agg #[aD x2,aD p2,aD x_A,aD x_B,aD x_C]),.pointer cap0] σ R:=
 Ae AP Jz Tryz.func191 rfl (h:=h)
def DV (σ:Hp) (h2:aA) (g2 j2:Nat) (k2:aA) (i2 l2:Nat) (z1:aA) (u1 y1:Nat) (s2:aA) (r2 t2:Nat) (day:Int) (R:aB):Prop:=
 aC 130 #[(.agg #[aN h2 g2 j2,aN k2 i2 l2,aN z1 u1 y1]),aN s2 r2 t2,aD day] σ (fun v1 σ2=>
  ∃ A3:aA,∃ l3 c3:Nat,∃ A4:aA,∃ l4 c4:Nat,∃ A5:aA,∃ l5 c5:Nat,∃ A6:aA,∃ l6 c6:Nat,∃ n7:Int,(v1=(.tuple #[(.agg #[aN A3 l3 c3,aN A4 l4 c4,aN A5 l5 c5,aN A6 l6 c6]),aD n7]) /\
  bc (!decide (n7=0)) (rt σ2 R (.tuple #[aN none 0 0,aD n7])) (cut (α:=aA->Nat->Nat->Hp->Prop) (fun A11 l11 c11 s9=>
  ∀ _:Nat->Value,rt s9 R (.tuple #[aN A11 l11 c11,aD 0])) (fun J10=>∃ I14:Nat->aA->Nat->Nat->Int->Hp->Prop,(∃ n150,I14 n150 none 0 0 0 σ2) /\
  ∀ n15 A16 l16 c16 n17 s13,I14 n15 A16 l16 c16 n17 s13->∀ _:Nat->Value,bc (decide (n17<(l5:Int))) (cut (α:=aA->Nat->Nat->Hp->Prop) (fun A21 l21 c21 s19=>
  ∀ _:Nat->Value,wk .i64 (n17+1) (fun n22=>bk s19 n15 (fun m23 s24=>I14 m23 A21 l21 c21 n22 s24))) (fun J20=>
  aC 131 #[(.agg #[aN A3 l3 c3,aN A4 l4 c4,aN A5 l5 c5,aN A6 l6 c6]),aD n17,aD day] s13 (aK fun _ l27 _ s26=>(bc (decide ((l27:Int)=0)) (adp 3 aM A16 l16 c16 s26 (fun (xs28:List Int) s29=>
  AZ (List.length xs28+List.length ([n17]:List Int)) (exl 3 aM (xs28++([n17]:List Int)) s29 (fun A30 l30 c30 s31=>
  J20 A30 l30 c30 s31)))) (J20 A16 l16 c16 s26))))) (J10 A16 l16 c16 s13)))))
def JI:MAn:=(aP (aP (.seq (aP (.cond (aP .leaf) .leaf)) (.cut ⟨[true,true],2,[.slot 6 (.sc (.slc))],[]⟩ (aP (.block (.loop ⟨[true,true],2,[.slot 6 (.sc (.slc)),.slot 8 (.hb 1 0),.slot 24 (.sc (.int .i64))],[(2,true),(23,true)]⟩ (aP (.seq (.cond .leaf .leaf) (.cut ⟨[true,true],2,[.slot 6 (.sc (.slc)),.slot 8 (.hb 1 0)],[(2,true),(23,true),(24,true)]⟩ (.block (aP (aP (.cond (.txt []) .leaf)))) (.txt []))))))) (aP .leaf)))))
theorem JM (σ:Hp) (h2:aA) (g2 j2:Nat) (k2:aA) (i2 l2:Nat) (z1:aA) (u1 y1:Nat) (s2:aA) (r2 t2:Nat) (day:Int) (R:aB) (h:DV σ h2 g2 j2 k2 i2 l2 z1 u1 y1 s2 r2 t2 day R):Af prog 74 #[(.agg #[aN h2 g2 j2,aN k2 i2 l2,aN z1 u1 y1]),aN s2 r2 t2,aD day] σ R:=
 Ae AP JI Tryz.func74 rfl (h:=h)
def BH (σ:Hp) (s_A:aA) (s_n s_c:Nat) (f:Value) (R:aB):Prop:=
 aC 270 #[aN s_A s_n s_c,f] σ (fun v1 σ2=>∃ n3:Int,(v1=(aD n3) /\
  rt σ2 R (.bool (decide ((0:Int)<=n3)))))
def Ee:MAn:=(aP (aP .leaf))
theorem D7 (σ:Hp) (s_A:aA) (s_n s_c:Nat) (f:Value) (R:aB) (h:BH σ s_A s_n s_c f R):Af prog 238 #[aN s_A s_n s_c,f] σ R:=
 Ae AP Ee Tryz.func238 rfl (h:=h)
def BW (σ:Hp) (s_A:aA) (s_n _:Nat) (f:Value) (R:aB):Prop:=
 aF (fun σ2=>rt σ2 R (aD (-1))) (fun J3=>∃ I6:Nat->Int->Hp->Prop,(∃ n70,I6 n70 0 σ) /\
  ∀ n7 n8 s5,I6 n7 n8 s5->∀ _:Nat->Value,bc (decide (n8<(s_n:Int))) (ix s_A s_n n8 4 (fun b9 a10=>
  ldI s5 .i64 b9 a10 (fun n11=>ldI s5 .i64 b9 (a10+1) (fun n12=>ldI s5 .i64 b9 (a10+2) (fun n13=>
  ldB s5 b9 (a10+3) (fun t14=>cl prog f #[(.agg #[aD n11,aD n12,aD n13,.bool t14])] s5 (aI fun t17 s16=>(bc t17 (rt s16 R (aD n8)) (wk .i64 (n8+1) (fun n18=>bk s16 n7 (fun m19 s20=>
  I6 m19 n18 s20))))))))))) (J3 s5))
def Fg:MAn:=(aP (.cut ⟨[],0,[],[]⟩ (aP (.block (.loop ⟨[],0,[.slot 8 (.sc (.int .i64))],[(0,true),(1,false),(7,true)]⟩ (aP (.seq (.cond .leaf .leaf) (.seq (.block (aP (aP (.cond (aP .leaf) .leaf)))) (.txt []))))))) (aP .leaf)))
theorem Fc (σ:Hp) (s_A:aA) (s_n s_c:Nat) (f:Value) (R:aB) (h:BW σ s_A s_n s_c f R):Af prog 270 #[aN s_A s_n s_c,f] σ R:=
 Ae AP Fg Tryz.func270 rfl (h:=h)
def Bx (σ:Hp) (s_A:aA) (s_n s_c:Nat) (f:Value) (R:aB):Prop:=
 aC 246 #[aN s_A s_n s_c,f] σ (fun v1 σ2=>∃ n3:Int,(v1=(aD n3) /\
  rt σ2 R (.bool (decide ((0:Int)<=n3)))))
def DD:MAn:=(aP (aP .leaf))
theorem DP (σ:Hp) (s_A:aA) (s_n s_c:Nat) (f:Value) (R:aB) (h:Bx σ s_A s_n s_c f R):Af prog 272 #[aN s_A s_n s_c,f] σ R:=
 Ae AP DD Tryz.func272 rfl (h:=h)
def BR (σ:Hp) (s_A:aA) (s_n _:Nat) (f:Value) (R:aB):Prop:=
 aF (fun σ2=>rt σ2 R (aD (-1))) (fun J3=>∃ I6:Nat->Int->Hp->Prop,(∃ n70,I6 n70 0 σ) /\
  ∀ n7 n8 s5,I6 n7 n8 s5->∀ _:Nat->Value,bc (decide (n8<(s_n:Int))) (ix s_A s_n n8 5 (fun b9 a10=>
  ldI s5 .i64 b9 a10 (fun n11=>ldI s5 .i64 b9 (a10+1) (fun n12=>ldI s5 .i64 b9 (a10+2) (fun n13=>
  ldI s5 .i64 b9 (a10+3) (fun n14=>ldI s5 .i64 b9 (a10+4) (fun n15=>cl prog f #[(.agg #[aD n11,aD n12,aD n13,aD n14,aD n15])] s5 (aI fun t18 s17=>(bc t18 (rt s17 R (aD n8)) (wk .i64 (n8+1) (fun n19=>bk s17 n7 (fun m20 s21=>
  I6 m20 n19 s21)))))))))))) (J3 s5))
def ER:MAn:=(aP (.cut ⟨[],0,[],[]⟩ (aP (.block (.loop ⟨[],0,[.slot 8 (.sc (.int .i64))],[(0,true),(1,false),(7,true)]⟩ (aP (.seq (.cond .leaf .leaf) (.seq (.block (aP (aP (.cond (aP .leaf) .leaf)))) (.txt []))))))) (aP .leaf)))
theorem EL (σ:Hp) (s_A:aA) (s_n s_c:Nat) (f:Value) (R:aB) (h:BR σ s_A s_n s_c f R):Af prog 246 #[aN s_A s_n s_c,f] σ R:=
 Ae AP ER Tryz.func246 rfl (h:=h)
def CJ (σ:Hp) (s_A:aA) (s_n s_c:Nat) (R:aB):Prop:=
 bx σ (.cells #[aN s_A s_n s_c] 29) (fun b1 σ2=>rt σ2 R (.func (.func 291) #[] #[(.pointer (some ⟨b1,0,none⟩))]))
def EW:MAn:=(aP (aP .leaf))
theorem E4 (σ:Hp) (s_A:aA) (s_n s_c:Nat) (R:aB) (h:CJ σ s_A s_n s_c R):Af prog 276 #[aN s_A s_n s_c] σ R:=
 Ae AP EW Tryz.func276 rfl (h:=h)
def BM (σ:Hp) (yield:Value) (cap0:aA) (R:aB):Prop:=
 dr cap0 (fun b1 o2=>ldS σ b1 o2 (fun _ l3 _=>wk .i64 ((l3:Int)-1) (fun n4=>∃ I8:Nat->Int->Hp->Prop,(∃ n90,I8 n90 n4 σ) /\
  ∀ n9 n10 s7,I8 n9 n10 s7->∀ _:Nat->Value,bc (decide ((0:Int)<=n10)) (dr cap0 (fun b11 o12=>
  ldS s7 b11 o12 (fun A13 l13 _=>ix A13 l13 n10 5 (fun b14 a15=>ldI s7 .i64 b14 a15 (fun n16=>ldI s7 .i64 b14 (a15+1) (fun n17=>
  ldI s7 .i64 b14 (a15+2) (fun n18=>ldI s7 .i64 b14 (a15+3) (fun n19=>ldI s7 .i64 b14 (a15+4) (fun n20=>
  cl prog yield #[aD n10,(.agg #[aD n16,aD n17,aD n18,aD n19,aD n20])] s7 (aI fun t23 s22=>(bc (!t23) (rt s22 R (.tuple #[])) (wk .i64 (n10-1) (fun n24=>bk s22 n9 (fun m25 s26=>
  I8 m25 n24 s26)))))))))))))) (rt s7 R (.tuple #[])))))
def Ej:MAn:=(aP (.block (.loop ⟨[],0,[.slot 3 (.sc (.int .i64))],[(0,false),(1,true)]⟩ (.seq (aP (.cond .leaf .leaf)) (.seq (.block (aP (.cond .leaf .leaf))) (.txt []))))))
theorem EF (σ:Hp) (yield:Value) (cap0:aA) (R:aB) (h:BM σ yield cap0 R):Af prog 291 #[yield,.pointer cap0] σ R:=
 Ae AP Ej Tryz.func291 rfl (h:=h)
theorem C0:prog.follows .mixedOrders=true:=by kernel_rfl
def GE (σ:Hp) (n low high:Int) (R:aB):Prop:=
 bc (decide (low<=n)) (rt σ R (.bool (decide (n<=high)))) (rt σ R (.bool false))
def M2:MAn:=(aP (.seq (.txt [⟨[],false,[]⟩,⟨[],false,[]⟩,⟨[],false,[]⟩,⟨[],true,[]⟩]) .leaf))
theorem M4 (σ:Hp) (n low high:Int) (R:aB) (h:GE σ n low high R):Af prog 129 #[aD n,aD low,aD high] σ R:=
 Ae C0 M2 Tryz.func129 rfl (h:=h)
def HO (σ:Hp) (k1:aA) (y0 _:Nat) (o1:aA) (l1 _:Nat) (b2 m2 d2:Int) (R:aB):Prop:=
 aF (fun σ2=>aF (fun s5=>
  aF (fun s8=>rt s8 R (aD 0)) (fun J9=>∃ I12:Nat->Int->Hp->Prop,(∃ n130,I12 n130 0 s5) /\
  ∀ n13 n14 s11,I12 n13 n14 s11->∀ _:Nat->Value,bc (decide (n14<(l1:Int))) (aF (fun s16=>wk .i64 (n14+1) (fun n18=>bk s16 n13 (fun m19 s20=>I12 m19 n18 s20))) (fun J17=>
  ix o1 l1 n14 4 (fun b21 a22=>ldI s11 .i64 b21 a22 (fun n23=>ldI s11 .i64 b21 (a22+1) (fun n24=>
  ldI s11 .i64 b21 (a22+2) (fun n25=>ldI s11 .i64 b21 (a22+3) (fun n26=>aG (fun t30 s28=>bc t30 (rt s28 R (aD 50)) (J17 s28)) (fun J29=>wk .i64 ((y0:Int)-1) (fun n31=>
  aC 129 #[aD n23,aD 0,aD n31] s11 (aI fun t34 s33=>(bc (!t34) (J29 true s33) (aC 129 #[aD n24,aD 0,aD 2] s33 (aI fun t37 s36=>(bc (!t37) (J29 true s36) (aC 129 #[aD n25,aD 1,aD 1000] s36 (aI fun t40 s39=>(bc (!t40) (J29 true s39) (aC 129 #[aD n26,aD 0,aD 1000] s39 (aI fun t43 s42=>(J29 (!t43) s42)))))))))))))))))))) (J9 s11))) (fun J6=>∃ I46:Nat->Int->Hp->Prop,(∃ n470,I46 n470 0 σ2) /\
  ∀ n47 n48 s45,I46 n47 n48 s45->∀ _:Nat->Value,bc (decide (n48<(y0:Int))) (aF (fun s50=>wk .i64 (n48+1) (fun n52=>bk s50 n47 (fun m53 s54=>I46 m53 n52 s54))) (fun J51=>
  ix k1 y0 n48 4 (fun b55 a56=>ldI s45 .i64 b55 a56 (fun n57=>ldI s45 .i64 b55 (a56+1) (fun n58=>
  ldI s45 .i64 b55 (a56+2) (fun n59=>ldI s45 .i64 b55 (a56+3) (fun n60=>aG (fun t64 s62=>bc t64 (rt s62 R (aD 50)) (J51 s62)) (fun J63=>wk .i64 (n48-1) (fun n65=>
  aC 129 #[aD n57,(aD (-1)),aD n65] s45 (aI fun t68 s67=>(bc (!t68) (J63 true s67) (aC 129 #[aD n58,aD 1,aD 1000] s67 (aI fun t71 s70=>(bc (!t71) (J63 true s70) (aC 129 #[aD n59,aD 0,aD 20] s70 (aI fun t74 s73=>(bc (!t74) (J63 true s73) (aC 129 #[aD n60,aD 1,aD 10000] s73 (aI fun t77 s76=>(J63 (!t77) s76)))))))))))))))))))) (J6 s45))) (fun J3=>aG (fun t81 s79=>bc t81 (rt s79 R (aD 50)) (J3 s79)) (fun J80=>bc (decide ((10:Int)<(y0:Int))) (J80 true σ) (bc (decide ((16:Int)<(l1:Int))) (J80 true σ) (aC 129 #[aD b2,aD 1,aD 1000] σ (aI fun t84 s83=>(bc (!t84) (J80 true s83) (aC 129 #[aD m2,aD 0,aD 20] s83 (aI fun t87 s86=>(bc (!t87) (J80 true s86) (aC 129 #[aD d2,aD 1,aD 1000] s86 (aI fun t90 s89=>(J80 (!t90) s89))))))))))))
def Ai:OA:=⟨[],false,[]⟩
def Ob:MAn:=(aP (.cut ⟨[true],1,[.slot 1 (.hb 0 0)],[]⟩ (.cut ⟨[true],1,[.slot 1 (.hb 0 0),.slot 34 (.sc (.bool))],[]⟩ (.txt [Ai,Ai,Ai,Ai,⟨[],true,[]⟩,Ai,Ai,Ai,Ai,Ai,⟨[],true,[]⟩,Ai,Ai,Ai,Ai,Ai,⟨[],true,[]⟩,Ai,Ai,Ai,Ai,Ai,⟨[],true,[]⟩]) (.cond (aP .leaf) .leaf)) (.cut ⟨[true],1,[.slot 1 (.hb 0 0)],[]⟩ (aP (.block (.loop ⟨[true],1,[.slot 1 (.hb 0 0),.slot 38 (.sc (.int .i64))],[(36,true),(37,true)]⟩ (aP (.seq (.cond .leaf .leaf) (.cut ⟨[true],1,[.slot 1 (.hb 0 0)],[(36,true),(37,true),(38,true)]⟩ (.block (aP (.cut ⟨[true,true],2,[.slot 1 (.hb 0 0),.slot 66 (.sc (.bool))],[(36,true),(37,true),(38,true)]⟩ (.txt [Ai,Ai,Ai,Ai,Ai,Ai,⟨[],true,[]⟩,Ai,Ai,Ai,Ai,Ai,⟨[],true,[]⟩,Ai,Ai,Ai,Ai,Ai,⟨[],true,[]⟩]) (.cond (aP .leaf) .leaf)))) (.txt []))))))) (.cut ⟨[true],1,[],[]⟩ (aP (.block (.loop ⟨[true],1,[.slot 1 (.hb 0 0),.slot 71 (.sc (.int .i64))],[(69,true),(70,true)]⟩ (aP (.seq (.cond .leaf .leaf) (.cut ⟨[true],1,[.slot 1 (.hb 0 0)],[(69,true),(70,true),(71,true)]⟩ (.block (aP (.cut ⟨[true,true],2,[.slot 1 (.hb 0 0),.slot 100 (.sc (.bool))],[(69,true),(70,true),(71,true)]⟩ (.txt [Ai,Ai,Ai,Ai,Ai,Ai,Ai,Ai,⟨[],true,[]⟩,Ai,Ai,Ai,Ai,Ai,⟨[],true,[]⟩,Ai,Ai,Ai,Ai,Ai,⟨[],true,[]⟩]) (.cond (aP .leaf) .leaf)))) (.txt []))))))) (aP .leaf)))))
theorem Oh (σ:Hp) (k1:aA) (y0 m1:Nat) (o1:aA) (l1 s1:Nat) (b2 m2 d2:Int) (R:aB) (h:HO σ k1 y0 m1 o1 l1 s1 b2 m2 d2 R):Af prog 70 #[(.agg #[aN k1 y0 m1,aN o1 l1 s1,aD b2,aD m2,aD d2])] σ R:=
 Ae C0 Ob Tryz.func70 rfl (h:=h)
def QS (σ:Hp) (k1:aA) (y0 m1:Nat) (o1:aA) (l1 s1:Nat) (b2 m2 d2 board:Int) (R:aB):Prop:=
 bx σ (.cells #[aD board] 3) (fun b1 σ2=>bx σ2 (.cells #[aN k1 y0 m1,aN o1 l1 s1,aD b2,aD m2,aD d2] 33) (fun b3 s4=>
  rt s4 R (.func (.func 277) #[] #[(.pointer (some ⟨b1,0,none⟩)),(.pointer (some ⟨b3,0,none⟩))])))
def QZ:MAn:=(aP (aP .leaf))
theorem Rd (σ:Hp) (k1:aA) (y0 m1:Nat) (o1:aA) (l1 s1:Nat) (b2 m2 d2 board:Int) (R:aB) (h:QS σ k1 y0 m1 o1 l1 s1 b2 m2 d2 board R):Af prog 251 #[(.agg #[aN k1 y0 m1,aN o1 l1 s1,aD b2,aD m2,aD d2]),aD board] σ R:=
 Ae C0 QZ Tryz.func251 rfl (h:=h)
def Jr (σ:Hp) (yield:Value) (cap0 cap1:aA) (R:aB):Prop:=
 aF (fun σ2=>cl prog yield #[(aD (-1))] σ2 (aI fun _ s5=>(rt s5 R (.tuple #[])))) (fun J3=>∃ I9:Nat->Hp->Prop,(∃ n100,I9 n100 σ) /\
  ∀ n10 s8,I9 n10 s8->∀ _:Nat->Value,dr cap0 (fun b11 o12=>ldI s8 .i64 b11 o12 (fun n13=>
  bc (decide ((0:Int)<=n13)) (dr cap0 (fun b14 o15=>ldI s8 .i64 b14 o15 (fun n16=>cl prog yield #[aD n16] s8 (aI fun t19 s18=>(bc (!t19) (rt s18 R (.tuple #[])) (dr cap1 (fun b20 o21=>ldS s18 b20 o21 (fun A22 l22 _=>
  dr cap0 (fun b23 o24=>ldI s18 .i64 b23 o24 (fun n25=>ix A22 l22 n25 4 (fun b26 a27=>ldI s18 .i64 b26 a27 (fun n28=>
  dr cap0 (fun b29 o30=>st s18 b29 o30 (aD n28) (fun s31=>bk s31 n10 (fun m32 s33=>I9 m32 s33))))))))))))))) (J3 s8))))
def Pc:MAn:=(.cut ⟨[],0,[],[(0,false)]⟩ (.block (.loop ⟨[],0,[],[(0,false),(1,true),(2,true)]⟩ (.seq (aP (.cond .leaf .leaf)) (.seq (.block (aP (.cond .leaf .leaf))) (.txt []))))) (.txt []))
theorem Pf (σ:Hp) (yield:Value) (cap0 cap1:aA) (R:aB) (h:Jr σ yield cap0 cap1 R):Af prog 277 #[yield,.pointer cap0,.pointer cap1] σ R:=
 Ae C0 Pc Tryz.func277 rfl (h:=h)
def EE (σ:Hp) (n1 n2 n3:Int) (R:aB):Prop:=
 (0<=(0:Int)/\(0:Int)<((3:Nat):Int)/\(0<=(1:Int)/\(1:Int)<((3:Nat):Int)/\(0<=(2:Int) /\
  (2:Int)<((3:Nat):Int)/\rt σ R (aD (if n3>(if n2>n1 then n2 else n1) then n3 else (if n2>n1 then n2 else n1))))))
def KA:MAn:=(aP (aP .leaf))
theorem K7 (σ:Hp) (n1 n2 n3:Int) (R:aB) (h:EE σ n1 n2 n3 R):Af prog 195 #[(.agg #[aD n1,aD n2,aD n3])] σ R:=
 Ae C0 KA Tryz.func195 rfl (h:=h)
def Fd (σ:Hp) (k1:aA) (y0 m1:Nat) (o1:aA) (l1 s1:Nat) (b2 m2 d2 set:Int) (R:aB):Prop:=
 wk .i64 ((y0:Int)+1) (fun n1=>(0<=n1/\n1<=n1/\n1<=(1000000000:Int)/\cut (α:=aA->Hp->Prop) (fun p5 s3=>
  ∀ _:Nat->Value,dr p5 (fun b6 o7=>ldS s3 b6 o7 (fun A8 l8 c8=>rt s3 R (aN A8 l8 c8)))) (fun J4=>
  ∃ I11:Nat->aA->aA->Int->Hp->Prop,(∃ n120,bx σ (.cells #[aN k1 y0 m1,aN o1 l1 s1,aD b2,aD m2,aD d2] 33) (fun b13 s14=>
  exl 266 [.int .i64,.int .i64,.int .i64] (List.replicate (n1:Int).toNat (0,0,0):List (Int×Int×Int)) s14 (fun A15 l15 c15 s16=>
  bx s16 (.cells #[aN A15 l15 c15] 263) (fun b17 s18=>I11 n120 (some ⟨b13,0,none⟩) (some ⟨b17,0,none⟩) 0 s18)))) /\
  ∀ n12 p19 p20 n21 s10,I11 n12 p19 p20 n21 s10->∀ _:Nat->Value,bc (decide (n21<(l1:Int))) (aF (fun s23=>wk .i64 (n21+1) (fun n25=>bk s23 n12 (fun m26 s27=>I11 m26 p19 p20 n25 s27))) (fun J24=>
  ix o1 l1 n21 4 (fun b28 a29=>ldI s10 .i64 b28 a29 (fun n30=>ldI s10 .i64 b28 (a29+1) (fun n31=>
  ldI s10 .i64 b28 (a29+2) (fun n32=>ldI s10 .i64 b28 (a29+3) (fun n33=>(0<=n21/\wk .i64 (((BitVec.ofInt (IntKind.bits .i64) (Int.fdiv set (2^(min (n21:Int).toNat (IntKind.bits .i64)))) &&& BitVec.ofInt (IntKind.bits .i64) 1).toNat:Int)) (fun n34=>
  bc (decide (n34=0)) (J24 s10) (dr p19 (fun b35 o36=>ldS s10 b35 o36 (fun A37 l37 c37=>ldS s10 b35 (o36+1) (fun A38 l38 c38=>
  ldI s10 .i64 b35 (o36+2) (fun n39=>ldI s10 .i64 b35 (o36+3) (fun n40=>ldI s10 .i64 b35 (o36+4) (fun n41=>
  aC 251 #[(.agg #[aN A37 l37 c37,aN A38 l38 c38,aD n39,aD n40,aD n41]),aD n30] s10 (fun v42 s43=>
  ∃ v44:Value,(v42=v44/\bx s43 (.cells #[aD n30,aD n31,aD n32,aD n33] 140) (fun b45 s46=>
  YF prog v44 s46 (fun l47 Rec48 ag49 s50 R51=>∃ n55:Int,(ag49=#[aD n55]/\∀ _:Nat->Value,
  rgb l47 Rec48 s50 (fun s56=>aH (fun n60 s58=>dr p20 (fun b61 o62=>
  ldS s58 b61 o62 (fun A63 l63 _=>ldI s58 .i64 b45 1 (fun n64=>ix A63 l63 n60 3 (fun b65 a66=>ix (some ⟨b65,a66,none⟩) 3 n64 1 (fun b67 a68=>
  ldI s58 .i64 b67 a68 (fun n69=>ldI s58 .i64 b45 2 (fun n70=>wk .i64 (n69+n70) (fun n71=>ix A63 l63 n60 3 (fun b72 a73=>
  ix (some ⟨b72,a73,none⟩) 3 n64 1 (fun b74 a75=>st s58 b74 a75 (aD n71) (fun s76=>rgo l47 Rec48 R51 s76)))))))))))) (fun J59=>
  bc (decide (n55=(-1))) (dr p19 (fun b77 o78=>ldS s56 b77 o78 (fun _ l79 _=>J59 (l79:Int) s56))) (J59 n55 s56))))) (fun p52 s53=>
  aft p52 (J24 s53) (rt s53 R (aN none 0 0)) (fun i=>exb i 2 (J24 s53) (exb i 1 (J24 s53) (exb i 0 (J4 p20 s53) (False)))))))))))))))))))))))) (J4 p20 s10))))
def AN:OA:=⟨[],false,[]⟩
def LT:MAn:=(aP (aP (.cut ⟨[false,false,false],3,[.slot 5 (.sc (.ptr))],[]⟩ (aP (.block (.loop ⟨[false,false,false],3,[.slot 2 (.sc (.ptr)),.slot 5 (.sc (.ptr)),.slot 17 (.sc (.int .i64))],[(1,true),(4,true),(15,true),(16,true)]⟩ (aP (.seq (.cond .leaf .leaf) (.cut ⟨[false,false,false],3,[],[(1,true),(2,true),(4,true),(5,true),(15,true),(16,true),(17,true)]⟩ (.block (aP (.seq (aP (.cond .leaf .leaf)) (aP (.block (.rng [.exp 7] [(2,true),(5,true),(7,true)] [3] (.txt []) (.block (.cut ⟨[],0,[.slot 8 (.sc (.int .i64))],[(5,true),(7,true)]⟩ (aP (.cond (.txt []) .leaf)) (.plan [12] (tkUN1 12 0 AN (.alt 12 false AN .done .done))))))))))) (.txt []))))))) (aP .leaf))))
theorem LP (σ:Hp) (k1:aA) (y0 m1:Nat) (o1:aA) (l1 s1:Nat) (b2 m2 d2 set:Int) (R:aB) (h:Fd σ k1 y0 m1 o1 l1 s1 b2 m2 d2 set R):Af prog 194 #[(.agg #[aN k1 y0 m1,aN o1 l1 s1,aD b2,aD m2,aD d2]),aD set] σ R:=
 Ae C0 LT Tryz.func194 rfl (h:=h)
def HG (σ:Hp) (k1:aA) (y0 _:Nat) (_:aA) (_ _:Nat) (b2 _ _ b:Int) (R:aB):Prop:=
 aF (fun σ2=>ix k1 y0 b 4 (fun b4 a5=>ldI σ2 .i64 b4 (a5+1) (fun n6=>
  rt σ2 R (aD n6)))) (fun J3=>aG (fun t10 s8=>bc t10 (rt s8 R (aD b2)) (J3 s8)) (fun J9=>
  bc (decide (b=(y0:Int))) (J9 true σ) (J9 (decide (b=(-1))) σ)))
def Ol:MAn:=(aP (.cut ⟨[true],1,[.slot 2 (.hb 0 0)],[(1,true)]⟩ (.cut ⟨[true],1,[.slot 2 (.hb 0 0),.slot 13 (.sc (.bool))],[(1,true)]⟩ (.txt [⟨[],false,[]⟩,⟨[],false,[]⟩,⟨[],false,[]⟩,⟨[],false,[]⟩,⟨[],false,[]⟩,⟨[],true,[]⟩]) (.cond (aP .leaf) .leaf)) (aP .leaf)))
theorem OM (σ:Hp) (k1:aA) (y0 m1:Nat) (o1:aA) (l1 s1:Nat) (b2 m2 d2 b:Int) (R:aB) (h:HG σ k1 y0 m1 o1 l1 s1 b2 m2 d2 b R):Af prog 196 #[(.agg #[aN k1 y0 m1,aN o1 l1 s1,aD b2,aD m2,aD d2]),aD b] σ R:=
 Ae C0 Ol Tryz.func196 rfl (h:=h)
def Jd (σ:Hp) (_:aA) (_ _:Nat) (_:aA) (l1 _:Nat) (_ _ _ set:Int) (R:aB):Prop:=
 (0<=(l1:Int)/\wk .i64 (1*2^(min ((l1:Int):Int).toNat (IntKind.bits .i64))) (fun n1=>
  wk .i64 (n1-1) (fun n2=>aC 129 #[aD set,aD 0,aD n2] σ (aI fun t5 s4=>(rt s4 R (.bool t5))))))
def Pu:MAn:=(aP (aP .leaf))
theorem Pp (σ:Hp) (k1:aA) (y0 m1:Nat) (o1:aA) (l1 s1:Nat) (b2 m2 d2 set:Int) (R:aB) (h:Jd σ k1 y0 m1 o1 l1 s1 b2 m2 d2 set R):Af prog 193 #[(.agg #[aN k1 y0 m1,aN o1 l1 s1,aD b2,aD m2,aD d2]),aD set] σ R:=
 Ae C0 Pu Tryz.func193 rfl (h:=h)
def E5 (σ:Hp) (k1:aA) (y0 m1:Nat) (o1:aA) (l1 s1:Nat) (b2 m2 d2 set:Int) (R:aB):Prop:=
 aC 70 #[(.agg #[aN k1 y0 m1,aN o1 l1 s1,aD b2,aD m2,aD d2])] σ (aJ fun n3 σ2=>(bc (!decide (n3=0)) (rt σ2 R (aD n3)) (aC 193 #[(.agg #[aN k1 y0 m1,aN o1 l1 s1,aD b2,aD m2,aD d2]),aD set] σ2 (aI fun t6 s5=>(bc (!t6) (rt s5 R (aD 1)) (rt s5 R (aD 0)))))))
def LV:MAn:=(aP (.seq (aP (aP (.cond (aP .leaf) .leaf))) (.seq (aP (.cond (aP .leaf) .leaf)) (aP .leaf))))
theorem LW (σ:Hp) (k1:aA) (y0 m1:Nat) (o1:aA) (l1 s1:Nat) (b2 m2 d2 set:Int) (R:aB) (h:E5 σ k1 y0 m1 o1 l1 s1 b2 m2 d2 set R):Af prog 132 #[(.agg #[aN k1 y0 m1,aN o1 l1 s1,aD b2,aD m2,aD d2]),aD set] σ R:=
 Ae C0 LV Tryz.func132 rfl (h:=h)
def ID (σ:Hp) (k1:aA) (y0 m1:Nat) (o1:aA) (l1 s1:Nat) (b2 m2 d2 set:Int) (R:aB):Prop:=
 aC 194 #[(.agg #[aN k1 y0 m1,aN o1 l1 s1,aD b2,aD m2,aD d2]),aD set] σ (aK fun A3 l3 _ σ2=>(ix A3 l3 (y0:Int) 3 (fun b4 a5=>
  ldI σ2 .i64 b4 a5 (fun n6=>ldI σ2 .i64 b4 (a5+1) (fun n7=>ldI σ2 .i64 b4 (a5+2) (fun n8=>aC 195 #[(.agg #[aD n6,aD n7,aD n8])] σ2 (aJ fun n11 s10=>((Hp.Sub σ2 s10/\bc (decide (b2<n11)) (rt s10 R (.tuple #[(aD (-1)),.bool true])) (aF (fun s13=>rt s13 R (.tuple #[aD 0,.bool false])) (fun J14=>∃ I17:Nat->Int->Hp->Prop,(∃ n180,I17 n180 0 s10) /\
  ∀ n18 n19 s16,I17 n18 n19 s16->∀ _:Nat->Value,bc (decide (n19<(y0:Int))) (ix A3 l3 n19 3 (fun b20 a21=>
  ldI s16 .i64 b20 a21 (fun n22=>ldI s16 .i64 b20 (a21+1) (fun n23=>ldI s16 .i64 b20 (a21+2) (fun n24=>
  aC 195 #[(.agg #[aD n22,aD n23,aD n24])] s16 (aJ fun n27 s26=>((Hp.Sub s16 s26/\aC 196 #[(.agg #[aN k1 y0 m1,aN o1 l1 s1,aD b2,aD m2,aD d2]),aD n19] s26 (aJ fun n30 s29=>(bc (decide (n30<n27)) (rt s29 R (.tuple #[aD n19,.bool true])) (wk .i64 (n19+1) (fun n31=>
  bk s29 n18 (fun m32 s33=>I17 m32 n31 s33))))))))))))) (J14 s16))))))))))))
def AL:OA:=⟨[],false,[]⟩
def Pe:MAn:=(aP (aP (.seq (.seq (.plan [] (tkUN1 6 0 AL (.take 7 AL (.take 8 AL (.alt 6 true AL (.take 9 AL .done) .done))))) (.cond (aP .leaf) .leaf)) (.cut ⟨[true],1,[],[]⟩ (aP (.block (.loop ⟨[true],1,[.slot 2 (.hb 0 0),.slot 24 (.sc (.int .i64))],[(6,true),(23,true)]⟩ (aP (.seq (.cond .leaf .leaf) (.seq (.block (aP (.seq (.plan [7] (tkUN1 4 0 AL (.take 5 AL (.take 6 AL (.alt 4 true AL (.alt 7 false AL (.take 8 AL .done) .done) .done))))) (.cond (aP .leaf) .leaf)))) (.txt []))))))) (aP .leaf)))))
theorem PF (σ:Hp) (k1:aA) (y0 m1:Nat) (o1:aA) (l1 s1:Nat) (b2 m2 d2 set:Int) (R:aB) (h:ID σ k1 y0 m1 o1 l1 s1 b2 m2 d2 set R):Af prog 133 #[(.agg #[aN k1 y0 m1,aN o1 l1 s1,aD b2,aD m2,aD d2]),aD set] σ R:=
 Ae C0 Pe Tryz.func133 rfl (h:=h)
def IY (σ:Hp) (k1:aA) (y0 m1:Nat) (o1:aA) (l1 s1:Nat) (b2 m2 d2 set:Int) (R:aB):Prop:=
 aC 132 #[(.agg #[aN k1 y0 m1,aN o1 l1 s1,aD b2,aD m2,aD d2]),aD set] σ (aJ fun n3 σ2=>(bc (!decide (n3=0)) (rt σ2 R (.tuple #[aD 0,.bool false,aD n3])) (aC 133 #[(.agg #[aN k1 y0 m1,aN o1 l1 s1,aD b2,aD m2,aD d2]),aD set] σ2 (fun v4 s5=>
  ∃ n6:Int,∃ t7:Bool,(v4=(.tuple #[aD n6,.bool t7])/\rt s5 R (.tuple #[aD n6,(.bool (!t7)),aD 0]))))))
def Pk:MAn:=(aP (.seq (aP (aP (.cond (aP .leaf) .leaf))) (aP (aP .leaf))))
theorem PG (σ:Hp) (k1:aA) (y0 m1:Nat) (o1:aA) (l1 s1:Nat) (b2 m2 d2 set:Int) (R:aB) (h:IY σ k1 y0 m1 o1 l1 s1 b2 m2 d2 set R):Af prog 75 #[(.agg #[aN k1 y0 m1,aN o1 l1 s1,aD b2,aD m2,aD d2]),aD set] σ R:=
 Ae C0 Pk Tryz.func75 rfl (h:=h)
theorem CY:prog.follows .mixedOrders=true:=by kernel_rfl
def GB (σ:Hp) (n low high:Int) (R:aB):Prop:=
 bc (decide (low<=n)) (rt σ R (.bool (decide (n<=high)))) (rt σ R (.bool false))
def Nc:MAn:=(aP (.seq (.txt [⟨[],false,[]⟩,⟨[],false,[]⟩,⟨[],false,[]⟩,⟨[],true,[]⟩]) .leaf))
theorem Nz (σ:Hp) (n low high:Int) (R:aB) (h:GB σ n low high R):Af prog 35 #[aD n,aD low,aD high] σ R:=
 Ae CY Nc Tryz.func35 rfl (h:=h)
def Hr (σ:Hp) (o0:aA) (m0 q0:Nat) (a1:Int) (c1:aA) (g1 h1:Nat) (d1:aA) (i1 e1:Nat) (u0:aA) (t0 w0:Nat) (r1:aA) (q1 p1:Nat) (q2:Int) (p0:aA) (n0 r0:Nat) (x0:aA) (s0 v0:Nat) (z0 j1 f1:Int) (x1:aA) (t1 w1:Nat) (e2:aA) (c2 f2:Nat) (R:aB):Prop:=
 aC 68 #[(.agg #[aN o0 m0 q0,aD a1]),aN none 0 0] σ (aJ fun n3 σ2=>(bc (!decide (n3=0)) (rt σ2 R (aD n3)) (aC 69 #[(.agg #[aN c1 g1 h1,aN d1 i1 e1,aN u0 t0 w0]),aN r1 q1 p1] σ2 (fun v4 s5=>
  ∃ n6 n7:Int,(v4=(.tuple #[aD n6,aD n7])/\bc (!decide (n7=0)) (rt s5 R (aD n7)) (aC 70 #[(.agg #[aN p0 n0 r0,aN x0 s0 v0,aD z0,aD j1,aD f1])] s5 (aJ fun n10 s9=>(bc (!decide (n10=0)) (rt s9 R (aD n10)) (aF (fun s12=>rt s12 R (aD 0)) (fun J13=>aG (fun t17 s15=>bc t17 (rt s15 R (aD 120)) (aG (fun t21 s19=>
  bc t21 (rt s19 R (aD 120)) (J13 s19)) (fun J20=>aC 71 #[aD 200] s15 (fun v22 s23=>
  ∃ v24:Value,(v22=v24/\(Hp.Sub s15 s23/\aC 33 #[aN x1 t1 w1,v24] s23 (aI fun t27 s26=>(bc t27 (J20 t27 s26) (aC 71 #[aD 100] s26 (fun v28 s29=>
  ∃ v30:Value,(v28=v30/\(Hp.Sub s26 s29/\aC 33 #[aN e2 c2 f2,v30] s29 (aI fun t33 s32=>(J20 t33 s32)))))))))))))) (fun J16=>bc (!decide ((t0:Int)=(m0:Int))) (J16 (!decide ((t0:Int)=(m0:Int))) s9) (bc (!decide ((s0:Int)=(m0:Int))) (J16 (!decide ((s0:Int)=(m0:Int))) s9) (bc (!decide ((t1:Int)=(m0:Int))) (J16 (!decide ((t1:Int)=(m0:Int))) s9) (bc (!decide ((c2:Int)=(m0:Int))) (J16 (!decide ((c2:Int)=(m0:Int))) s9) (aC 35 #[aD q2,aD 0,aD 10000] s9 (aI fun t36 s35=>(J16 (!t36) s35)))))))))))))))))
def B6:OA:=⟨[],false,[]⟩
def Ih:MAn:=(.plan [4] (.take 0 B6 (.take 1 B6 (.take 2 B6 (.alt 3 true B6 (.alt 4 false B6 (.take 5 B6 .done) .done) .done)))))
def Og:MAn:=(aP (.seq (aP (aP (.cond (aP .leaf) .leaf))) (.seq (aP (aP (.cond (aP .leaf) .leaf))) (.seq (aP (aP (.cond (aP .leaf) .leaf))) (aP (aP (.cut ⟨[true],1,[],[]⟩ (.block (.cut ⟨[true],1,[.slot 1 (.hb 0 0),.slot 36 (.sc (.bool))],[(8,true)]⟩ (aP (.cond .leaf (aP (.cond .leaf (aP (.cond .leaf (aP (.cond .leaf (.txt []))))))))) (.cond (aP .leaf) (.cut ⟨[true],1,[.slot 63 (.sc (.bool))],[]⟩ (.seq Ih (.cond .leaf Ih)) (.cond (aP .leaf) .leaf))))) (aP .leaf))))))))
theorem OR (σ:Hp) (o0:aA) (m0 q0:Nat) (a1:Int) (c1:aA) (g1 h1:Nat) (d1:aA) (i1 e1:Nat) (u0:aA) (t0 w0:Nat) (r1:aA) (q1 p1:Nat) (q2:Int) (p0:aA) (n0 r0:Nat) (x0:aA) (s0 v0:Nat) (z0 j1 f1:Int) (x1:aA) (t1 w1:Nat) (e2:aA) (c2 f2:Nat) (R:aB) (h:Hr σ o0 m0 q0 a1 c1 g1 h1 d1 i1 e1 u0 t0 w0 r1 q1 p1 q2 p0 n0 r0 x0 s0 v0 z0 j1 f1 x1 t1 w1 e2 c2 f2 R):Af prog 32 #[(.agg #[aN o0 m0 q0,aD a1,aN c1 g1 h1,aN d1 i1 e1,aN u0 t0 w0,aN r1 q1 p1,aD q2,aN p0 n0 r0,aN x0 s0 v0,aD z0,aD j1,aD f1,aN x1 t1 w1,aN e2 c2 f2])] σ R:=
 Ae CY Og Tryz.func32 rfl (h:=h)
def JD (σ:Hp) (most:Int) (R:aB):Prop:=
 bx σ (.cells #[aD most] 3) (fun b1 σ2=>rt σ2 R (.func (.func 72) #[] #[(.pointer (some ⟨b1,0,none⟩))]))
def L4:MAn:=(aP (aP .leaf))
theorem Mx (σ:Hp) (most:Int) (R:aB) (h:JD σ most R):Af prog 71 #[aD most] σ R:=
 Ae CY L4 Tryz.func71 rfl (h:=h)
def Ey (σ:Hp) (x:Int) (cap0:aA) (R:aB):Prop:=
 dr cap0 (fun b1 o2=>ldI σ .i64 b1 o2 (fun n3=>aC 35 #[aD x,aD 0,aD n3] σ (aI fun t6 s5=>(rt s5 R (.bool (!t6))))))
def KK:MAn:=(aP (aP .leaf))
theorem KL (σ:Hp) (x:Int) (cap0:aA) (R:aB) (h:Ey σ x cap0 R):Af prog 72 #[aD x,.pointer cap0] σ R:=
 Ae CY KK Tryz.func72 rfl (h:=h)
def HF (σ:Hp) (_:aA) (_ _:Nat) (_:Int) (c1:aA) (g1 h1:Nat) (d1:aA) (i1 e1:Nat) (u0:aA) (t0 w0:Nat) (r1:aA) (q1 p1:Nat) (q2:Int) (p0:aA) (n0 r0:Nat) (x0:aA) (s0 v0:Nat) (z0 j1 f1:Int) (_:aA) (_ _:Nat) (_:aA) (_ _:Nat) (R:aB):Prop:=
 aC 74 #[(.agg #[aN c1 g1 h1,aN d1 i1 e1,aN u0 t0 w0]),aN r1 q1 p1,aD q2] σ (fun v1 σ2=>
  ∃ A3:aA,∃ l3 c3:Nat,∃ n4:Int,(v1=(.tuple #[aN A3 l3 c3,aD n4]) /\
  bc (!decide (n4=0)) (rt σ2 R (aN none 0 0)) (cut (α:=aA->Nat->Nat->Hp->Prop) (fun A8 l8 c8 s6=>
  ∀ _:Nat->Value,rt s6 R (aN A8 l8 c8)) (fun J7=>∃ I11:Nat->aA->Nat->Nat->Int->Int->Hp->Prop,(∃ n120,I11 n120 none 0 0 0 0 σ2) /\
  ∀ n12 A13 l13 c13 n14 n15 s10,I11 n12 A13 l13 c13 n14 n15 s10->∀ _:Nat->Value,bc (decide (n15<(l3:Int))) (cut (α:=aA->Nat->Nat->Int->Hp->Prop) (fun A19 l19 c19 n20 s17=>
  ∀ _:Nat->Value,wk .i64 (n15+1) (fun n21=>bk s17 n12 (fun m22 s23=>I11 m22 A19 l19 c19 n20 n21 s23))) (fun J18=>
  ix A3 l3 n15 1 (fun b24 a25=>ldI s10 .i64 b24 a25 (fun n26=>(0<=n26/\wk .i64 (1*2^(min (n26:Int).toNat (IntKind.bits .i64))) (fun n27=>
  wk .i64 (((BitVec.ofInt (IntKind.bits .i64) n14 ||| BitVec.ofInt (IntKind.bits .i64) n27).toNat:Int)) (fun n28=>
  aC 75 #[(.agg #[aN p0 n0 r0,aN x0 s0 v0,aD z0,aD j1,aD f1]),aD n28] s10 (fun v29 s30=>
  ∃ n31:Int,∃ t32:Bool,∃ n33:Int,(v29=(.tuple #[aD n31,.bool t32,aD n33]) /\
  aG (fun t37 s35=>bc t37 ((0<=n26/\wk .i64 (1*2^(min (n26:Int).toNat (IntKind.bits .i64))) (fun n38=>
  wk .i64 (((BitVec.ofInt (IntKind.bits .i64) n14 ||| BitVec.ofInt (IntKind.bits .i64) n38).toNat:Int)) (fun n39=>
  adp 3 aM A13 l13 c13 s35 (fun (xs40:List Int) s41=>AZ (List.length xs40+List.length ([n26]:List Int)) (exl 3 aM (xs40++([n26]:List Int)) s41 (fun A42 l42 c42 s43=>
  J18 A42 l42 c42 n39 s43))))))) (J18 A13 l13 c13 n14 s35)) (fun J36=>bc (decide (n33=0)) (J36 t32 s30) (J36 false s30))))))))))) (J7 A13 l13 c13 s10)))))
def AQ:OA:=⟨[],false,[]⟩
def Oe:MAn:=(aP (aP (.seq (aP (.cond (aP .leaf) .leaf)) (aP (.cut ⟨[true],1,[.slot 2 (.sc (.slc))],[]⟩ (aP (.block (.loop ⟨[true],1,[.slot 1 (.hb 0 0),.slot 2 (.sc (.slc)),.slot 5 (.sc (.int .i64)),.slot 25 (.sc (.int .i64))],[(23,true),(24,true)]⟩ (aP (.seq (.cond .leaf .leaf) (.cut ⟨[true],1,[.slot 1 (.hb 0 0),.slot 2 (.sc (.slc)),.slot 5 (.sc (.int .i64))],[(23,true),(24,true),(25,true)]⟩ (.block (aP (.seq (.plan [6] (tkUN1 6 0 AQ (.alt 6 false AQ (tkUN1 7 7 AQ .done) .done))) (.cut ⟨[true],1,[.slot 1 (.hb 0 0),.slot 44 (.sc (.bool))],[(2,true),(5,true),(7,true),(23,true),(24,true),(25,true)]⟩ (.txt [AQ,AQ,⟨[],true,[]⟩]) (.cond (aP (.txt [])) .leaf))))) (.txt []))))))) (aP .leaf))))))
theorem OE (σ:Hp) (o0:aA) (m0 q0:Nat) (a1:Int) (c1:aA) (g1 h1:Nat) (d1:aA) (i1 e1:Nat) (u0:aA) (t0 w0:Nat) (r1:aA) (q1 p1:Nat) (q2:Int) (p0:aA) (n0 r0:Nat) (x0:aA) (s0 v0:Nat) (z0 j1 f1:Int) (x1:aA) (t1 w1:Nat) (e2:aA) (c2 f2:Nat) (R:aB) (h:HF σ o0 m0 q0 a1 c1 g1 h1 d1 i1 e1 u0 t0 w0 r1 q1 p1 q2 p0 n0 r0 x0 s0 v0 z0 j1 f1 x1 t1 w1 e2 c2 f2 R):Af prog 36 #[(.agg #[aN o0 m0 q0,aD a1,aN c1 g1 h1,aN d1 i1 e1,aN u0 t0 w0,aN r1 q1 p1,aD q2,aN p0 n0 r0,aN x0 s0 v0,aD z0,aD j1,aD f1,aN x1 t1 w1,aN e2 c2 f2])] σ R:=
 Ae CY Oe Tryz.func36 rfl (h:=h)
def HC (σ:Hp) (o0:aA) (m0 q0:Nat) (a1:Int) (c1:aA) (g1 h1:Nat) (d1:aA) (i1 e1:Nat) (u0:aA) (t0 w0:Nat) (r1:aA) (q1 p1:Nat) (q2:Int) (p0:aA) (n0 r0:Nat) (x0:aA) (s0 v0:Nat) (z0 j1 f1:Int) (x1:aA) (t1 w1:Nat) (e2:aA) (c2 f2:Nat) (R:aB):Prop:=
 aC 32 #[(.agg #[aN o0 m0 q0,aD a1,aN c1 g1 h1,aN d1 i1 e1,aN u0 t0 w0,aN r1 q1 p1,aD q2,aN p0 n0 r0,aN x0 s0 v0,aD z0,aD j1,aD f1,aN x1 t1 w1,aN e2 c2 f2])] σ (aJ fun n3 σ2=>(bc (!decide (n3=0)) (rt σ2 R (.tuple #[aN none 0 0,aD n3])) (aC 36 #[(.agg #[aN o0 m0 q0,aD a1,aN c1 g1 h1,aN d1 i1 e1,aN u0 t0 w0,aN r1 q1 p1,aD q2,aN p0 n0 r0,aN x0 s0 v0,aD z0,aD j1,aD f1,aN x1 t1 w1,aN e2 c2 f2])] σ2 (aK fun A6 l6 c6 s5=>(rt s5 R (.tuple #[aN A6 l6 c6,aD 0]))))))
def Ot:MAn:=(aP (.seq (aP (aP (.cond (aP .leaf) .leaf))) (aP .leaf)))
theorem OP (σ:Hp) (o0:aA) (m0 q0:Nat) (a1:Int) (c1:aA) (g1 h1:Nat) (d1:aA) (i1 e1:Nat) (u0:aA) (t0 w0:Nat) (r1:aA) (q1 p1:Nat) (q2:Int) (p0:aA) (n0 r0:Nat) (x0:aA) (s0 v0:Nat) (z0 j1 f1:Int) (x1:aA) (t1 w1:Nat) (e2:aA) (c2 f2:Nat) (R:aB) (h:HC σ o0 m0 q0 a1 c1 g1 h1 d1 i1 e1 u0 t0 w0 r1 q1 p1 q2 p0 n0 r0 x0 s0 v0 z0 j1 f1 x1 t1 w1 e2 c2 f2 R):Af prog 31 #[(.agg #[aN o0 m0 q0,aD a1,aN c1 g1 h1,aN d1 i1 e1,aN u0 t0 w0,aN r1 q1 p1,aD q2,aN p0 n0 r0,aN x0 s0 v0,aD z0,aD j1,aD f1,aN x1 t1 w1,aN e2 c2 f2])] σ R:=
 Ae CY Ot Tryz.func31 rfl (h:=h)
def Hy (σ:Hp) (o0:aA) (m0 q0:Nat) (a1:Int) (c1:aA) (g1 h1:Nat) (d1:aA) (i1 e1:Nat) (u0:aA) (t0 w0:Nat) (r1:aA) (q1 p1:Nat) (q2:Int) (p0:aA) (n0 r0:Nat) (x0:aA) (s0 v0:Nat) (z0 j1 f1:Int) (x1:aA) (t1 w1:Nat) (e2:aA) (c2 f2:Nat) (l_A:aA) (l_n l_c:Nat) (R:aB):Prop:=
 aC 32 #[(.agg #[aN o0 m0 q0,aD a1,aN c1 g1 h1,aN d1 i1 e1,aN u0 t0 w0,aN r1 q1 p1,aD q2,aN p0 n0 r0,aN x0 s0 v0,aD z0,aD j1,aD f1,aN x1 t1 w1,aN e2 c2 f2])] σ (aJ fun n3 σ2=>(bc (!decide (n3=0)) (rt σ2 R (.tuple #[.pointer none,aD n3])) (aC 68 #[(.agg #[aN o0 m0 q0,aD a1]),aN l_A l_n l_c] σ2 (aJ fun n6 s5=>(bc (!decide (n6=0)) (rt s5 R (.tuple #[.pointer none,aD n6])) (aC 36 #[(.agg #[aN o0 m0 q0,aD a1,aN c1 g1 h1,aN d1 i1 e1,aN u0 t0 w0,aN r1 q1 p1,aD q2,aN p0 n0 r0,aN x0 s0 v0,aD z0,aD j1,aD f1,aN x1 t1 w1,aN e2 c2 f2])] s5 (aK fun A9 l9 c9 s8=>(cut (α:=aA->Nat->Nat->Int->List (Int×Int×Int×(aA×Nat×Nat)×Int×(aA×Nat×Nat))->Hp->Prop) (fun A13 l13 c13 n14 xs15 s11=>
  ∀ _:Nat->Value,exl 115 [.int .i64,.int .i64,.int .i64,.slc,.int .i64,.slc] xs15 s11 (fun A16 l16 c16 s17=>
  bx s17 (.cells #[aN A13 l13 c13,aD n14,aN A16 l16 c16] 118) (fun b18 s19=>rt s19 R (.tuple #[(.pointer (some ⟨b18,0,none⟩)),aD 0])))) (fun J12=>
  ∃ I22:Nat->Int->aA->Nat->Nat->Int->List (Int×Int×Int×(aA×Nat×Nat)×Int×(aA×Nat×Nat))->Hp->Prop,(∃ n230,adp 115 [.int .i64,.int .i64,.int .i64,.slc,.int .i64,.slc] none 0 0 s8 (fun (xs24:List (Int×Int×Int×(aA×Nat×Nat)×Int×(aA×Nat×Nat))) s25=>
  I22 n230 0 o0 m0 q0 a1 xs24 s25))/\∀ n23 n26 A27 l27 c27 n28 xs29 s21,I22 n23 n26 A27 l27 c27 n28 xs29 s21->∀ _:Nat->Value,bc (decide (n26<(l_n:Int))) (cut (α:=aA->Nat->Nat->Int->List (Int×Int×Int×(aA×Nat×Nat)×Int×(aA×Nat×Nat))->Hp->Prop) (fun A33 l33 c33 n34 xs35 s31=>
  ∀ _:Nat->Value,wk .i64 (n26+1) (fun n36=>bk s31 n23 (fun m37 s38=>I22 m37 n36 A33 l33 c33 n34 xs35 s38))) (fun J32=>
  ix l_A l_n n26 5 (fun b39 a40=>ldI s21 .i64 b39 a40 (fun n41=>ldI s21 .i64 b39 (a40+1) (fun n42=>
  ldI s21 .i64 b39 (a40+2) (fun n43=>ldS s21 b39 (a40+3) (fun A44 l44 _=>ldI s21 .i64 b39 (a40+4) (fun n45=>
  cut (α:=Int->Int->Int->List Int->Int->List Int->Hp->Prop) (fun n49 n50 n51 xs52 n53 xs54 s47=>
  ∀ _:Nat->Value,exl 3 aM xs52 s47 (fun A55 l55 c55 s56=>exl 3 aM xs54 s56 (fun A57 l57 c57 s58=>
  bx s58 (.cells #[aD n49,aD n50,aD n51,aN A55 l55 c55,aD n53,aN A57 l57 c57] 115) (fun b59 s60=>
  (Hp.Sub s58 s60/\∃ ys61:List (Int×Int×Int×(aA×Nat×Nat)×Int×(aA×Nat×Nat)),RdS [.int .i64,.int .i64,.int .i64,.slc,.int .i64,.slc] s60 (some ⟨b59,0,none⟩) 1 ys61 /\
  AZ (List.length xs29+List.length ys61) (J32 A27 l27 c27 n28 (xs29++ys61) s60)))))) (fun J48=>
  ∃ I64:Nat->Int->Int->Int->Int->List Int->Int->List Int->Hp->Prop,(∃ n650,adp 3 aM none 0 0 s21 (fun (xs66:List Int) s67=>
  adp 3 aM none 0 0 s67 (fun (xs68:List Int) s69=>I64 n650 0 n41 n42 n43 xs66 n45 xs68 s69))) /\
  ∀ n65 n70 n71 n72 n73 xs74 n75 xs76 s63,I64 n65 n70 n71 n72 n73 xs74 n75 xs76 s63->∀ _:Nat->Value,bc (decide (n70<(l44:Int))) (cut (α:=Int->Int->Int->List Int->Int->List Int->Hp->Prop) (fun n80 n81 n82 xs83 n84 xs85 s78=>
  ∀ _:Nat->Value,wk .i64 (n70+1) (fun n86=>bk s78 n65 (fun m87 s88=>I64 m87 n86 n80 n81 n82 xs83 n84 xs85 s88))) (fun J79=>
  ix A44 l44 n70 1 (fun b89 a90=>ldI s63 .i64 b89 a90 (fun n91=>aC 89 #[aN A9 l9 c9,aD n91] s63 (aI fun t94 s93=>(bc t94 (AZ (List.length xs74+List.length ([n91]:List Int)) (AZ (List.length xs76+List.length ([n70]:List Int)) (J79 n71 n72 n73 (xs74++([n91]:List Int)) n75 (xs76++([n70]:List Int)) s93))) (J79 n71 n72 n73 xs74 n75 xs76 s93))))))) (J48 n71 n72 n73 xs74 n75 xs76 s63)))))))))) (J12 A27 l27 c27 n28 xs29 s21))))))))))
def Bc:OA:=⟨[],false,[]⟩
def OL:MAn:=(aP (.seq (aP (aP (.cond (aP .leaf) .leaf))) (.seq (aP (aP (.cond (aP .leaf) .leaf))) (aP (aP (.cut ⟨[true,false],3,[.slot 9 (.hb 1 0),.modb 1 118 [.sc (.slc),.sc (.int .i64),.lst 2 115 [.int .i64,.int .i64,.int .i64,.slc,.int .i64,.slc]]],[]⟩ (aP (.block (.loop ⟨[true,false],3,[.slot 9 (.hb 1 0),.slot 35 (.sc (.int .i64)),.modb 1 118 [.sc (.slc),.sc (.int .i64),.lst 2 115 [.int .i64,.int .i64,.int .i64,.slc,.int .i64,.slc]]],[(8,true),(33,true),(34,true)]⟩ (aP (.seq (.cond .leaf .leaf) (.cut ⟨[true,false,false],3,[.slot 9 (.hb 1 0),.modb 1 118 [.sc (.slc),.sc (.int .i64),.lst 2 115 [.int .i64,.int .i64,.int .i64,.slc,.int .i64,.slc]]],[(8,true),(33,true),(34,true),(35,true)]⟩ (.block (aP (aP (aP (.cut ⟨[true,true,true,true,false],7,[.slot 9 (.hb 1 0),.slot 12 (.hb 4 0),.modb 4 115 [.sc (.int .i64),.sc (.int .i64),.sc (.int .i64),.lst 5 3 aM,.sc (.int .i64),.lst 6 3 aM]],[(8,true),(33,true),(34,true),(35,true)]⟩ (aP (.block (.loop ⟨[true,true,true,true,false],7,[.slot 9 (.hb 1 0),.slot 12 (.hb 4 0),.slot 46 (.sc (.int .i64)),.modb 4 115 [.sc (.int .i64),.sc (.int .i64),.sc (.int .i64),.lst 5 3 aM,.sc (.int .i64),.lst 6 3 aM]],[(8,true),(33,true),(34,true),(35,true),(44,true),(45,true)]⟩ (aP (.seq (.cond .leaf .leaf) (.cut ⟨[true,true,true,true,false,false,false],7,[.slot 9 (.hb 1 0),.slot 12 (.hb 4 0),.modb 4 115 [.sc (.int .i64),.sc (.int .i64),.sc (.int .i64),.lst 5 3 aM,.sc (.int .i64),.lst 6 3 aM]],[(8,true),(33,true),(34,true),(35,true),(44,true),(45,true),(46,true)]⟩ (.block (aP (aP (.cond (aP (.txt [])) .leaf)))) (.txt []))))))) (.plan [7,10] (tkUN1 6 0 Bc (.alt 6 true Bc (.alt 7 false Bc (.take 8 Bc (.take 9 Bc (.alt 10 false Bc .done .done))) .done) .done)))))))) (.txt []))))))) (aP .leaf)))))))
theorem Ox (σ:Hp) (o0:aA) (m0 q0:Nat) (a1:Int) (c1:aA) (g1 h1:Nat) (d1:aA) (i1 e1:Nat) (u0:aA) (t0 w0:Nat) (r1:aA) (q1 p1:Nat) (q2:Int) (p0:aA) (n0 r0:Nat) (x0:aA) (s0 v0:Nat) (z0 j1 f1:Int) (x1:aA) (t1 w1:Nat) (e2:aA) (c2 f2:Nat) (l_A:aA) (l_n l_c:Nat) (R:aB) (h:Hy σ o0 m0 q0 a1 c1 g1 h1 d1 i1 e1 u0 t0 w0 r1 q1 p1 q2 p0 n0 r0 x0 s0 v0 z0 j1 f1 x1 t1 w1 e2 c2 f2 l_A l_n l_c R):Af prog 46 #[(.agg #[aN o0 m0 q0,aD a1,aN c1 g1 h1,aN d1 i1 e1,aN u0 t0 w0,aN r1 q1 p1,aD q2,aN p0 n0 r0,aN x0 s0 v0,aD z0,aD j1,aD f1,aN x1 t1 w1,aN e2 c2 f2]),aN l_A l_n l_c] σ R:=
 Ae CY OL Tryz.func46 rfl (h:=h)
def Cm (σ:Hp) (n:aA) (R:aB):Prop:=
 cut (α:=List (Int×Int×Int×(aA×Nat×Nat)×Int)->Hp->Prop) (fun xs4 σ2=>∀ _:Nat->Value,
  exl 65 [.int .i64,.int .i64,.int .i64,.slc,.int .i64] xs4 σ2 (fun A5 l5 c5 s6=>rt s6 R (aN A5 l5 c5))) (fun J3=>
  dr n (fun b7 o8=>ldS σ b7 (o8+2) (fun A9 l9 _=>∃ I12:Nat->List (Int×Int×Int×(aA×Nat×Nat)×Int)->Int->Hp->Prop,(∃ n130,adp 65 [.int .i64,.int .i64,.int .i64,.slc,.int .i64] none 0 0 σ (fun (xs14:List (Int×Int×Int×(aA×Nat×Nat)×Int)) s15=>
  I12 n130 xs14 0 s15))/\∀ n13 xs16 n17 s11,I12 n13 xs16 n17 s11->∀ _:Nat->Value,bc (decide (n17<(l9:Int))) (ix A9 l9 n17 6 (fun b18 a19=>
  ldI s11 .i64 b18 a19 (fun n20=>ldI s11 .i64 b18 (a19+1) (fun n21=>ldI s11 .i64 b18 (a19+2) (fun n22=>
  ldS s11 b18 (a19+3) (fun A23 l23 c23=>ldI s11 .i64 b18 (a19+4) (fun n24=>ldS s11 b18 (a19+5) (fun _ _ _=>
  AZ (List.length xs16+List.length ([(n20,n21,n22,(A23,l23,c23),n24)]:List (Int×Int×Int×(aA×Nat×Nat)×Int))) (wk .i64 (n17+1) (fun n26=>
  bk s11 n13 (fun m27 s28=>I12 m27 (xs16++([(n20,n21,n22,(A23,l23,c23),n24)]:List (Int×Int×Int×(aA×Nat×Nat)×Int))) n26 s28))))))))))) (J3 xs16 s11))))
def G5:MAn:=(aP (.cut ⟨[],1,[.slot 2 (.lst 0 65 [.int .i64,.int .i64,.int .i64,.slc,.int .i64])],[]⟩ (aP (.block (.loop ⟨[],1,[.slot 2 (.lst 0 65 [.int .i64,.int .i64,.int .i64,.slc,.int .i64]),.slot 10 (.sc (.int .i64))],[(8,true),(9,true)]⟩ (aP (.seq (.cond .leaf .leaf) (.seq (.block (aP (.txt []))) (.txt []))))))) (aP .leaf)))
theorem G9 (σ:Hp) (n:aA) (R:aB) (h:Cm σ n R):Af prog 54 #[.pointer n] σ R:=
 Ae CY G5 Tryz.func54 rfl (h:=h)
def FV (σ:Hp) (o0:aA) (m0 q0:Nat) (a1:Int) (c1:aA) (g1 h1:Nat) (d1:aA) (i1 e1:Nat) (u0:aA) (t0 w0:Nat) (r1:aA) (q1 p1:Nat) (q2:Int) (p0:aA) (n0 r0:Nat) (x0:aA) (s0 v0:Nat) (z0 j1 f1:Int) (x1:aA) (t1 w1:Nat) (e2:aA) (c2 f2:Nat) (l_A:aA) (l_n l_c:Nat) (R:aB):Prop:=
 aC 46 #[(.agg #[aN o0 m0 q0,aD a1,aN c1 g1 h1,aN d1 i1 e1,aN u0 t0 w0,aN r1 q1 p1,aD q2,aN p0 n0 r0,aN x0 s0 v0,aD z0,aD j1,aD f1,aN x1 t1 w1,aN e2 c2 f2]),aN l_A l_n l_c] σ (fun v1 σ2=>
  ∃ p3:aA,∃ n4:Int,(v1=(.tuple #[.pointer p3,aD n4])/\bc (!decide (n4=0)) (rt σ2 R (.tuple #[aD 0,aD n4])) (dr p3 (fun b5 o6=>
  ldS σ2 b5 o6 (fun A7 l7 c7=>ldI σ2 .i64 b5 (o6+1) (fun n8=>aC 54 #[.pointer p3] σ2 (aK fun A11 l11 c11 s10=>((Hp.Sub σ2 s10/\aC 50 #[(.agg #[aN A7 l7 c7,aD n8]),aN A11 l11 c11] s10 (fun v12 s13=>
  ∃ A14:aA,∃ l14 c14:Nat,∃ n15:Int,(v12=(.tuple #[aN A14 l14 c14,aD n15]) /\
  bc (!decide (n15=0)) (rt s13 R (.tuple #[aD 0,aD n15])) (aH (fun n19 s17=>rt s17 R (.tuple #[aD n19,aD 0])) (fun J18=>dr p3 (fun b20 o21=>
  ldS s13 b20 (o21+2) (fun A22 l22 _=>∃ I25:Nat->Int->Int->Hp->Prop,(∃ n260,I25 n260 0 0 s13) /\
  ∀ n26 n27 n28 s24,I25 n26 n27 n28 s24->∀ _:Nat->Value,bc (decide (n28<(l22:Int))) (aH (fun n32 s30=>wk .i64 (n28+1) (fun n33=>bk s30 n26 (fun m34 s35=>I25 m34 n32 n33 s35))) (fun J31=>
  ix A22 l22 n28 6 (fun b36 a37=>ldI s24 .i64 b36 a37 (fun n38=>ldI s24 .i64 b36 (a37+1) (fun _=>
  ldI s24 .i64 b36 (a37+2) (fun _=>ldS s24 b36 (a37+3) (fun _ _ _=>ldI s24 .i64 b36 (a37+4) (fun _=>
  ldS s24 b36 (a37+5) (fun _ _ _=>aH (fun n47 s45=>
  J31 (if n47>n27 then n47 else n27) s45) (fun J46=>dr p3 (fun b48 o49=>ldS s24 b48 (o49+2) (fun A50 l50 _=>
  ∃ I53:Nat->Int->Int->Hp->Prop,(∃ n540,I53 n540 0 0 s24)/\∀ n54 n55 n56 s52,I53 n54 n55 n56 s52->∀ _:Nat->Value,bc (decide (n56<(l50:Int))) (aH (fun n60 s58=>wk .i64 (n56+1) (fun n61=>bk s58 n54 (fun m62 s63=>I53 m62 n60 n61 s63))) (fun J59=>
  ix A50 l50 n56 6 (fun b64 a65=>ldI s52 .i64 b64 a65 (fun n66=>ldI s52 .i64 b64 (a65+1) (fun n67=>
  ldI s52 .i64 b64 (a65+2) (fun _=>ldS s52 b64 (a65+3) (fun _ _ _=>ldI s52 .i64 b64 (a65+4) (fun _=>
  ldS s52 b64 (a65+5) (fun _ _ _=>aG (fun t75 s73=>
  bc t75 (wk .i64 (n55+n67) (fun n76=>J59 n76 s73)) (J59 n55 s73)) (fun J74=>bc (decide (n66<=n38)) (ix A14 l14 n56 1 (fun b77 a78=>
  ldI s52 .i64 b77 a78 (fun n79=>bc (decide (n79<0)) (J74 true s52) (ix A14 l14 n56 1 (fun b80 a81=>
  ldI s52 .i64 b80 a81 (fun n82=>J74 (decide (n38<n82)) s52)))))) (J74 false s52))))))))))) (J46 n55 s52))))))))))))) (J18 n27 s24))))))))))))))))
def An:OA:=⟨[],false,[]⟩
def MF:MAn:=(aP (aP (.seq (aP (.cond (aP .leaf) .leaf)) (.seq (.plan [6] (tkUN1 5 0 An (.alt 5 true An (.alt 6 false An (tkUN1 5 7 An .done) .done) .done))) (.seq (aP (.cond (aP .leaf) .leaf)) (.cut ⟨[true],1,[.slot 4 (.sc (.int .i64))],[]⟩ (aP (.block (.loop ⟨[true],1,[.slot 4 (.sc (.int .i64)),.slot 40 (.sc (.int .i64))],[(6,true),(7,true),(38,true),(39,true)]⟩ (aP (.seq (.cond .leaf .leaf) (.cut ⟨[true],1,[.slot 4 (.sc (.int .i64))],[(6,true),(7,true),(38,true),(39,true),(40,true)]⟩ (.block (aP (aP (.cut ⟨[true,true],2,[.slot 10 (.sc (.int .i64))],[(4,true),(6,true),(7,true),(38,true),(39,true),(40,true)]⟩ (aP (.block (.loop ⟨[true,true],2,[.slot 9 (.hb 1 0),.slot 10 (.sc (.int .i64)),.slot 49 (.sc (.int .i64))],[(4,true),(6,true),(7,true),(38,true),(39,true),(40,true),(47,true),(48,true)]⟩ (aP (.seq (.cond .leaf .leaf) (.cut ⟨[true,true],2,[.slot 9 (.hb 1 0),.slot 10 (.sc (.int .i64))],[(4,true),(6,true),(7,true),(38,true),(39,true),(40,true),(47,true),(48,true),(49,true)]⟩ (.block (aP (.cut ⟨[true,true,true],3,[.slot 9 (.hb 1 0),.slot 12 (.hb 2 0),.slot 77 (.sc (.bool))],[(4,true),(6,true),(7,true),(10,true),(38,true),(39,true),(40,true),(47,true),(48,true),(49,true)]⟩ (.plan [] (tkUN1 7 0 An (.take 7 ⟨[],true,[]⟩ (tkUN1 5 8 An (.take 13 ⟨[],true,[]⟩ (tkUN1 10 14 An .done)))))) (.cond (.txt []) .leaf)))) (.txt []))))))) (.txt []))))) (.txt []))))))) (aP .leaf)))))))
theorem Mk (σ:Hp) (o0:aA) (m0 q0:Nat) (a1:Int) (c1:aA) (g1 h1:Nat) (d1:aA) (i1 e1:Nat) (u0:aA) (t0 w0:Nat) (r1:aA) (q1 p1:Nat) (q2:Int) (p0:aA) (n0 r0:Nat) (x0:aA) (s0 v0:Nat) (z0 j1 f1:Int) (x1:aA) (t1 w1:Nat) (e2:aA) (c2 f2:Nat) (l_A:aA) (l_n l_c:Nat) (R:aB) (h:FV σ o0 m0 q0 a1 c1 g1 h1 d1 i1 e1 u0 t0 w0 r1 q1 p1 q2 p0 n0 r0 x0 s0 v0 z0 j1 f1 x1 t1 w1 e2 c2 f2 l_A l_n l_c R):Af prog 23 #[(.agg #[aN o0 m0 q0,aD a1,aN c1 g1 h1,aN d1 i1 e1,aN u0 t0 w0,aN r1 q1 p1,aD q2,aN p0 n0 r0,aN x0 s0 v0,aD z0,aD j1,aD f1,aN x1 t1 w1,aN e2 c2 f2]),aN l_A l_n l_c] σ R:=
 Ae CY MF Tryz.func23 rfl (h:=h)
def Cw (σ:Hp) (s_A:aA) (s_n s_c:Nat) (v:Int) (R:aB):Prop:=
 aC 146 #[aN s_A s_n s_c,aD v] σ (fun v1 σ2=>∃ n3:Int,(v1=(aD n3) /\
  rt σ2 R (.bool (decide ((0:Int)<=n3)))))
def HK:MAn:=(aP (aP .leaf))
theorem HX (σ:Hp) (s_A:aA) (s_n s_c:Nat) (v:Int) (R:aB) (h:Cw σ s_A s_n s_c v R):Af prog 89 #[aN s_A s_n s_c,aD v] σ R:=
 Ae CY HK Tryz.func89 rfl (h:=h)
def DE (σ:Hp) (s_A:aA) (s_n _:Nat) (v:Int) (R:aB):Prop:=
 aF (fun σ2=>rt σ2 R (aD (-1))) (fun J3=>∃ I6:Nat->Int->Hp->Prop,(∃ n70,I6 n70 0 σ) /\
  ∀ n7 n8 s5,I6 n7 n8 s5->∀ _:Nat->Value,bc (decide (n8<(s_n:Int))) (ix s_A s_n n8 1 (fun b9 a10=>
  ldI s5 .i64 b9 a10 (fun n11=>bc (decide (v=n11)) (rt s5 R (aD n8)) (wk .i64 (n8+1) (fun n12=>
  bk s5 n7 (fun m13 s14=>I6 m13 n12 s14)))))) (J3 s5))
def JP:MAn:=(aP (.cut ⟨[],0,[],[]⟩ (aP (.block (.loop ⟨[],0,[.slot 8 (.sc (.int .i64))],[(0,true),(1,true),(7,true)]⟩ (aP (.seq (.cond .leaf .leaf) (.seq (.block (aP (aP (.cond (aP .leaf) .leaf)))) (.txt []))))))) (aP .leaf)))
theorem JV (σ:Hp) (s_A:aA) (s_n s_c:Nat) (v:Int) (R:aB) (h:DE σ s_A s_n s_c v R):Af prog 146 #[aN s_A s_n s_c,aD v] σ R:=
 Ae CY JP Tryz.func146 rfl (h:=h)
theorem Qg:prog.follows .mixedOrders=true:=by kernel_rfl
def BX (σ:Hp) (x_A:aA) (x_n x_c:Nat) (cmp:Value) (R:aB):Prop:=
 aC 90 #[aN x_A x_n x_c,(aD (x_n:Int)),cmp] σ (fun _ σ2=>
  rt σ2 R (.tuple #[]))
def E0:MAn:=(.txt [])
theorem EZ (σ:Hp) (x_A:aA) (x_n x_c:Nat) (cmp:Value) (R:aB) (h:BX σ x_A x_n x_c cmp R):Af prog 47 #[aN x_A x_n x_c,cmp] σ R:=
 Ae Qg E0 Tryz.func47 rfl (h:=h)
def B1 (σ:Hp) (w2:aA) (u2 y2:Nat) (n:Int) (cmp:Value) (R:aB):Prop:=
 aH (fun n4 σ2=>aC 147 #[aN w2 u2 y2,aD n4,aD n,cmp] σ2 (fun _ s6=>
  ∃ I10:Nat->Int->Hp->Prop,(∃ n110,I10 n110 20 s6)/\∀ n11 n12 s9,I10 n11 n12 s9->∀ _:Nat->Value,bc (decide (n12<n)) (wk .i64 (2*n12) (fun n13=>
  aH (fun n17 s15=>aF (fun s19=>
  wk .i64 (n12*2) (fun n21=>bk s19 n11 (fun m22 s23=>I10 m22 n21 s23))) (fun J20=>wk .i64 (n17+n12) (fun n24=>
  bc (decide (n24<n)) (aC 148 #[aN w2 u2 y2,aD n17,aD n24,aD n,cmp] s15 (fun _ s26=>
  J20 s26)) (J20 s15)))) (fun J16=>∃ I29:Nat->Int->Int->Hp->Prop,(∃ n300,I29 n300 0 n13 s9) /\
  ∀ n30 n31 n32 s28,I29 n30 n31 n32 s28->∀ _:Nat->Value,bc (decide (n32<=n)) (wk .i64 (n31+n12) (fun n33=>
  aC 148 #[aN w2 u2 y2,aD n31,aD n33,aD n32,cmp] s28 (fun _ s35=>
  wk .i64 (2*n12) (fun n36=>wk .i64 (n32+n36) (fun n37=>bk s35 n30 (fun m38 s39=>I29 m38 n32 n37 s39)))))) (J16 n31 s28)))) (rt s9 R (.tuple #[])))) (fun J3=>
  ∃ I42:Nat->Int->Int->Hp->Prop,(∃ n430,I42 n430 0 20 σ)/\∀ n43 n44 n45 s41,I42 n43 n44 n45 s41->∀ _:Nat->Value,bc (decide (n45<=n)) (aC 147 #[aN w2 u2 y2,aD n44,aD n45,cmp] s41 (fun _ s47=>
  wk .i64 (n45+20) (fun n48=>bk s47 n43 (fun m49 s50=>I42 m49 n45 n48 s50)))) (J3 n44 s41))
def Ch:MAn:=(.block (.loop ⟨[],0,[.slot 7 (.sc (.int .i64)),.slot 8 (.sc (.int .i64))],[(0,true),(1,true),(2,false),(6,true)]⟩ (.seq (aP (.cond .leaf .leaf)) (.block (aP (aP (.txt [])))))))
def Fu:MAn:=(aP (aP (.cut ⟨[],0,[.slot 7 (.sc (.int .i64))],[(0,true),(1,true),(2,false),(6,true)]⟩ Ch (aP (.block (.loop ⟨[],0,[.slot 6 (.sc (.int .i64))],[(0,true),(1,true),(2,false)]⟩ (.seq (aP (.cond .leaf .leaf)) (.block (aP (.cut ⟨[],0,[.slot 7 (.sc (.int .i64))],[(0,true),(1,true),(2,false),(6,true)]⟩ Ch (.cut ⟨[],0,[],[(0,true),(1,true),(2,false),(6,true)]⟩ (aP (aP (.cond (.txt []) .leaf))) (.txt []))))))))))))
theorem Fv (σ:Hp) (w2:aA) (u2 y2:Nat) (n:Int) (cmp:Value) (R:aB) (h:B1 σ w2 u2 y2 n cmp R):Af prog 90 #[aN w2 u2 y2,aD n,cmp] σ R:=
 Ae Qg Fu Tryz.func90 rfl (h:=h)
def Bs (σ:Hp) (w2:aA) (u2 _:Nat) (a b:Int) (cmp:Value) (R:aB):Prop:=
 wk .i64 (a+1) (fun n1=>∃ I5:Nat->Int->Hp->Prop,(∃ n60,I5 n60 n1 σ)/\∀ n6 n7 s4,I5 n6 n7 s4->∀ _:Nat->Value,bc (decide (n7<b)) (aF (fun s9=>wk .i64 (n7+1) (fun n11=>bk s9 n6 (fun m12 s13=>I5 m12 n11 s13))) (fun J10=>
  ∃ I16:Nat->Int->Hp->Prop,(∃ n170,I16 n170 n7 s4)/\∀ n17 n18 s15,I16 n17 n18 s15->∀ _:Nat->Value,aF (fun s20=>wk .i64 (n18-1) (fun n22=>wk .i64 (n18-1) (fun n23=>ix w2 u2 n23 1 (fun b24 a25=>
  ldI s20 .i64 b24 a25 (fun n26=>ix w2 u2 n18 1 (fun b27 a28=>ldI s20 .i64 b27 a28 (fun n29=>
  ix w2 u2 n18 1 (fun b30 a31=>st s20 b30 a31 (aD n26) (fun s32=>ix w2 u2 n22 1 (fun b33 a34=>
  st s32 b33 a34 (aD n29) (fun s35=>wk .i64 (n18-1) (fun n36=>bk s35 n17 (fun m37 s38=>I16 m37 n36 s38))))))))))))) (fun J21=>
  aG (fun t42 s40=>bc t42 (J21 s40) (J10 s40)) (fun J41=>
  bc (decide (a<n18)) (ix w2 u2 n18 1 (fun b43 a44=>ldI s15 .i64 b43 a44 (fun n45=>wk .i64 (n18-1) (fun n46=>
  ix w2 u2 n46 1 (fun b47 a48=>ldI s15 .i64 b47 a48 (fun n49=>cl prog cmp #[aD n45,aD n49] s15 (aJ fun n52 s51=>(J41 (decide (n52<0)) s51)))))))) (J41 false s15))))) (rt s4 R (.tuple #[])))
def Ab:OA:=⟨[],false,[]⟩
def Df:MAn:=(aP (.block (.loop ⟨[],0,[.slot 8 (.sc (.int .i64))],[(0,true),(1,true),(2,true),(3,false)]⟩ (.seq (aP (.cond .leaf .leaf)) (.cut ⟨[],0,[],[(0,true),(1,true),(2,true),(3,false),(8,true)]⟩ (.block (aP (.block (.loop ⟨[],0,[.slot 9 (.sc (.int .i64))],[(0,true),(1,true),(2,true),(3,false),(8,true)]⟩ (.cut ⟨[],0,[],[(0,true),(1,true),(2,true),(3,false),(8,true),(9,true)]⟩ (.cut ⟨[],0,[.slot 34 (.sc (.bool))],[(0,true),(1,true),(2,true),(3,false),(8,true),(9,true)]⟩ (.plan [14] (.take 0 Ab (.take 1 Ab (.take 2 Ab (.take 3 ⟨[],true,[]⟩ (tkUN1 10 4 Ab (.alt 14 false Ab (.take 15 Ab (.take 16 Ab .done)) .done))))))) (.cond .leaf .leaf)) (.seq (.block (.plan [15,17] (tkUN1 15 0 Ab (.alt 15 false Ab (.take 16 Ab (.alt 17 false Ab .done .done)) .done)))) (.txt []))))))) (.txt []))))))
theorem Db (σ:Hp) (w2:aA) (u2 y2:Nat) (a b:Int) (cmp:Value) (R:aB) (h:Bs σ w2 u2 y2 a b cmp R):Af prog 147 #[aN w2 u2 y2,aD a,aD b,cmp] σ R:=
 Ae Qg Df Tryz.func147 rfl (h:=h)
theorem Tr:prog.follows .mixedOrders=true:=by kernel_rfl
def Ho (σ:Hp) (o0:aA) (m0 q0:Nat) (a1:Int) (c1:aA) (g1 h1:Nat) (d1:aA) (i1 e1:Nat) (u0:aA) (t0 w0:Nat) (r1:aA) (q1 p1:Nat) (q2:Int) (p0:aA) (n0 r0:Nat) (x0:aA) (s0 v0:Nat) (z0 j1 f1:Int) (x1:aA) (t1 w1:Nat) (e2:aA) (c2 f2:Nat) (l_A:aA) (l_n l_c:Nat) (most:Int) (R:aB):Prop:=
 aC 46 #[(.agg #[aN o0 m0 q0,aD a1,aN c1 g1 h1,aN d1 i1 e1,aN u0 t0 w0,aN r1 q1 p1,aD q2,aN p0 n0 r0,aN x0 s0 v0,aD z0,aD j1,aD f1,aN x1 t1 w1,aN e2 c2 f2]),aN l_A l_n l_c] σ (fun v1 σ2=>
  ∃ p3:aA,∃ n4:Int,(v1=(.tuple #[.pointer p3,aD n4])/\bc (!decide (n4=0)) (rt σ2 R (.tuple #[aN none 0 0,aD n4])) (aC 35 #[aD most,aD 0,aD 10000] σ2 (aI fun t7 s6=>(bc (!t7) (rt s6 R (.tuple #[aN none 0 0,aD 1])) (cut (α:=List Int->Hp->Prop) (fun xs11 s9=>
  ∀ _:Nat->Value,bx s9 (.cells #[aN l_A l_n l_c] 57) (fun b12 s13=>exl 3 aM xs11 s13 (fun A14 l14 c14 s15=>
  aC 47 #[aN A14 l14 c14,(.func (.func 48) #[] #[(.pointer (some ⟨b12,0,none⟩))])] s15 (fun _ s17=>
  adp 3 aM A14 l14 c14 s17 (fun (xs18:List Int) s19=>cut (α:=aA->Nat->Nat->Hp->Prop) (fun A23 l23 c23 s21=>
  ∀ _:Nat->Value,aC 49 #[aN A23 l23 c23] s21 (fun _ s25=>
  rt s25 R (.tuple #[aN A23 l23 c23,aD 0]))) (fun J22=>∃ I28:Nat->aA->Nat->Nat->Int->Hp->Prop,(∃ n290,I28 n290 none 0 0 0 s19) /\
  ∀ n29 A30 l30 c30 n31 s27,I28 n29 A30 l30 c30 n31 s27->∀ _:Nat->Value,bc (decide (n31<((List.length xs18:Nat):Int))) (cut (α:=aA->Nat->Nat->Hp->Prop) (fun A35 l35 c35 s33=>
  ∀ _:Nat->Value,wk .i64 (n31+1) (fun n36=>bk s33 n29 (fun m37 s38=>I28 m37 A35 l35 c35 n36 s38))) (fun J34=>
  (0<=n31/\n31<((List.length xs18:Nat):Int)/\lat xs18 ((n31:Int).toNat) (fun r39=>aC 49 #[aN A30 l30 c30] s27 (fun _ s41=>
  cut (α:=List (Int×Int×Int×(aA×Nat×Nat)×Int)->Hp->Prop) (fun xs45 s43=>∀ _:Nat->Value,
  dr p3 (fun b46 o47=>ldS s43 b46 o47 (fun A48 l48 c48=>ldI s43 .i64 b46 (o47+1) (fun n49=>exl 65 [.int .i64,.int .i64,.int .i64,.slc,.int .i64] xs45 s43 (fun A50 l50 c50 s51=>
  aC 50 #[(.agg #[aN A48 l48 c48,aD n49]),aN A50 l50 c50] s51 (fun v52 s53=>
  ∃ A54:aA,∃ l54 c54:Nat,∃ n55:Int,(v52=(.tuple #[aN A54 l54 c54,aD n55]) /\
  adp 65 [.int .i64,.int .i64,.int .i64,.slc,.int .i64] A50 l50 c50 s53 (fun (xs56:List (Int×Int×Int×(aA×Nat×Nat)×Int)) s57=>
  bc (!decide (n55=0)) (rt s57 R (.tuple #[aN none 0 0,aD n55])) (ldS s57 b12 0 (fun A58 l58 _=>
  ix A58 l58 r39 5 (fun b59 a60=>ldI s57 .i64 b59 (a60+1) (fun n61=>aH (fun n65 s63=>bc (decide (n65<=most)) (adp 3 aM A30 l30 c30 s63 (fun (xs66:List Int) s67=>
  AZ (List.length xs66+List.length ([r39]:List Int)) (exl 3 aM (xs66++([r39]:List Int)) s67 (fun A68 l68 c68 s69=>
  J34 A68 l68 c68 s69)))) (J34 A30 l30 c30 s63)) (fun J64=>∃ I72:Nat->Int->Int->Hp->Prop,(∃ n730,I72 n730 n61 0 s57) /\
  ∀ n73 n74 n75 s71,I72 n73 n74 n75 s71->∀ _:Nat->Value,bc (decide (n75<((List.length xs56:Nat):Int))) (aH (fun n79 s77=>wk .i64 (n75+1) (fun n80=>bk s77 n73 (fun m81 s82=>I72 m81 n79 n80 s82))) (fun J78=>
  (0<=n75/\n75<((List.length xs56:Nat):Int)/\lat xs56 ((n75:Int).toNat) (fun r83=>aG (fun t87 s85=>bc t87 (wk .i64 (n74+r83.2.1) (fun n88=>J78 n88 s85)) (J78 n74 s85)) (fun J86=>
  ix A54 l54 n75 1 (fun b89 a90=>ldI s71 .i64 b89 a90 (fun n91=>bc (decide (n91<0)) (J86 true s71) (ix A54 l54 n75 1 (fun b92 a93=>
  ldI s71 .i64 b92 a93 (fun n94=>ldS s71 b12 0 (fun A95 l95 _=>ix A95 l95 r39 5 (fun b96 a97=>ldI s71 .i64 b96 a97 (fun n98=>
  J86 (decide (n98<=n94)) s71))))))))))))) (J64 n74 s71)))))))))))))) (fun J44=>∃ I101:Nat->List (Int×Int×Int×(aA×Nat×Nat)×Int)->Int->Hp->Prop,(∃ n1020,adp 65 [.int .i64,.int .i64,.int .i64,.slc,.int .i64] none 0 0 s41 (fun (xs103:List (Int×Int×Int×(aA×Nat×Nat)×Int)) s104=>
  I101 n1020 xs103 0 s104))/\∀ n102 xs105 n106 s100,I101 n102 xs105 n106 s100->∀ _:Nat->Value,bc (decide (n106<(l30:Int))) (ix A30 l30 n106 1 (fun b107 a108=>
  ldI s100 .i64 b107 a108 (fun n109=>dr p3 (fun b110 o111=>ldS s100 b110 (o111+2) (fun A112 l112 _=>
  ix A112 l112 n109 6 (fun b113 a114=>ldI s100 .i64 b113 a114 (fun n115=>ldI s100 .i64 b113 (a114+1) (fun n116=>
  ldI s100 .i64 b113 (a114+2) (fun n117=>ldS s100 b113 (a114+3) (fun A118 l118 c118=>ldI s100 .i64 b113 (a114+4) (fun n119=>
  AZ (List.length xs105+List.length ([(n115,n116,n117,(A118,l118,c118),n119)]:List (Int×Int×Int×(aA×Nat×Nat)×Int))) (wk .i64 (n106+1) (fun n120=>
  bk s100 n102 (fun m121 s122=>I101 m121 (xs105++([(n115,n116,n117,(A118,l118,c118),n119)]:List (Int×Int×Int×(aA×Nat×Nat)×Int))) n120 s122)))))))))))))) (J44 xs105 s100))))))) (J22 A30 l30 c30 s27))))))) (fun J10=>
  ∃ I125:Nat->List Int->Int->Hp->Prop,(∃ n1260,adp 3 aM none 0 0 s6 (fun (xs127:List Int) s128=>
  I125 n1260 xs127 0 s128))/\∀ n126 xs129 n130 s124,I125 n126 xs129 n130 s124->∀ _:Nat->Value,bc (decide (n130<(l_n:Int))) (AZ (List.length xs129+List.length ([n130]:List Int)) (wk .i64 (n130+1) (fun n131=>
  bk s124 n126 (fun m132 s133=>I125 m132 (xs129++([n130]:List Int)) n131 s133)))) (J10 xs129 s124))))))))
def AB:OA:=⟨[],false,[]⟩
def N8:MAn:=(aP (aP (.seq (aP (.cond (aP .leaf) .leaf)) (.seq (aP (.cond (aP .leaf) .leaf)) (aP (.cut ⟨[true,true],3,[.slot 4 (.hb 1 0),.slot 9 (.lst 2 3 aM)],[(2,true),(6,true),(8,true)]⟩ (aP (.block (.loop ⟨[true,true],3,[.slot 4 (.hb 1 0),.slot 9 (.lst 2 3 aM),.slot 35 (.sc (.int .i64))],[(2,true),(6,true),(8,true),(34,true)]⟩ (aP (.seq (.cond .leaf .leaf) (.seq (.block (aP (.txt []))) (.txt []))))))) (.seq (.txt [AB,AB,⟨[],false,[.adl 9 3 aM]⟩]) (.cut ⟨[true,false,false,true],4,[.slot 6 (.sc (.slc))],[]⟩ (aP (.block (.loop ⟨[true,false,false,true],4,[.slot 6 (.sc (.slc)),.slot 46 (.hl 3 0),.slot 48 (.sc (.int .i64))],[(2,true),(4,true),(8,true),(47,true)]⟩ (aP (.seq (.cond .leaf .leaf) (.cut ⟨[true,false,false,true],4,[.slot 6 (.sc (.slc)),.slot 46 (.hl 3 0)],[(2,true),(4,true),(8,true),(47,true),(48,true)]⟩ (.block (aP (aP (aP (.cut ⟨[true,false,false,true],5,[.slot 13 (.lst 4 65 [.int .i64,.int .i64,.int .i64,.slc,.int .i64]),.slot 46 (.hl 3 0)],[(2,true),(4,true),(6,true),(8,true),(12,true),(47,true),(48,true)]⟩ (aP (.block (.loop ⟨[true,false,false,true],5,[.slot 13 (.lst 4 65 [.int .i64,.int .i64,.int .i64,.slc,.int .i64]),.slot 46 (.hl 3 0),.slot 56 (.sc (.int .i64))],[(2,true),(4,true),(6,true),(8,true),(12,true),(47,true),(48,true),(54,true),(55,true)]⟩ (aP (.seq (.cond .leaf .leaf) (.seq (.block (aP (.txt []))) (.txt []))))))) (.seq (.txt [AB,AB,AB,AB,AB,⟨[],false,[.adl 13 65 [.int .i64,.int .i64,.int .i64,.slc,.int .i64]]⟩]) (.seq (aP (.cond (aP .leaf) .leaf)) (aP (.cut ⟨[true,false,false,true,false,true],6,[.slot 18 (.sc (.int .i64)),.slot 46 (.hl 3 0)],[(2,true),(4,true),(6,true),(8,true),(12,true),(47,true),(48,true)]⟩ (aP (.block (.loop ⟨[true,false,false,true,false,true],6,[.slot 18 (.sc (.int .i64)),.slot 46 (.hl 3 0),.slot 89 (.hl 5 0),.slot 91 (.sc (.int .i64))],[(2,true),(4,true),(6,true),(8,true),(12,true),(16,true),(47,true),(48,true),(90,true)]⟩ (aP (.seq (.cond .leaf .leaf) (.cut ⟨[true,false,false,true,false,true],6,[.slot 18 (.sc (.int .i64)),.slot 46 (.hl 3 0),.slot 89 (.hl 5 0)],[(2,true),(4,true),(6,true),(8,true),(12,true),(16,true),(47,true),(48,true),(90,true),(91,true)]⟩ (.block (aP (.cut ⟨[true,false,false,true,false,true,true],7,[.slot 20 (.hb 6 0),.slot 46 (.hl 3 0),.slot 89 (.hl 5 0),.slot 112 (.sc (.bool))],[(2,true),(4,true),(6,true),(8,true),(12,true),(16,true),(18,true),(47,true),(48,true),(90,true),(91,true)]⟩ (.plan [] (tkUN1 5 0 AB (.take 5 ⟨[],true,[]⟩ (tkUN1 11 6 AB .done)))) (.cond (.txt []) .leaf)))) (.txt []))))))) (aP (.cond (.txt []) .leaf))))))))))) (.txt []))))))) (aP (aP .leaf))))))))))
theorem Oy (σ:Hp) (o0:aA) (m0 q0:Nat) (a1:Int) (c1:aA) (g1 h1:Nat) (d1:aA) (i1 e1:Nat) (u0:aA) (t0 w0:Nat) (r1:aA) (q1 p1:Nat) (q2:Int) (p0:aA) (n0 r0:Nat) (x0:aA) (s0 v0:Nat) (z0 j1 f1:Int) (x1:aA) (t1 w1:Nat) (e2:aA) (c2 f2:Nat) (l_A:aA) (l_n l_c:Nat) (most:Int) (R:aB) (h:Ho σ o0 m0 q0 a1 c1 g1 h1 d1 i1 e1 u0 t0 w0 r1 q1 p1 q2 p0 n0 r0 x0 s0 v0 z0 j1 f1 x1 t1 w1 e2 c2 f2 l_A l_n l_c most R):Af prog 19 #[(.agg #[aN o0 m0 q0,aD a1,aN c1 g1 h1,aN d1 i1 e1,aN u0 t0 w0,aN r1 q1 p1,aD q2,aN p0 n0 r0,aN x0 s0 v0,aD z0,aD j1,aD f1,aN x1 t1 w1,aN e2 c2 f2]),aN l_A l_n l_c,aD most] σ R:=
 Ae Tr N8 Tryz.func19 rfl (h:=h)
def FD (σ:Hp) (a b:Int) (cap0:aA) (R:aB):Prop:=
 dr cap0 (fun b1 o2=>ldS σ b1 o2 (fun A3 l3 _=>ix A3 l3 a 5 (fun b4 a5=>ldI σ .i64 b4 a5 (fun n6=>
  dr cap0 (fun b7 o8=>ldS σ b7 o8 (fun A9 l9 _=>ix A9 l9 b 5 (fun b10 a11=>ldI σ .i64 b10 a11 (fun n12=>
  wk .i64 (n6-n12) (fun n13=>rt σ R (aD n13))))))))))
def AT:OA:=⟨[],false,[]⟩
def MO:MAn:=(aP (.seq (.plan [] (tkUN1 12 0 AT .done)) .leaf))
theorem Mm (σ:Hp) (a b:Int) (cap0:aA) (R:aB) (h:FD σ a b cap0 R):Af prog 48 #[aD a,aD b,.pointer cap0] σ R:=
 Ae Tr MO Tryz.func48 rfl (h:=h)
end Go.Proofs.YtoelhdjloaknbaaGreat
