/- Trimmed by wip/trim.py to what this claim rests on. -/
import Derived.Test.YtoelhdjloaknbaaGreatOB11
namespace Go.Proofs.YtoelhdjloaknbaaGreat
set_option maxRecDepth 100000
open Go.RowKit
def tkOW1:Nat->Nat->OA->MPlan->MPlan
 |0,_,_,x=>x
 |n+1,i,a,x=>.take i a (tkOW1 n (i+1) a x)
theorem OI:Tryz.prog.follows .mixedOrders=true:=by kernel_rfl
abbrev QH:FuncId:=30
def FM (σ:Hp) (R:Value->Hp->Prop):Prop:=
 cl Tryz.prog (.func (.func 67) #[] #[]) #[] σ (fun v1 σ2=>∃ A3:Option Addr,∃ l3 c3:Nat,∃ n4:Int,∃ A5:Option Addr,∃ l5 c5:Nat,(v1=(.tuple #[(.agg #[.slice A3 l3 c3,.int .i64 n4]),.slice A5 l5 c5]) /\
  exl 3 [.int .i64] ([1]:List Int) σ2 (fun A6 l6 c6 σ7=>exl 3 [.int .i64] ([100,100]:List Int) σ7 (fun A8 l8 c8 σ9=>
  exl 138 [.int .i64,.int .i64,.int .i64,.int .i64] ([((-1),20,2,100)]:List (Int×Int×Int×Int)) σ9 (fun A10 l10 c10 σ11=>
  exl 140 [.int .i64,.int .i64,.int .i64,.int .i64] ([(0,0,15,0),(0,0,10,0)]:List (Int×Int×Int×Int)) σ11 (fun A12 l12 c12 σ13=>
  exl 136 [.int .i64,.int .i64,.int .i64,.int .i64,.int .i64] ([(5,4,0,0,0),(5,4,1,0,0)]:List (Int×Int×Int×Int×Int)) σ13 (fun A14 l14 c14 σ15=>
  exl 3 [.int .i64] ([60,60]:List Int) σ15 (fun A16 l16 c16 σ17=>exl 3 [.int .i64] ([2,0]:List Int) σ17 (fun A18 l18 c18 σ19=>
  rt σ19 R (.tuple #[(.agg #[.slice A3 l3 c3,.int .i64 n4,.slice none 0 0,.slice A6 l6 c6,.slice A8 l8 c8,.slice A14 l14 c14,.int .i64 5,.slice A10 l10 c10,.slice A12 l12 c12,.int .i64 50,.int .i64 5,.int .i64 230,.slice A16 l16 c16,.slice A18 l18 c18]),.slice A5 l5 c5]))))))))))
def NA:MAn:=(.seq (.txt []) (.seq (.txt []) (.seq (.txt []) .leaf)))
theorem Ny (σ:Hp) (R:Value->Hp->Prop) (h:FM σ  R):Ad Tryz.prog 30 #[] σ R:=
 Ac OI NA Tryz.func30 rfl (by kernel_rfl) (by kernel_rfl) (by kernel_rfl) h
theorem KB:Al Tryz.prog 30=true:=by kernel_rfl
abbrev MT:FuncId:=11
def HP (σ:Hp) (R:Value->Hp->Prop):Prop:=
 cl Tryz.prog (.func (.func 30) #[] #[]) #[] σ (fun v1 σ2=>∃ A3:Option Addr,∃ l3 c3:Nat,∃ n4:Int,∃ A5:Option Addr,∃ l5 c5:Nat,∃ A6:Option Addr,∃ l6 c6:Nat,∃ A7:Option Addr,∃ l7 c7:Nat,∃ A8:Option Addr,∃ l8 c8:Nat,∃ n9:Int,∃ A10:Option Addr,∃ l10 c10:Nat,∃ A11:Option Addr,∃ l11 c11:Nat,∃ n12 n13 n14:Int,∃ A15:Option Addr,∃ l15 c15:Nat,∃ A16:Option Addr,∃ l16 c16:Nat,∃ A17:Option Addr,∃ l17 c17:Nat,(v1=(.tuple #[(.agg #[.slice A3 l3 c3,.int .i64 n4,.slice A5 l5 c5,.slice A6 l6 c6,.slice A7 l7 c7,.slice A8 l8 c8,.int .i64 n9,.slice A10 l10 c10,.slice A11 l11 c11,.int .i64 n12,.int .i64 n13,.int .i64 n14,.slice A15 l15 c15,.slice A16 l16 c16]),.slice A17 l17 c17]) /\
  cl Tryz.prog (.func (.func 31) #[] #[]) #[(.agg #[.slice A3 l3 c3,.int .i64 n4,.slice A5 l5 c5,.slice A6 l6 c6,.slice A7 l7 c7,.slice A8 l8 c8,.int .i64 n9,.slice A10 l10 c10,.slice A11 l11 c11,.int .i64 n12,.int .i64 n13,.int .i64 n14,.slice A15 l15 c15,.slice A16 l16 c16])] σ2 (fun v18 σ19=>
  ∃ A20:Option Addr,∃ l20 c20:Nat,∃ n21:Int,(v18=(.tuple #[.slice A20 l20 c20,.int .i64 n21]) /\
  cl Tryz.prog (.func (.func 23) #[] #[]) #[(.agg #[.slice A3 l3 c3,.int .i64 n4,.slice A5 l5 c5,.slice A6 l6 c6,.slice A7 l7 c7,.slice A8 l8 c8,.int .i64 n9,.slice A10 l10 c10,.slice A11 l11 c11,.int .i64 n12,.int .i64 n13,.int .i64 n14,.slice A15 l15 c15,.slice A16 l16 c16]),.slice A17 l17 c17] σ19 (fun v22 σ23=>
  ∃ n24 n25:Int,(v22=(.tuple #[.int .i64 n24,.int .i64 n25])/\bc (decide (n21=0)) (bc (decide (n25=0)) (bc (decide (((l20:Nat):Int)=1)) (ix A20 l20 0 1 (fun b26 a27=>
  ldI σ23 .i64 b26 a27 (fun n28=>bc (decide (n28=0)) (rt σ23 R (.bool (decide (n24=5)))) (rt σ23 R (.bool false))))) (rt σ23 R (.bool false))) (rt σ23 R (.bool false))) (rt σ23 R (.bool false))))))))
def Bf:OA:=⟨[],false,[]⟩
def Pw:MAn:=(.seq (.txt []) (.seq (.txt []) (.seq (.txt []) (.seq (.txt []) (.seq (.txt [Bf,Bf,⟨[],true,[]⟩,Bf,Bf,Bf,⟨[],true,[]⟩,Bf,Bf,Bf,Bf,⟨[],true,[]⟩,Bf,Bf,Bf,Bf,Bf,⟨[],true,[]⟩]) .leaf)))))
theorem Pf (σ:Hp) (R:Value->Hp->Prop) (h:HP σ  R):Ad Tryz.prog 11 #[] σ R:=
 Ac OI Pw Tryz.func11 rfl (by kernel_rfl) (by kernel_rfl) (by kernel_rfl) h
theorem ML:Al Tryz.prog 11=true:=by kernel_rfl
abbrev Vj:FuncId:=10
def Lw (σ:Hp) (_:Option Addr) (a0 _:Nat) (_:Int) (_:Option Addr) (j0 _:Nat) (_:Option Addr) (i0 _:Nat) (_:Option Addr) (c0 _:Nat) (_:Option Addr) (w0 _:Nat) (_:Int) (_:Option Addr) (b0 _:Nat) (_:Option Addr) (d0 _:Nat) (_ _ _:Int) (_:Option Addr) (x0 _:Nat) (_:Option Addr) (a1 _:Nat) (R:Value->Hp->Prop):Prop:=
 bc (decide ((10:Int)<((a0:Nat):Int))) (rt σ R (.bool true)) (bc (decide ((25:Int)<((j0:Nat):Int))) (rt σ R (.bool true)) (bc (decide ((12:Int)<((i0:Nat):Int))) (rt σ R (.bool true)) (bc (decide ((15:Int)<((c0:Nat):Int))) (rt σ R (.bool true)) (bc (decide ((60:Int)<((w0:Nat):Int))) (rt σ R (.bool true)) (bc (decide ((15:Int)<((b0:Nat):Int))) (rt σ R (.bool true)) (bc (decide ((20:Int)<((d0:Nat):Int))) (rt σ R (.bool true)) (bc (decide ((15:Int)<((x0:Nat):Int))) (rt σ R (.bool true)) (rt σ R (.bool (decide ((15:Int)<((a1:Nat):Int))))))))))))
def Ap:OA:=⟨[],false,[]⟩
def RZ:MAn:=(.seq (.txt []) (.seq (.txt [Ap,Ap,Ap,Ap,Ap,⟨[],true,[]⟩,Ap,Ap,Ap,Ap,Ap,Ap,⟨[],true,[]⟩,Ap,Ap,Ap,Ap,Ap,Ap,⟨[],true,[]⟩,Ap,Ap,Ap,Ap,Ap,Ap,⟨[],true,[]⟩,Ap,Ap,Ap,Ap,Ap,⟨[],true,[]⟩,Ap,Ap,Ap,Ap,Ap,Ap,⟨[],true,[]⟩,Ap,Ap,Ap,Ap,Ap,Ap,⟨[],true,[]⟩,Ap,Ap,Ap,Ap,Ap,⟨[],true,[]⟩]) .leaf))
theorem Se (σ:Hp) (f0:Option Addr) (a0 h0:Nat) (r0:Int) (s0:Option Addr) (j0 o0:Nat) (u0:Option Addr) (i0 t0:Nat) (n0:Option Addr) (c0 m0:Nat) (y0:Option Addr) (w0 z0:Nat) (f1:Int) (g0:Option Addr) (b0 e0:Nat) (k0:Option Addr) (d0 l0:Nat) (p0 v0 q0:Int) (b1:Option Addr) (x0 c1:Nat) (e1:Option Addr) (a1 d1:Nat) (R:Value->Hp->Prop) (h:Lw σ f0 a0 h0 r0 s0 j0 o0 u0 i0 t0 n0 c0 m0 y0 w0 z0 f1 g0 b0 e0 k0 d0 l0 p0 v0 q0 b1 x0 c1 e1 a1 d1 R):Ad Tryz.prog 10 #[(.agg #[.slice f0 a0 h0,.int .i64 r0,.slice s0 j0 o0,.slice u0 i0 t0,.slice n0 c0 m0,.slice y0 w0 z0,.int .i64 f1,.slice g0 b0 e0,.slice k0 d0 l0,.int .i64 p0,.int .i64 v0,.int .i64 q0,.slice b1 x0 c1,.slice e1 a1 d1])] σ R:=
 Ac OI RZ Tryz.func10 rfl (by kernel_rfl) (by kernel_rfl) (by kernel_rfl) h
theorem Ob:Al Tryz.prog 10=true:=by kernel_rfl
abbrev BA:FuncId:=3
def Eu (σ:Hp) (f0:Option Addr) (a0 h0:Nat) (r0:Int) (s0:Option Addr) (j0 o0:Nat) (u0:Option Addr) (i0 t0:Nat) (n0:Option Addr) (c0 m0:Nat) (y0:Option Addr) (w0 z0:Nat) (f1:Int) (g0:Option Addr) (b0 e0:Nat) (k0:Option Addr) (d0 l0:Nat) (p0 v0 q0:Int) (b1:Option Addr) (x0 c1:Nat) (e1:Option Addr) (a1 d1:Nat) (h1:Option Addr) (g1 i1:Nat) (R:Value->Hp->Prop):Prop:=
 cut (α:=Hp->Prop) (fun  σ2=>∀ _:Nat->Value,cl Tryz.prog (.func (.func 13) #[] #[]) #[(.agg #[.slice f0 a0 h0,.int .i64 r0,.slice s0 j0 o0,.slice u0 i0 t0,.slice n0 c0 m0,.slice y0 w0 z0,.int .i64 f1,.slice g0 b0 e0,.slice k0 d0 l0,.int .i64 p0,.int .i64 v0,.int .i64 q0,.slice b1 x0 c1,.slice e1 a1 d1])] σ2 (fun v4 σ5=>
  ∃ A6:Option Addr,∃ l6 c6:Nat,∃ n7:Int,∃ A8:Option Addr,∃ l8 c8:Nat,∃ A9:Option Addr,∃ l9 c9:Nat,∃ A10:Option Addr,∃ l10 c10:Nat,∃ A11:Option Addr,∃ l11 c11:Nat,∃ n12:Int,∃ A13:Option Addr,∃ l13 c13:Nat,∃ A14:Option Addr,∃ l14 c14:Nat,∃ n15 n16 n17:Int,∃ A18:Option Addr,∃ l18 c18:Nat,∃ A19:Option Addr,∃ l19 c19:Nat,(v4=(.agg #[.slice A6 l6 c6,.int .i64 n7,.slice A8 l8 c8,.slice A9 l9 c9,.slice A10 l10 c10,.slice A11 l11 c11,.int .i64 n12,.slice A13 l13 c13,.slice A14 l14 c14,.int .i64 n15,.int .i64 n16,.int .i64 n17,.slice A18 l18 c18,.slice A19 l19 c19]) /\
  ∃ ys20:List Int,RdS [.int .i64] σ5 h1 g1 ys20/\Bh (List.length ([]:List Int)+List.length ys20) (exl 3 [.int .i64] (([]:List Int)++ys20) σ5 (fun A21 l21 c21 σ22=>
  cl Tryz.prog (.func (.func 12) #[] #[]) #[(.agg #[.slice A6 l6 c6,.int .i64 n7,.slice A8 l8 c8,.slice A9 l9 c9,.slice A10 l10 c10,.slice A11 l11 c11,.int .i64 n12,.slice A13 l13 c13,.slice A14 l14 c14,.int .i64 n15,.int .i64 n16,.int .i64 n17,.slice A18 l18 c18,.slice A19 l19 c19]),.slice A21 l21 c21] σ22 (fun v23 σ24=>
  ∃ A25:Option Addr,∃ l25 c25:Nat,∃ n26:Int,(v23=(.tuple #[.slice A25 l25 c25,.int .i64 n26]) /\
  cl Tryz.prog (.func (.func 14) #[] #[]) #[(.agg #[.slice f0 a0 h0,.int .i64 r0,.slice s0 j0 o0,.slice u0 i0 t0,.slice n0 c0 m0,.slice y0 w0 z0,.int .i64 f1,.slice g0 b0 e0,.slice k0 d0 l0,.int .i64 p0,.int .i64 v0,.int .i64 q0,.slice b1 x0 c1,.slice e1 a1 d1]),.slice h1 g1 i1] σ24 (fun v27 σ28=>
  ∃ A29:Option Addr,∃ l29 c29:Nat,∃ n30:Int,(v27=(.tuple #[.slice A29 l29 c29,.int .i64 n30]) /\
  cut (α:=Hp->Prop) (fun  σ32=>∀ _:Nat->Value,cut (α:=Hp->Prop) (fun  σ35=>∀ _:Nat->Value,
  cl Tryz.prog (.func (.func 11) #[] #[]) #[] σ35 (fun v37 σ38=>∃ t39:Bool,(v37=(.bool t39)/\rt σ38 R (.bool t39)))) (fun J36=>
  ∃ I42:Nat->Int->Hp->Prop,(∃ n430,I42 n430 0 σ32)/\∀ n43:Nat,∀ n44:Int,∀ σ41:Hp,I42 n43 n44 σ41->∀ _:Nat->Value,bc (decide (n44<((l25:Nat):Int))) (cut (α:=Hp->Prop) (fun  σ46=>
  ∀ _:Nat->Value,wk .i64 (n44+1) (fun n48=>bk σ46 n43 (fun m49 σ50=>I42 m49 n48 σ50))) (fun J47=>
  ix A25 l25 n44 1 (fun b51 a52=>ldS σ41 b51 a52 (fun _ l53 _=>ix A29 l29 n44 1 (fun b54 a55=>
  ldS σ41 b54 a55 (fun _ l56 _=>bc (!decide (((l53:Nat):Int)=((l56:Nat):Int))) (rt σ41 R (.bool false)) (∃ I59:Nat->Int->Hp->Prop,(∃ n600,I59 n600 0 σ41) /\
  ∀ n60:Nat,∀ n61:Int,∀ σ58:Hp,I59 n60 n61 σ58->∀ _:Nat->Value,ix A25 l25 n44 1 (fun b62 a63=>
  ldS σ58 b62 a63 (fun _ l64 _=>bc (decide (n61<((l64:Nat):Int))) (ix A25 l25 n44 1 (fun b65 a66=>
  ldS σ58 b65 a66 (fun A67 l67 _=>ix A67 l67 n61 2 (fun b68 a69=>ldI σ58 .i64 b68 a69 (fun n70=>
  ldI σ58 .i64 b68 (a69+1) (fun n71=>ix A29 l29 n44 1 (fun b72 a73=>ldS σ58 b72 a73 (fun A74 l74 _=>
  ix A74 l74 n61 2 (fun b75 a76=>ldI σ58 .i64 b75 a76 (fun n77=>ldI σ58 .i64 b75 (a76+1) (fun n78=>
  bc (!(decide (n70=n77)&&decide (n71=n78))) (rt σ58 R (.bool false)) (wk .i64 (n61+1) (fun n79=>
  bk σ58 n60 (fun m80 σ81=>I59 m80 n79 σ81)))))))))))))) (J47 σ58)))))))))) (J36 σ41))) (fun J33=>cut (α:=Bool->Hp->Prop) (fun t85 σ83=>
  ∀ _:Nat->Value,bc t85 (rt σ83 R (.bool false)) (J33 σ83)) (fun J84=>bc (!decide (((l25:Nat):Int)=((l29:Nat):Int))) (J84 true σ28) (J84 (!decide (n26=n30)) σ28)))))))))))) (fun J3=>
  cut (α:=Bool->Hp->Prop) (fun t89 σ87=>∀ _:Nat->Value,bc t89 (cl Tryz.prog (.func (.func 11) #[] #[]) #[] σ87 (fun v90 σ91=>
  ∃ t92:Bool,(v90=(.bool t92)/\rt σ91 R (.bool t92)))) (J3 σ87)) (fun J88=>cl Tryz.prog (.func (.func 10) #[] #[]) #[(.agg #[.slice f0 a0 h0,.int .i64 r0,.slice s0 j0 o0,.slice u0 i0 t0,.slice n0 c0 m0,.slice y0 w0 z0,.int .i64 f1,.slice g0 b0 e0,.slice k0 d0 l0,.int .i64 p0,.int .i64 v0,.int .i64 q0,.slice b1 x0 c1,.slice e1 a1 d1])] σ (fun v93 σ94=>
  ∃ t95:Bool,(v93=(.bool t95)/\bc t95 (J88 true σ94) (J88 (decide ((550:Int)<((g1:Nat):Int))) σ94)))))
def Am:OA:=⟨[],false,[]⟩
def Ln:MAn:=(.seq (.txt []) (.cut ⟨[true],1,[.slot 2 (.hb 0 0)],[(1,true)]⟩ (.cut ⟨[true],1,[.slot 2 (.hb 0 0),.slot 17 (.sc (.bool))],[(1,true)]⟩ (.txt [Am,Am,⟨[],true,[]⟩]) (.cond (.seq (.txt []) .leaf) .leaf)) (.seq (.txt []) (.seq (.txt []) (.cut ⟨[true,false],2,[],[(5,true),(7,true)]⟩ (.cut ⟨[true,false],2,[.slot 43 (.sc (.bool))],[(5,true),(7,true)]⟩ (.txt [Am,Am,Am,Am,Am,⟨[],true,[]⟩]) (.cond (.seq (.txt []) .leaf) .leaf)) (.cut ⟨[true,false],2,[],[]⟩ (.seq (.txt []) (.block (.loop ⟨[true,false],2,[.slot 9 (.sc (.int .i64))],[(5,true),(7,true)]⟩ (.seq (.seq (.txt []) (.cond .leaf .leaf)) (.cut ⟨[true,false],2,[],[(5,true),(7,true),(9,true)]⟩ (.block (.seq (.seq (.plan [] (tkOW1 11 0 Am .done)) (.cond (.seq (.txt []) .leaf) .leaf)) (.seq (.txt []) (.block (.loop ⟨[true,false],2,[.slot 10 (.sc (.int .i64))],[(5,true),(7,true),(9,true)]⟩ (.seq (.seq (.txt []) (.cond .leaf .leaf)) (.seq (.block (.seq (.plan [] (tkOW1 15 0 Am .done)) (.cond (.seq (.txt []) .leaf) .leaf))) (.txt [])))))))) (.txt [])))))) (.seq (.txt []) .leaf)))))))
theorem K4 (σ:Hp) (f0:Option Addr) (a0 h0:Nat) (r0:Int) (s0:Option Addr) (j0 o0:Nat) (u0:Option Addr) (i0 t0:Nat) (n0:Option Addr) (c0 m0:Nat) (y0:Option Addr) (w0 z0:Nat) (f1:Int) (g0:Option Addr) (b0 e0:Nat) (k0:Option Addr) (d0 l0:Nat) (p0 v0 q0:Int) (b1:Option Addr) (x0 c1:Nat) (e1:Option Addr) (a1 d1:Nat) (h1:Option Addr) (g1 i1:Nat) (R:Value->Hp->Prop) (h:Eu σ f0 a0 h0 r0 s0 j0 o0 u0 i0 t0 n0 c0 m0 y0 w0 z0 f1 g0 b0 e0 k0 d0 l0 p0 v0 q0 b1 x0 c1 e1 a1 d1 h1 g1 i1 R):Ad Tryz.prog 3 #[(.agg #[.slice f0 a0 h0,.int .i64 r0,.slice s0 j0 o0,.slice u0 i0 t0,.slice n0 c0 m0,.slice y0 w0 z0,.int .i64 f1,.slice g0 b0 e0,.slice k0 d0 l0,.int .i64 p0,.int .i64 v0,.int .i64 q0,.slice b1 x0 c1,.slice e1 a1 d1]),.slice h1 g1 i1] σ R:=
 Ac OI Ln Tryz.func3 rfl (by kernel_rfl) (by kernel_rfl) (by kernel_rfl) h
end Go.Proofs.YtoelhdjloaknbaaGreat
