/- Trimmed by wip/trim.py to what this claim rests on. -/
import Derived.Test.YthhadkggldcolaaGreatZB11
namespace Go.Proofs.YthhadkggldcolaaGreat
set_option maxRecDepth 100000
open Go.RowKit
theorem NZ:Tryz.prog.follows .mixedOrders=true:=by kernel_rfl
abbrev PZ:FuncId:=48
def FB (σ:Hp) (R:Value->Hp->Prop):Prop:=
 cl Tryz.prog (.func (.func 95) #[] #[]) #[] σ (fun v1 σ2=>∃ A3:Option Addr,∃ l3 c3:Nat,∃ n4:Int,∃ A5:Option Addr,∃ l5 c5:Nat,(v1=(.tuple #[(.agg #[.slice A3 l3 c3,.int .i64 n4]),.slice A5 l5 c5]) /\
  exl 3 [.int .i64] ([1]:List Int) σ2 (fun A6 l6 c6 σ7=>exl 3 [.int .i64] ([100,100]:List Int) σ7 (fun A8 l8 c8 σ9=>
  exl 164 [.int .i64,.int .i64,.int .i64,.int .i64] ([((-1),20,2,100)]:List (Int×Int×Int×Int)) σ9 (fun A10 l10 c10 σ11=>
  exl 166 [.int .i64,.int .i64,.int .i64,.int .i64] ([(0,0,15,0),(0,0,10,0)]:List (Int×Int×Int×Int)) σ11 (fun A12 l12 c12 σ13=>
  exl 162 [.int .i64,.int .i64,.int .i64,.int .i64,.int .i64] ([(5,4,0,0,0),(5,4,1,0,0)]:List (Int×Int×Int×Int×Int)) σ13 (fun A14 l14 c14 σ15=>
  exl 3 [.int .i64] ([60,60]:List Int) σ15 (fun A16 l16 c16 σ17=>exl 3 [.int .i64] ([2,0]:List Int) σ17 (fun A18 l18 c18 σ19=>
  rt σ19 R (.tuple #[(.agg #[.slice A3 l3 c3,.int .i64 n4,.slice none 0 0,.slice A6 l6 c6,.slice A8 l8 c8,.slice A14 l14 c14,.int .i64 5,.slice A10 l10 c10,.slice A12 l12 c12,.int .i64 50,.int .i64 5,.int .i64 230,.slice A16 l16 c16,.slice A18 l18 c18]),.slice A5 l5 c5]))))))))))
def Mz:MAn:=(.seq (.txt []) (.seq (.txt []) (.seq (.txt []) .leaf)))
theorem MB (σ:Hp) (R:Value->Hp->Prop) (h:FB σ  R):Ae Tryz.prog 48 #[] σ R:=
 Ad NZ Mz Tryz.func48 rfl (by kernel_rfl) (by kernel_rfl) (by kernel_rfl) h
theorem Kb:An Tryz.prog 48=true:=by kernel_rfl
abbrev L8:FuncId:=16
def Hl (σ:Hp) (R:Value->Hp->Prop):Prop:=
 cl Tryz.prog (.func (.func 48) #[] #[]) #[] σ (fun v1 σ2=>∃ A3:Option Addr,∃ l3 c3:Nat,∃ n4:Int,∃ A5:Option Addr,∃ l5 c5:Nat,∃ A6:Option Addr,∃ l6 c6:Nat,∃ A7:Option Addr,∃ l7 c7:Nat,∃ A8:Option Addr,∃ l8 c8:Nat,∃ n9:Int,∃ A10:Option Addr,∃ l10 c10:Nat,∃ A11:Option Addr,∃ l11 c11:Nat,∃ n12 n13 n14:Int,∃ A15:Option Addr,∃ l15 c15:Nat,∃ A16:Option Addr,∃ l16 c16:Nat,∃ A17:Option Addr,∃ l17 c17:Nat,(v1=(.tuple #[(.agg #[.slice A3 l3 c3,.int .i64 n4,.slice A5 l5 c5,.slice A6 l6 c6,.slice A7 l7 c7,.slice A8 l8 c8,.int .i64 n9,.slice A10 l10 c10,.slice A11 l11 c11,.int .i64 n12,.int .i64 n13,.int .i64 n14,.slice A15 l15 c15,.slice A16 l16 c16]),.slice A17 l17 c17]) /\
  cl Tryz.prog (.func (.func 18) #[] #[]) #[(.agg #[.slice A3 l3 c3,.int .i64 n4,.slice A5 l5 c5,.slice A6 l6 c6,.slice A7 l7 c7,.slice A8 l8 c8,.int .i64 n9,.slice A10 l10 c10,.slice A11 l11 c11,.int .i64 n12,.int .i64 n13,.int .i64 n14,.slice A15 l15 c15,.slice A16 l16 c16])] σ2 (fun v18 σ19=>
  ∃ A20:Option Addr,∃ l20 c20:Nat,∃ n21:Int,(v18=(.tuple #[.slice A20 l20 c20,.int .i64 n21]) /\
  cl Tryz.prog (.func (.func 26) #[] #[]) #[(.agg #[.slice A3 l3 c3,.int .i64 n4,.slice A5 l5 c5,.slice A6 l6 c6,.slice A7 l7 c7,.slice A8 l8 c8,.int .i64 n9,.slice A10 l10 c10,.slice A11 l11 c11,.int .i64 n12,.int .i64 n13,.int .i64 n14,.slice A15 l15 c15,.slice A16 l16 c16]),.slice A17 l17 c17] σ19 (fun v22 σ23=>
  ∃ n24 n25:Int,(v22=(.tuple #[.int .i64 n24,.int .i64 n25])/\bc (decide (n21=0)) (bc (decide (n25=0)) (bc (decide (((l20:Nat):Int)=1)) (ix A20 l20 0 1 (fun b26 a27=>
  ldI σ23 .i64 b26 a27 (fun n28=>bc (decide (n28=0)) (rt σ23 R (.bool (decide (n24=5)))) (rt σ23 R (.bool false))))) (rt σ23 R (.bool false))) (rt σ23 R (.bool false))) (rt σ23 R (.bool false))))))))
def A0:OA:=⟨[],false,[]⟩
def O0:MAn:=(.seq (.txt []) (.seq (.txt []) (.seq (.txt []) (.seq (.txt []) (.seq (.txt [A0,A0,⟨[],true,[]⟩,A0,A0,A0,⟨[],true,[]⟩,A0,A0,A0,A0,⟨[],true,[]⟩,A0,A0,A0,A0,A0,⟨[],true,[]⟩]) .leaf)))))
theorem OM (σ:Hp) (R:Value->Hp->Prop) (h:Hl σ  R):Ae Tryz.prog 16 #[] σ R:=
 Ad NZ O0 Tryz.func16 rfl (by kernel_rfl) (by kernel_rfl) (by kernel_rfl) h
theorem L6:An Tryz.prog 16=true:=by kernel_rfl
abbrev TD:FuncId:=15
def K8 (σ:Hp) (_:Option Addr) (b0 _:Nat) (_:Int) (_:Option Addr) (f0 _:Nat) (_:Option Addr) (e0 _:Nat) (_:Option Addr) (c0 _:Nat) (_:Option Addr) (k0 _:Nat) (_:Int) (_:Option Addr) (a0 _:Nat) (_:Option Addr) (d0 _:Nat) (_ _ _:Int) (_:Option Addr) (p0 _:Nat) (_:Option Addr) (x0 _:Nat) (R:Value->Hp->Prop):Prop:=
 bc (decide ((10:Int)<((b0:Nat):Int))) (rt σ R (.bool true)) (bc (decide ((25:Int)<((f0:Nat):Int))) (rt σ R (.bool true)) (bc (decide ((12:Int)<((e0:Nat):Int))) (rt σ R (.bool true)) (bc (decide ((15:Int)<((c0:Nat):Int))) (rt σ R (.bool true)) (bc (decide ((60:Int)<((k0:Nat):Int))) (rt σ R (.bool true)) (bc (decide ((15:Int)<((a0:Nat):Int))) (rt σ R (.bool true)) (bc (decide ((20:Int)<((d0:Nat):Int))) (rt σ R (.bool true)) (bc (decide ((15:Int)<((p0:Nat):Int))) (rt σ R (.bool true)) (rt σ R (.bool (decide ((15:Int)<((x0:Nat):Int))))))))))))
def Ap:OA:=⟨[],false,[]⟩
def Qw:MAn:=(.seq (.txt []) (.seq (.txt [Ap,Ap,Ap,Ap,Ap,⟨[],true,[]⟩,Ap,Ap,Ap,Ap,Ap,Ap,⟨[],true,[]⟩,Ap,Ap,Ap,Ap,Ap,Ap,⟨[],true,[]⟩,Ap,Ap,Ap,Ap,Ap,Ap,⟨[],true,[]⟩,Ap,Ap,Ap,Ap,Ap,⟨[],true,[]⟩,Ap,Ap,Ap,Ap,Ap,Ap,⟨[],true,[]⟩,Ap,Ap,Ap,Ap,Ap,Ap,⟨[],true,[]⟩,Ap,Ap,Ap,Ap,Ap,⟨[],true,[]⟩]) .leaf))
theorem QX (σ:Hp) (j0:Option Addr) (b0 i0:Nat) (r0:Int) (q0:Option Addr) (f0 v0:Nat) (s0:Option Addr) (e0 u0:Nat) (l0:Option Addr) (c0 n0:Nat) (z0:Option Addr) (k0 a1:Nat) (f1:Int) (g0:Option Addr) (a0 h0:Nat) (m0:Option Addr) (d0 o0:Nat) (t0 y0 w0:Int) (c1:Option Addr) (p0 b1:Nat) (d1:Option Addr) (x0 e1:Nat) (R:Value->Hp->Prop) (h:K8 σ j0 b0 i0 r0 q0 f0 v0 s0 e0 u0 l0 c0 n0 z0 k0 a1 f1 g0 a0 h0 m0 d0 o0 t0 y0 w0 c1 p0 b1 d1 x0 e1 R):Ae Tryz.prog 15 #[(.agg #[.slice j0 b0 i0,.int .i64 r0,.slice q0 f0 v0,.slice s0 e0 u0,.slice l0 c0 n0,.slice z0 k0 a1,.int .i64 f1,.slice g0 a0 h0,.slice m0 d0 o0,.int .i64 t0,.int .i64 y0,.int .i64 w0,.slice c1 p0 b1,.slice d1 x0 e1])] σ R:=
 Ad NZ Qw Tryz.func15 rfl (by kernel_rfl) (by kernel_rfl) (by kernel_rfl) h
theorem N9:An Tryz.prog 15=true:=by kernel_rfl
abbrev SC:FuncId:=37
def Jh (σ:Hp) (l_A:Option Addr) (l_n _:Nat) (tick:Int) (R:Value->Hp->Prop):Prop:=
 cut (α:=Hp->Prop) (fun  σ2=>∀ _:Nat->Value,rt σ2 R (.bool false)) (fun J3=>∃ I6:Nat->Int->Hp->Prop,(∃ n70,I6 n70 0 σ) /\
  ∀ n7:Nat,∀ n8:Int,∀ σ5:Hp,I6 n7 n8 σ5->∀ _:Nat->Value,bc (decide (n8<((l_n:Nat):Int))) (cut (α:=Hp->Prop) (fun  σ10=>
  ∀ _:Nat->Value,wk .i64 (n8+1) (fun n12=>bk σ10 n7 (fun m13 σ14=>I6 m13 n12 σ14))) (fun J11=>
  cut (α:=Bool->Hp->Prop) (fun t18 σ16=>∀ _:Nat->Value,bc t18 (rt σ16 R (.bool true)) (J11 σ16)) (fun J17=>
  ix l_A l_n n8 2 (fun b19 a20=>ix (some ⟨b19,a20,none⟩) 2 0 1 (fun b21 a22=>ldI σ5 .i64 b21 a22 (fun n23=>
  bc (decide (n23<=tick)) (ix l_A l_n n8 2 (fun b24 a25=>ix (some ⟨b24,a25,none⟩) 2 1 1 (fun b26 a27=>
  ldI σ5 .i64 b26 a27 (fun n28=>J17 (decide (tick<n28)) σ5)))) (J17 false σ5))))))) (J3 σ5))
def PX:MAn:=(.seq (.txt []) (.cut ⟨[],0,[],[]⟩ (.seq (.txt []) (.block (.loop ⟨[],0,[.slot 5 (.sc (.int .i64))],[(0,true),(1,true)]⟩ (.seq (.seq (.txt []) (.cond .leaf .leaf)) (.cut ⟨[],0,[],[(0,true),(1,true),(5,true)]⟩ (.block (.cut ⟨[],0,[.slot 27 (.sc (.bool))],[(0,true),(1,true),(5,true)]⟩ (.txt [⟨[],false,[]⟩,⟨[],false,[]⟩,⟨[],false,[]⟩,⟨[],false,[]⟩,⟨[],false,[]⟩,⟨[],false,[]⟩,⟨[],false,[]⟩,⟨[],true,[]⟩]) (.cond (.seq (.txt []) .leaf) .leaf))) (.txt [])))))) (.seq (.txt []) .leaf)))
theorem PO (σ:Hp) (l_A:Option Addr) (l_n l_c:Nat) (tick:Int) (R:Value->Hp->Prop) (h:Jh σ l_A l_n l_c tick R):Ae Tryz.prog 37 #[.slice l_A l_n l_c,.int .i64 tick] σ R:=
 Ad NZ PX Tryz.func37 rfl (by kernel_rfl) (by kernel_rfl) (by kernel_rfl) h
theorem Gc:An Tryz.prog 37=true:=by kernel_rfl
end Go.Proofs.YthhadkggldcolaaGreat
