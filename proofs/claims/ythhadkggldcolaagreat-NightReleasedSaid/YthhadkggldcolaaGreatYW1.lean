/- Trimmed by wip/trim.py to what this claim rests on. -/
import Derived.Test.YthhadkggldcolaaGreatYB11
namespace Go.Proofs.YthhadkggldcolaaGreat
set_option maxRecDepth 100000
open Go.RowKit
def tkYW1:Nat->Nat->OA->MPlan->MPlan
 |0,_,_,x=>x
 |n+1,i,a,x=>.take i a (tkYW1 n (i+1) a x)
theorem Ij:Tryz.prog.follows .mixedOrders=true:=by kernel_rfl
abbrev OZ:FuncId:=48
def Fr (σ:Hp) (R:Value->Hp->Prop):Prop:=
 cl Tryz.prog (.func (.func 95) #[] #[]) #[] σ (fun v1 σ2=>∃ A3:Option Addr,∃ l3 c3:Nat,∃ n4:Int,∃ A5:Option Addr,∃ l5 c5:Nat,(v1=(.tuple #[(.agg #[.slice A3 l3 c3,.int .i64 n4]),.slice A5 l5 c5]) /\
  exl 3 [.int .i64] ([1]:List Int) σ2 (fun A6 l6 c6 σ7=>exl 3 [.int .i64] ([100,100]:List Int) σ7 (fun A8 l8 c8 σ9=>
  exl 164 [.int .i64,.int .i64,.int .i64,.int .i64] ([((-1),20,2,100)]:List (Int×Int×Int×Int)) σ9 (fun A10 l10 c10 σ11=>
  exl 166 [.int .i64,.int .i64,.int .i64,.int .i64] ([(0,0,15,0),(0,0,10,0)]:List (Int×Int×Int×Int)) σ11 (fun A12 l12 c12 σ13=>
  exl 162 [.int .i64,.int .i64,.int .i64,.int .i64,.int .i64] ([(5,4,0,0,0),(5,4,1,0,0)]:List (Int×Int×Int×Int×Int)) σ13 (fun A14 l14 c14 σ15=>
  exl 3 [.int .i64] ([60,60]:List Int) σ15 (fun A16 l16 c16 σ17=>exl 3 [.int .i64] ([2,0]:List Int) σ17 (fun A18 l18 c18 σ19=>
  rt σ19 R (.tuple #[(.agg #[.slice A3 l3 c3,.int .i64 n4,.slice none 0 0,.slice A6 l6 c6,.slice A8 l8 c8,.slice A14 l14 c14,.int .i64 5,.slice A10 l10 c10,.slice A12 l12 c12,.int .i64 50,.int .i64 5,.int .i64 230,.slice A16 l16 c16,.slice A18 l18 c18]),.slice A5 l5 c5]))))))))))
def L4:MAn:=(.seq (.txt []) (.seq (.txt []) (.seq (.txt []) .leaf)))
theorem LV (σ:Hp) (R:Value->Hp->Prop) (h:Fr σ  R):Ae Tryz.prog 48 #[] σ R:=
 Ad Ij L4 Tryz.func48 rfl (by kernel_rfl) (by kernel_rfl) (by kernel_rfl) h
theorem JC:Ao Tryz.prog 48=true:=by kernel_rfl
abbrev LK:FuncId:=16
def Hr (σ:Hp) (R:Value->Hp->Prop):Prop:=
 cl Tryz.prog (.func (.func 48) #[] #[]) #[] σ (fun v1 σ2=>∃ A3:Option Addr,∃ l3 c3:Nat,∃ n4:Int,∃ A5:Option Addr,∃ l5 c5:Nat,∃ A6:Option Addr,∃ l6 c6:Nat,∃ A7:Option Addr,∃ l7 c7:Nat,∃ A8:Option Addr,∃ l8 c8:Nat,∃ n9:Int,∃ A10:Option Addr,∃ l10 c10:Nat,∃ A11:Option Addr,∃ l11 c11:Nat,∃ n12 n13 n14:Int,∃ A15:Option Addr,∃ l15 c15:Nat,∃ A16:Option Addr,∃ l16 c16:Nat,∃ A17:Option Addr,∃ l17 c17:Nat,(v1=(.tuple #[(.agg #[.slice A3 l3 c3,.int .i64 n4,.slice A5 l5 c5,.slice A6 l6 c6,.slice A7 l7 c7,.slice A8 l8 c8,.int .i64 n9,.slice A10 l10 c10,.slice A11 l11 c11,.int .i64 n12,.int .i64 n13,.int .i64 n14,.slice A15 l15 c15,.slice A16 l16 c16]),.slice A17 l17 c17]) /\
  cl Tryz.prog (.func (.func 18) #[] #[]) #[(.agg #[.slice A3 l3 c3,.int .i64 n4,.slice A5 l5 c5,.slice A6 l6 c6,.slice A7 l7 c7,.slice A8 l8 c8,.int .i64 n9,.slice A10 l10 c10,.slice A11 l11 c11,.int .i64 n12,.int .i64 n13,.int .i64 n14,.slice A15 l15 c15,.slice A16 l16 c16])] σ2 (fun v18 σ19=>
  ∃ A20:Option Addr,∃ l20 c20:Nat,∃ n21:Int,(v18=(.tuple #[.slice A20 l20 c20,.int .i64 n21]) /\
  cl Tryz.prog (.func (.func 26) #[] #[]) #[(.agg #[.slice A3 l3 c3,.int .i64 n4,.slice A5 l5 c5,.slice A6 l6 c6,.slice A7 l7 c7,.slice A8 l8 c8,.int .i64 n9,.slice A10 l10 c10,.slice A11 l11 c11,.int .i64 n12,.int .i64 n13,.int .i64 n14,.slice A15 l15 c15,.slice A16 l16 c16]),.slice A17 l17 c17] σ19 (fun v22 σ23=>
  ∃ n24 n25:Int,(v22=(.tuple #[.int .i64 n24,.int .i64 n25])/\bc (decide (n21=0)) (bc (decide (n25=0)) (bc (decide (((l20:Nat):Int)=1)) (ix A20 l20 0 1 (fun b26 a27=>
  ldI σ23 .i64 b26 a27 (fun n28=>bc (decide (n28=0)) (rt σ23 R (.bool (decide (n24=5)))) (rt σ23 R (.bool false))))) (rt σ23 R (.bool false))) (rt σ23 R (.bool false))) (rt σ23 R (.bool false))))))))
def AT:OA:=⟨[],false,[]⟩
def Oi:MAn:=(.seq (.txt []) (.seq (.txt []) (.seq (.txt []) (.seq (.txt []) (.seq (.txt [AT,AT,⟨[],true,[]⟩,AT,AT,AT,⟨[],true,[]⟩,AT,AT,AT,AT,⟨[],true,[]⟩,AT,AT,AT,AT,AT,⟨[],true,[]⟩]) .leaf)))))
theorem N8 (σ:Hp) (R:Value->Hp->Prop) (h:Hr σ  R):Ae Tryz.prog 16 #[] σ R:=
 Ad Ij Oi Tryz.func16 rfl (by kernel_rfl) (by kernel_rfl) (by kernel_rfl) h
theorem Ly:Ao Tryz.prog 16=true:=by kernel_rfl
abbrev TH:FuncId:=15
def Kh (σ:Hp) (_:Option Addr) (a0 _:Nat) (_:Int) (_:Option Addr) (i0 _:Nat) (_:Option Addr) (j0 _:Nat) (_:Option Addr) (c0 _:Nat) (_:Option Addr) (v0 _:Nat) (_:Int) (_:Option Addr) (b0 _:Nat) (_:Option Addr) (d0 _:Nat) (_ _ _:Int) (_:Option Addr) (x0 _:Nat) (_:Option Addr) (a1 _:Nat) (R:Value->Hp->Prop):Prop:=
 bc (decide ((10:Int)<((a0:Nat):Int))) (rt σ R (.bool true)) (bc (decide ((25:Int)<((i0:Nat):Int))) (rt σ R (.bool true)) (bc (decide ((12:Int)<((j0:Nat):Int))) (rt σ R (.bool true)) (bc (decide ((15:Int)<((c0:Nat):Int))) (rt σ R (.bool true)) (bc (decide ((60:Int)<((v0:Nat):Int))) (rt σ R (.bool true)) (bc (decide ((15:Int)<((b0:Nat):Int))) (rt σ R (.bool true)) (bc (decide ((20:Int)<((d0:Nat):Int))) (rt σ R (.bool true)) (bc (decide ((15:Int)<((x0:Nat):Int))) (rt σ R (.bool true)) (rt σ R (.bool (decide ((15:Int)<((a1:Nat):Int))))))))))))
def An:OA:=⟨[],false,[]⟩
def Qf:MAn:=(.seq (.txt []) (.seq (.txt [An,An,An,An,An,⟨[],true,[]⟩,An,An,An,An,An,An,⟨[],true,[]⟩,An,An,An,An,An,An,⟨[],true,[]⟩,An,An,An,An,An,An,⟨[],true,[]⟩,An,An,An,An,An,⟨[],true,[]⟩,An,An,An,An,An,An,⟨[],true,[]⟩,An,An,An,An,An,An,⟨[],true,[]⟩,An,An,An,An,An,⟨[],true,[]⟩]) .leaf))
theorem Qu (σ:Hp) (f0:Option Addr) (a0 e0:Nat) (o0:Int) (q0:Option Addr) (i0 u0:Nat) (s0:Option Addr) (j0 r0:Nat) (k0:Option Addr) (c0 n0:Nat) (z0:Option Addr) (v0 y0:Nat) (f1:Int) (h0:Option Addr) (b0 g0:Nat) (m0:Option Addr) (d0 l0:Nat) (t0 w0 p0:Int) (b1:Option Addr) (x0 c1:Nat) (e1:Option Addr) (a1 d1:Nat) (R:Value->Hp->Prop) (h:Kh σ f0 a0 e0 o0 q0 i0 u0 s0 j0 r0 k0 c0 n0 z0 v0 y0 f1 h0 b0 g0 m0 d0 l0 t0 w0 p0 b1 x0 c1 e1 a1 d1 R):Ae Tryz.prog 15 #[(.agg #[.slice f0 a0 e0,.int .i64 o0,.slice q0 i0 u0,.slice s0 j0 r0,.slice k0 c0 n0,.slice z0 v0 y0,.int .i64 f1,.slice h0 b0 g0,.slice m0 d0 l0,.int .i64 t0,.int .i64 w0,.int .i64 p0,.slice b1 x0 c1,.slice e1 a1 d1])] σ R:=
 Ad Ij Qf Tryz.func15 rfl (by kernel_rfl) (by kernel_rfl) (by kernel_rfl) h
theorem Na:Ao Tryz.prog 15=true:=by kernel_rfl
abbrev Py:FuncId:=25
def Fg (σ:Hp) (f0:Option Addr) (a0 e0:Nat) (o0:Int) (q0:Option Addr) (i0 u0:Nat) (s0:Option Addr) (j0 r0:Nat) (k0:Option Addr) (c0 n0:Nat) (z0:Option Addr) (v0 y0:Nat) (f1:Int) (h0:Option Addr) (b0 g0:Nat) (m0:Option Addr) (d0 l0:Nat) (t0 w0 p0:Int) (b1:Option Addr) (x0 c1:Nat) (e1:Option Addr) (a1 d1:Nat) (l_A:Option Addr) (l_n l_c:Nat) (R:Value->Hp->Prop):Prop:=
 cl Tryz.prog (.func (.func 15) #[] #[]) #[(.agg #[.slice f0 a0 e0,.int .i64 o0,.slice q0 i0 u0,.slice s0 j0 r0,.slice k0 c0 n0,.slice z0 v0 y0,.int .i64 f1,.slice h0 b0 g0,.slice m0 d0 l0,.int .i64 t0,.int .i64 w0,.int .i64 p0,.slice b1 x0 c1,.slice e1 a1 d1])] σ (fun v1 σ2=>
  ∃ t3:Bool,(v1=(.bool t3)/\bc t3 (rt σ2 R (.bool true)) (cl Tryz.prog (.func (.func 66) #[] #[]) #[(.agg #[.slice f0 a0 e0,.int .i64 o0]),.slice l_A l_n l_c] σ2 (fun v4 σ5=>
  ∃ t6:Bool,(v4=(.bool t6)/\rt σ5 R (.bool t6))))))
def L9:MAn:=(.seq (.txt []) (.seq (.txt [⟨[],false,[]⟩,⟨[],false,[]⟩,⟨[],true,[]⟩]) .leaf))
theorem Mk (σ:Hp) (f0:Option Addr) (a0 e0:Nat) (o0:Int) (q0:Option Addr) (i0 u0:Nat) (s0:Option Addr) (j0 r0:Nat) (k0:Option Addr) (c0 n0:Nat) (z0:Option Addr) (v0 y0:Nat) (f1:Int) (h0:Option Addr) (b0 g0:Nat) (m0:Option Addr) (d0 l0:Nat) (t0 w0 p0:Int) (b1:Option Addr) (x0 c1:Nat) (e1:Option Addr) (a1 d1:Nat) (l_A:Option Addr) (l_n l_c:Nat) (R:Value->Hp->Prop) (h:Fg σ f0 a0 e0 o0 q0 i0 u0 s0 j0 r0 k0 c0 n0 z0 v0 y0 f1 h0 b0 g0 m0 d0 l0 t0 w0 p0 b1 x0 c1 e1 a1 d1 l_A l_n l_c R):Ae Tryz.prog 25 #[(.agg #[.slice f0 a0 e0,.int .i64 o0,.slice q0 i0 u0,.slice s0 j0 r0,.slice k0 c0 n0,.slice z0 v0 y0,.int .i64 f1,.slice h0 b0 g0,.slice m0 d0 l0,.int .i64 t0,.int .i64 w0,.int .i64 p0,.slice b1 x0 c1,.slice e1 a1 d1]),.slice l_A l_n l_c] σ R:=
 Ad Ij L9 Tryz.func25 rfl (by kernel_rfl) (by kernel_rfl) (by kernel_rfl) h
theorem JQ:Ao Tryz.prog 25=true:=by kernel_rfl
abbrev L1:FuncId:=31
def DN (σ:Hp) (a_A:Option Addr) (a_n _:Nat) (b_A:Option Addr) (b_n _:Nat) (R:Value->Hp->Prop):Prop:=
 bc (!decide (((a_n:Nat):Int)=((b_n:Nat):Int))) (rt σ R (.bool false)) (cut (α:=Hp->Prop) (fun  σ2=>
  ∀ _:Nat->Value,rt σ2 R (.bool true)) (fun J3=>∃ I6:Nat->Int->Hp->Prop,(∃ n70,I6 n70 0 σ) /\
  ∀ n7:Nat,∀ n8:Int,∀ σ5:Hp,I6 n7 n8 σ5->∀ _:Nat->Value,bc (decide (n8<((a_n:Nat):Int))) (ix a_A a_n n8 6 (fun b9 a10=>
  ldI σ5 .i64 b9 a10 (fun n11=>ldI σ5 .i64 b9 (a10+1) (fun n12=>ldI σ5 .i64 b9 (a10+2) (fun n13=>
  ldB σ5 b9 (a10+3) (fun t14=>ldI σ5 .i64 b9 (a10+4) (fun n15=>ldI σ5 .i64 b9 (a10+5) (fun n16=>
  ix b_A b_n n8 6 (fun b17 a18=>ldI σ5 .i64 b17 a18 (fun n19=>ldI σ5 .i64 b17 (a18+1) (fun n20=>
  ldI σ5 .i64 b17 (a18+2) (fun n21=>ldB σ5 b17 (a18+3) (fun t22=>ldI σ5 .i64 b17 (a18+4) (fun n23=>
  ldI σ5 .i64 b17 (a18+5) (fun n24=>bc (!(decide (n11=n19)&&(decide (n12=n20)&&(decide (n13=n21)&&((t14==t22)&&(decide (n15=n23)&&decide (n16=n24))))))) (rt σ5 R (.bool false)) (wk .i64 (n8+1) (fun n25=>
  bk σ5 n7 (fun m26 σ27=>I6 m26 n25 σ27)))))))))))))))))) (J3 σ5)))
def AV:OA:=⟨[],false,[]⟩
def JD:MAn:=(.seq (.txt []) (.seq (.seq (.txt []) (.cond (.seq (.txt []) .leaf) .leaf)) (.cut ⟨[],0,[],[]⟩ (.seq (.txt []) (.block (.loop ⟨[],0,[.slot 5 (.sc (.int .i64))],[(0,true),(1,true)]⟩ (.seq (.seq (.txt []) (.cond .leaf .leaf)) (.seq (.block (.seq (.plan [] (tkYW1 9 0 AV .done)) (.cond (.seq (.txt []) .leaf) .leaf))) (.txt [])))))) (.seq (.txt []) .leaf))))
theorem JR (σ:Hp) (a_A:Option Addr) (a_n a_c:Nat) (b_A:Option Addr) (b_n b_c:Nat) (R:Value->Hp->Prop) (h:DN σ a_A a_n a_c b_A b_n b_c R):Ae Tryz.prog 31 #[.slice a_A a_n a_c,.slice b_A b_n b_c] σ R:=
 Ad Ij JD Tryz.func31 rfl (by kernel_rfl) (by kernel_rfl) (by kernel_rfl) h
theorem HG:Ao Tryz.prog 31=true:=by kernel_rfl
abbrev PN:FuncId:=27
def Ge (σ:Hp) (l_A:Option Addr) (l_n l_c:Nat) (R:Value->Hp->Prop):Prop:=
 cl Tryz.prog (.func (.func 70) #[] #[]) #[.slice l_A l_n l_c] σ (fun v1 σ2=>∃ A3:Option Addr,∃ l3 c3:Nat,(v1=(.slice A3 l3 c3) /\
  rt σ2 R (.slice A3 l3 c3)))
def ND:MAn:=(.seq (.txt []) (.seq (.txt []) .leaf))
theorem MT (σ:Hp) (l_A:Option Addr) (l_n l_c:Nat) (R:Value->Hp->Prop) (h:Ge σ l_A l_n l_c R):Ae Tryz.prog 27 #[.slice l_A l_n l_c] σ R:=
 Ad Ij ND Tryz.func27 rfl (by kernel_rfl) (by kernel_rfl) (by kernel_rfl) h
theorem Fe:Ao Tryz.prog 27=true:=by kernel_rfl
end Go.Proofs.YthhadkggldcolaaGreat
