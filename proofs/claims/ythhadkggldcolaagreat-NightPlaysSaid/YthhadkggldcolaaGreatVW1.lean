/- Trimmed by wip/trim.py to what this claim rests on. -/
import Derived.Test.YthhadkggldcolaaGreatVB11
namespace Go.Proofs.YthhadkggldcolaaGreat
set_option maxRecDepth 100000
open Go.RowKit
def tkVW1:Nat->Nat->OA->MPlan->MPlan
 |0,_,_,x=>x
 |n+1,i,a,x=>.take i a (tkVW1 n (i+1) a x)
theorem GX:Tryz.prog.follows .mixedOrders=true:=by kernel_rfl
abbrev Sl:FuncId:=48
def F3 (σ:Hp) (R:Value->Hp->Prop):Prop:=
 cl Tryz.prog (.func (.func 95) #[] #[]) #[] σ (fun v1 σ2=>∃ A3:Option Addr,∃ l3 c3:Nat,∃ n4:Int,∃ A5:Option Addr,∃ l5 c5:Nat,(v1=(.tuple #[(.agg #[.slice A3 l3 c3,.int .i64 n4]),.slice A5 l5 c5]) /\
  exl 3 [.int .i64] ([1]:List Int) σ2 (fun A6 l6 c6 σ7=>exl 3 [.int .i64] ([100,100]:List Int) σ7 (fun A8 l8 c8 σ9=>
  exl 164 [.int .i64,.int .i64,.int .i64,.int .i64] ([((-1),20,2,100)]:List (Int×Int×Int×Int)) σ9 (fun A10 l10 c10 σ11=>
  exl 166 [.int .i64,.int .i64,.int .i64,.int .i64] ([(0,0,15,0),(0,0,10,0)]:List (Int×Int×Int×Int)) σ11 (fun A12 l12 c12 σ13=>
  exl 162 [.int .i64,.int .i64,.int .i64,.int .i64,.int .i64] ([(5,4,0,0,0),(5,4,1,0,0)]:List (Int×Int×Int×Int×Int)) σ13 (fun A14 l14 c14 σ15=>
  exl 3 [.int .i64] ([60,60]:List Int) σ15 (fun A16 l16 c16 σ17=>exl 3 [.int .i64] ([2,0]:List Int) σ17 (fun A18 l18 c18 σ19=>
  rt σ19 R (.tuple #[(.agg #[.slice A3 l3 c3,.int .i64 n4,.slice none 0 0,.slice A6 l6 c6,.slice A8 l8 c8,.slice A14 l14 c14,.int .i64 5,.slice A10 l10 c10,.slice A12 l12 c12,.int .i64 50,.int .i64 5,.int .i64 230,.slice A16 l16 c16,.slice A18 l18 c18]),.slice A5 l5 c5]))))))))))
def On:MAn:=(.seq (.txt []) (.seq (.txt []) (.seq (.txt []) .leaf)))
theorem OU (σ:Hp) (R:Value->Hp->Prop) (h:F3 σ  R):Af Tryz.prog 48 #[] σ R:=
 Ae GX On Tryz.func48 rfl (by kernel_rfl) (by kernel_rfl) (by kernel_rfl) h
theorem LH:Ao Tryz.prog 48=true:=by kernel_rfl
abbrev N3:FuncId:=16
def Ir (σ:Hp) (R:Value->Hp->Prop):Prop:=
 cl Tryz.prog (.func (.func 48) #[] #[]) #[] σ (fun v1 σ2=>∃ A3:Option Addr,∃ l3 c3:Nat,∃ n4:Int,∃ A5:Option Addr,∃ l5 c5:Nat,∃ A6:Option Addr,∃ l6 c6:Nat,∃ A7:Option Addr,∃ l7 c7:Nat,∃ A8:Option Addr,∃ l8 c8:Nat,∃ n9:Int,∃ A10:Option Addr,∃ l10 c10:Nat,∃ A11:Option Addr,∃ l11 c11:Nat,∃ n12 n13 n14:Int,∃ A15:Option Addr,∃ l15 c15:Nat,∃ A16:Option Addr,∃ l16 c16:Nat,∃ A17:Option Addr,∃ l17 c17:Nat,(v1=(.tuple #[(.agg #[.slice A3 l3 c3,.int .i64 n4,.slice A5 l5 c5,.slice A6 l6 c6,.slice A7 l7 c7,.slice A8 l8 c8,.int .i64 n9,.slice A10 l10 c10,.slice A11 l11 c11,.int .i64 n12,.int .i64 n13,.int .i64 n14,.slice A15 l15 c15,.slice A16 l16 c16]),.slice A17 l17 c17]) /\
  cl Tryz.prog (.func (.func 18) #[] #[]) #[(.agg #[.slice A3 l3 c3,.int .i64 n4,.slice A5 l5 c5,.slice A6 l6 c6,.slice A7 l7 c7,.slice A8 l8 c8,.int .i64 n9,.slice A10 l10 c10,.slice A11 l11 c11,.int .i64 n12,.int .i64 n13,.int .i64 n14,.slice A15 l15 c15,.slice A16 l16 c16])] σ2 (fun v18 σ19=>
  ∃ A20:Option Addr,∃ l20 c20:Nat,∃ n21:Int,(v18=(.tuple #[.slice A20 l20 c20,.int .i64 n21]) /\
  cl Tryz.prog (.func (.func 26) #[] #[]) #[(.agg #[.slice A3 l3 c3,.int .i64 n4,.slice A5 l5 c5,.slice A6 l6 c6,.slice A7 l7 c7,.slice A8 l8 c8,.int .i64 n9,.slice A10 l10 c10,.slice A11 l11 c11,.int .i64 n12,.int .i64 n13,.int .i64 n14,.slice A15 l15 c15,.slice A16 l16 c16]),.slice A17 l17 c17] σ19 (fun v22 σ23=>
  ∃ n24 n25:Int,(v22=(.tuple #[.int .i64 n24,.int .i64 n25])/\bc (decide (n21=0)) (bc (decide (n25=0)) (bc (decide (((l20:Nat):Int)=1)) (ix A20 l20 0 1 (fun b26 a27=>
  ldI σ23 .i64 b26 a27 (fun n28=>bc (decide (n28=0)) (rt σ23 R (.bool (decide (n24=5)))) (rt σ23 R (.bool false))))) (rt σ23 R (.bool false))) (rt σ23 R (.bool false))) (rt σ23 R (.bool false))))))))
def Bn:OA:=⟨[],false,[]⟩
def QT:MAn:=(.seq (.txt []) (.seq (.txt []) (.seq (.txt []) (.seq (.txt []) (.seq (.txt [Bn,Bn,⟨[],true,[]⟩,Bn,Bn,Bn,⟨[],true,[]⟩,Bn,Bn,Bn,Bn,⟨[],true,[]⟩,Bn,Bn,Bn,Bn,Bn,⟨[],true,[]⟩]) .leaf)))))
theorem RC (σ:Hp) (R:Value->Hp->Prop) (h:Ir σ  R):Af Tryz.prog 16 #[] σ R:=
 Ae GX QT Tryz.func16 rfl (by kernel_rfl) (by kernel_rfl) (by kernel_rfl) h
theorem Ns:Ao Tryz.prog 16=true:=by kernel_rfl
abbrev WH:FuncId:=15
def Mq (σ:Hp) (_:Option Addr) (a0 _:Nat) (_:Int) (_:Option Addr) (n0 _:Nat) (_:Option Addr) (m0 _:Nat) (_:Option Addr) (f0 _:Nat) (_:Option Addr) (w0 _:Nat) (_:Int) (_:Option Addr) (b0 _:Nat) (_:Option Addr) (e0 _:Nat) (_ _ _:Int) (_:Option Addr) (x0 _:Nat) (_:Option Addr) (c1 _:Nat) (R:Value->Hp->Prop):Prop:=
 bc (decide ((10:Int)<((a0:Nat):Int))) (rt σ R (.bool true)) (bc (decide ((25:Int)<((n0:Nat):Int))) (rt σ R (.bool true)) (bc (decide ((12:Int)<((m0:Nat):Int))) (rt σ R (.bool true)) (bc (decide ((15:Int)<((f0:Nat):Int))) (rt σ R (.bool true)) (bc (decide ((60:Int)<((w0:Nat):Int))) (rt σ R (.bool true)) (bc (decide ((15:Int)<((b0:Nat):Int))) (rt σ R (.bool true)) (bc (decide ((20:Int)<((e0:Nat):Int))) (rt σ R (.bool true)) (bc (decide ((15:Int)<((x0:Nat):Int))) (rt σ R (.bool true)) (rt σ R (.bool (decide ((15:Int)<((c1:Nat):Int))))))))))))
def As:OA:=⟨[],false,[]⟩
def Tq:MAn:=(.seq (.txt []) (.seq (.txt [As,As,As,As,As,⟨[],true,[]⟩,As,As,As,As,As,As,⟨[],true,[]⟩,As,As,As,As,As,As,⟨[],true,[]⟩,As,As,As,As,As,As,⟨[],true,[]⟩,As,As,As,As,As,⟨[],true,[]⟩,As,As,As,As,As,As,⟨[],true,[]⟩,As,As,As,As,As,As,⟨[],true,[]⟩,As,As,As,As,As,⟨[],true,[]⟩]) .leaf))
theorem TP (σ:Hp) (c0:Option Addr) (a0 d0:Nat) (o0:Int) (t0:Option Addr) (n0 r0:Nat) (u0:Option Addr) (m0 p0:Nat) (j0:Option Addr) (f0 k0:Nat) (z0:Option Addr) (w0 y0:Nat) (f1:Int) (g0:Option Addr) (b0 h0:Nat) (i0:Option Addr) (e0 l0:Nat) (s0 v0 q0:Int) (b1:Option Addr) (x0 a1:Nat) (d1:Option Addr) (c1 e1:Nat) (R:Value->Hp->Prop) (h:Mq σ c0 a0 d0 o0 t0 n0 r0 u0 m0 p0 j0 f0 k0 z0 w0 y0 f1 g0 b0 h0 i0 e0 l0 s0 v0 q0 b1 x0 a1 d1 c1 e1 R):Af Tryz.prog 15 #[(.agg #[.slice c0 a0 d0,.int .i64 o0,.slice t0 n0 r0,.slice u0 m0 p0,.slice j0 f0 k0,.slice z0 w0 y0,.int .i64 f1,.slice g0 b0 h0,.slice i0 e0 l0,.int .i64 s0,.int .i64 v0,.int .i64 q0,.slice b1 x0 a1,.slice d1 c1 e1])] σ R:=
 Ae GX Tq Tryz.func15 rfl (by kernel_rfl) (by kernel_rfl) (by kernel_rfl) h
theorem Ps:Ao Tryz.prog 15=true:=by kernel_rfl
abbrev R6:FuncId:=25
def Gb (σ:Hp) (c0:Option Addr) (a0 d0:Nat) (o0:Int) (t0:Option Addr) (n0 r0:Nat) (u0:Option Addr) (m0 p0:Nat) (j0:Option Addr) (f0 k0:Nat) (z0:Option Addr) (w0 y0:Nat) (f1:Int) (g0:Option Addr) (b0 h0:Nat) (i0:Option Addr) (e0 l0:Nat) (s0 v0 q0:Int) (b1:Option Addr) (x0 a1:Nat) (d1:Option Addr) (c1 e1:Nat) (l_A:Option Addr) (l_n l_c:Nat) (R:Value->Hp->Prop):Prop:=
 cl Tryz.prog (.func (.func 15) #[] #[]) #[(.agg #[.slice c0 a0 d0,.int .i64 o0,.slice t0 n0 r0,.slice u0 m0 p0,.slice j0 f0 k0,.slice z0 w0 y0,.int .i64 f1,.slice g0 b0 h0,.slice i0 e0 l0,.int .i64 s0,.int .i64 v0,.int .i64 q0,.slice b1 x0 a1,.slice d1 c1 e1])] σ (fun v1 σ2=>
  ∃ t3:Bool,(v1=(.bool t3)/\bc t3 (rt σ2 R (.bool true)) (cl Tryz.prog (.func (.func 66) #[] #[]) #[(.agg #[.slice c0 a0 d0,.int .i64 o0]),.slice l_A l_n l_c] σ2 (fun v4 σ5=>
  ∃ t6:Bool,(v4=(.bool t6)/\rt σ5 R (.bool t6))))))
def Pf:MAn:=(.seq (.txt []) (.seq (.txt [⟨[],false,[]⟩,⟨[],false,[]⟩,⟨[],true,[]⟩]) .leaf))
theorem Ov (σ:Hp) (c0:Option Addr) (a0 d0:Nat) (o0:Int) (t0:Option Addr) (n0 r0:Nat) (u0:Option Addr) (m0 p0:Nat) (j0:Option Addr) (f0 k0:Nat) (z0:Option Addr) (w0 y0:Nat) (f1:Int) (g0:Option Addr) (b0 h0:Nat) (i0:Option Addr) (e0 l0:Nat) (s0 v0 q0:Int) (b1:Option Addr) (x0 a1:Nat) (d1:Option Addr) (c1 e1:Nat) (l_A:Option Addr) (l_n l_c:Nat) (R:Value->Hp->Prop) (h:Gb σ c0 a0 d0 o0 t0 n0 r0 u0 m0 p0 j0 f0 k0 z0 w0 y0 f1 g0 b0 h0 i0 e0 l0 s0 v0 q0 b1 x0 a1 d1 c1 e1 l_A l_n l_c R):Af Tryz.prog 25 #[(.agg #[.slice c0 a0 d0,.int .i64 o0,.slice t0 n0 r0,.slice u0 m0 p0,.slice j0 f0 k0,.slice z0 w0 y0,.int .i64 f1,.slice g0 b0 h0,.slice i0 e0 l0,.int .i64 s0,.int .i64 v0,.int .i64 q0,.slice b1 x0 a1,.slice d1 c1 e1]),.slice l_A l_n l_c] σ R:=
 Ae GX Pf Tryz.func25 rfl (by kernel_rfl) (by kernel_rfl) (by kernel_rfl) h
theorem LL:Ao Tryz.prog 25=true:=by kernel_rfl
abbrev O8:FuncId:=31
def Eb (σ:Hp) (a_A:Option Addr) (a_n _:Nat) (b_A:Option Addr) (b_n _:Nat) (R:Value->Hp->Prop):Prop:=
 bc (!decide (((a_n:Nat):Int)=((b_n:Nat):Int))) (rt σ R (.bool false)) (cut (α:=Hp->Prop) (fun  σ2=>
  ∀ _:Nat->Value,rt σ2 R (.bool true)) (fun J3=>∃ I6:Nat->Int->Hp->Prop,(∃ n70,I6 n70 0 σ) /\
  ∀ n7:Nat,∀ n8:Int,∀ σ5:Hp,I6 n7 n8 σ5->∀ _:Nat->Value,bc (decide (n8<((a_n:Nat):Int))) (ix a_A a_n n8 6 (fun b9 a10=>
  ldI σ5 .i64 b9 a10 (fun n11=>ldI σ5 .i64 b9 (a10+1) (fun n12=>ldI σ5 .i64 b9 (a10+2) (fun n13=>
  ldB σ5 b9 (a10+3) (fun t14=>ldI σ5 .i64 b9 (a10+4) (fun n15=>ldI σ5 .i64 b9 (a10+5) (fun n16=>
  ix b_A b_n n8 6 (fun b17 a18=>ldI σ5 .i64 b17 a18 (fun n19=>ldI σ5 .i64 b17 (a18+1) (fun n20=>
  ldI σ5 .i64 b17 (a18+2) (fun n21=>ldB σ5 b17 (a18+3) (fun t22=>ldI σ5 .i64 b17 (a18+4) (fun n23=>
  ldI σ5 .i64 b17 (a18+5) (fun n24=>bc (!(decide (n11=n19)&&(decide (n12=n20)&&(decide (n13=n21)&&((t14==t22)&&(decide (n15=n23)&&decide (n16=n24))))))) (rt σ5 R (.bool false)) (wk .i64 (n8+1) (fun n25=>
  bk σ5 n7 (fun m26 σ27=>I6 m26 n25 σ27)))))))))))))))))) (J3 σ5)))
def Br:OA:=⟨[],false,[]⟩
def Lo:MAn:=(.seq (.txt []) (.seq (.seq (.txt []) (.cond (.seq (.txt []) .leaf) .leaf)) (.cut ⟨[],0,[],[]⟩ (.seq (.txt []) (.block (.loop ⟨[],0,[.slot 5 (.sc (.int .i64))],[(0,true),(1,true)]⟩ (.seq (.seq (.txt []) (.cond .leaf .leaf)) (.seq (.block (.seq (.plan [] (tkVW1 9 0 Br .done)) (.cond (.seq (.txt []) .leaf) .leaf))) (.txt [])))))) (.seq (.txt []) .leaf))))
theorem K8 (σ:Hp) (a_A:Option Addr) (a_n a_c:Nat) (b_A:Option Addr) (b_n b_c:Nat) (R:Value->Hp->Prop) (h:Eb σ a_A a_n a_c b_A b_n b_c R):Af Tryz.prog 31 #[.slice a_A a_n a_c,.slice b_A b_n b_c] σ R:=
 Ae GX Lo Tryz.func31 rfl (by kernel_rfl) (by kernel_rfl) (by kernel_rfl) h
theorem IV:Ao Tryz.prog 31=true:=by kernel_rfl
abbrev TW:FuncId:=27
def Hr (σ:Hp) (l_A:Option Addr) (l_n l_c:Nat) (R:Value->Hp->Prop):Prop:=
 cl Tryz.prog (.func (.func 70) #[] #[]) #[.slice l_A l_n l_c] σ (fun v1 σ2=>∃ A3:Option Addr,∃ l3 c3:Nat,(v1=(.slice A3 l3 c3) /\
  rt σ2 R (.slice A3 l3 c3)))
def PP:MAn:=(.seq (.txt []) (.seq (.txt []) .leaf))
theorem Qx (σ:Hp) (l_A:Option Addr) (l_n l_c:Nat) (R:Value->Hp->Prop) (h:Hr σ l_A l_n l_c R):Af Tryz.prog 27 #[.slice l_A l_n l_c] σ R:=
 Ae GX PP Tryz.func27 rfl (by kernel_rfl) (by kernel_rfl) (by kernel_rfl) h
theorem Ms:Ao Tryz.prog 27=true:=by kernel_rfl
abbrev BG:FuncId:=5
def D3 (σ:Hp) (c0:Option Addr) (a0 d0:Nat) (o0:Int) (t0:Option Addr) (n0 r0:Nat) (u0:Option Addr) (m0 p0:Nat) (j0:Option Addr) (f0 k0:Nat) (z0:Option Addr) (w0 y0:Nat) (f1:Int) (g0:Option Addr) (b0 h0:Nat) (i0:Option Addr) (e0 l0:Nat) (s0 v0 q0:Int) (b1:Option Addr) (x0 a1:Nat) (d1:Option Addr) (c1 e1:Nat) (l_A:Option Addr) (l_n l_c:Nat) (R:Value->Hp->Prop):Prop:=
 cl Tryz.prog (.func (.func 25) #[] #[]) #[(.agg #[.slice c0 a0 d0,.int .i64 o0,.slice t0 n0 r0,.slice u0 m0 p0,.slice j0 f0 k0,.slice z0 w0 y0,.int .i64 f1,.slice g0 b0 h0,.slice i0 e0 l0,.int .i64 s0,.int .i64 v0,.int .i64 q0,.slice b1 x0 a1,.slice d1 c1 e1]),.slice l_A l_n l_c] σ (fun v1 σ2=>
  ∃ t3:Bool,(v1=(.bool t3)/\bc t3 (cl Tryz.prog (.func (.func 16) #[] #[]) #[] σ2 (fun v4 σ5=>∃ t6:Bool,(v4=(.bool t6) /\
  rt σ5 R (.bool t6)))) (cl Tryz.prog (.func (.func 17) #[] #[]) #[(.agg #[.slice c0 a0 d0,.int .i64 o0,.slice t0 n0 r0,.slice u0 m0 p0,.slice j0 f0 k0,.slice z0 w0 y0,.int .i64 f1,.slice g0 b0 h0,.slice i0 e0 l0,.int .i64 s0,.int .i64 v0,.int .i64 q0,.slice b1 x0 a1,.slice d1 c1 e1])] σ2 (fun v7 σ8=>
  ∃ A9:Option Addr,∃ l9 c9:Nat,∃ n10:Int,∃ A11:Option Addr,∃ l11 c11:Nat,∃ A12:Option Addr,∃ l12 c12:Nat,∃ A13:Option Addr,∃ l13 c13:Nat,∃ A14:Option Addr,∃ l14 c14:Nat,∃ n15:Int,∃ A16:Option Addr,∃ l16 c16:Nat,∃ A17:Option Addr,∃ l17 c17:Nat,∃ n18 n19 n20:Int,∃ A21:Option Addr,∃ l21 c21:Nat,∃ A22:Option Addr,∃ l22 c22:Nat,(v7=(.agg #[.slice A9 l9 c9,.int .i64 n10,.slice A11 l11 c11,.slice A12 l12 c12,.slice A13 l13 c13,.slice A14 l14 c14,.int .i64 n15,.slice A16 l16 c16,.slice A17 l17 c17,.int .i64 n18,.int .i64 n19,.int .i64 n20,.slice A21 l21 c21,.slice A22 l22 c22]) /\
  cl Tryz.prog (.func (.func 27) #[] #[]) #[.slice l_A l_n l_c] σ8 (fun v23 σ24=>∃ A25:Option Addr,∃ l25 c25:Nat,(v23=(.slice A25 l25 c25) /\
  cl Tryz.prog (.func (.func 29) #[] #[]) #[(.agg #[.slice A9 l9 c9,.int .i64 n10,.slice A11 l11 c11,.slice A12 l12 c12,.slice A13 l13 c13,.slice A14 l14 c14,.int .i64 n15,.slice A16 l16 c16,.slice A17 l17 c17,.int .i64 n18,.int .i64 n19,.int .i64 n20,.slice A21 l21 c21,.slice A22 l22 c22]),.slice A25 l25 c25] σ24 (fun v26 σ27=>
  ∃ A28:Option Addr,∃ l28 c28:Nat,∃ n29:Int,(v26=(.tuple #[.slice A28 l28 c28,.int .i64 n29]) /\
  cl Tryz.prog (.func (.func 30) #[] #[]) #[(.agg #[.slice c0 a0 d0,.int .i64 o0,.slice t0 n0 r0,.slice u0 m0 p0,.slice j0 f0 k0,.slice z0 w0 y0,.int .i64 f1,.slice g0 b0 h0,.slice i0 e0 l0,.int .i64 s0,.int .i64 v0,.int .i64 q0,.slice b1 x0 a1,.slice d1 c1 e1]),.slice l_A l_n l_c] σ27 (fun v30 σ31=>
  ∃ A32:Option Addr,∃ l32 c32:Nat,∃ n33:Int,(v30=(.tuple #[.slice A32 l32 c32,.int .i64 n33]) /\
  cl Tryz.prog (.func (.func 31) #[] #[]) #[.slice A28 l28 c28,.slice A32 l32 c32] σ31 (fun v34 σ35=>
  ∃ t36:Bool,(v34=(.bool t36)/\bc t36 (bc (decide (n29=n33)) (cl Tryz.prog (.func (.func 16) #[] #[]) #[] σ35 (fun v37 σ38=>
  ∃ t39:Bool,(v37=(.bool t39)/\rt σ38 R (.bool t39)))) (rt σ35 R (.bool false))) (rt σ35 R (.bool false)))))))))))))))
def K4:MAn:=(.seq (.txt []) (.seq (.seq (.txt []) (.cond (.seq (.txt []) .leaf) .leaf)) (.seq (.txt []) (.seq (.txt []) (.seq (.txt [⟨[],false,[]⟩,⟨[],false,[]⟩,⟨[],false,[]⟩,⟨[],true,[]⟩,⟨[],false,[]⟩,⟨[],false,[]⟩,⟨[],false,[]⟩,⟨[],false,[]⟩,⟨[],true,[]⟩]) .leaf)))))
theorem Lv (σ:Hp) (c0:Option Addr) (a0 d0:Nat) (o0:Int) (t0:Option Addr) (n0 r0:Nat) (u0:Option Addr) (m0 p0:Nat) (j0:Option Addr) (f0 k0:Nat) (z0:Option Addr) (w0 y0:Nat) (f1:Int) (g0:Option Addr) (b0 h0:Nat) (i0:Option Addr) (e0 l0:Nat) (s0 v0 q0:Int) (b1:Option Addr) (x0 a1:Nat) (d1:Option Addr) (c1 e1:Nat) (l_A:Option Addr) (l_n l_c:Nat) (R:Value->Hp->Prop) (h:D3 σ c0 a0 d0 o0 t0 n0 r0 u0 m0 p0 j0 f0 k0 z0 w0 y0 f1 g0 b0 h0 i0 e0 l0 s0 v0 q0 b1 x0 a1 d1 c1 e1 l_A l_n l_c R):Af Tryz.prog 5 #[(.agg #[.slice c0 a0 d0,.int .i64 o0,.slice t0 n0 r0,.slice u0 m0 p0,.slice j0 f0 k0,.slice z0 w0 y0,.int .i64 f1,.slice g0 b0 h0,.slice i0 e0 l0,.int .i64 s0,.int .i64 v0,.int .i64 q0,.slice b1 x0 a1,.slice d1 c1 e1]),.slice l_A l_n l_c] σ R:=
 Ae GX K4 Tryz.func5 rfl (by kernel_rfl) (by kernel_rfl) (by kernel_rfl) h
end Go.Proofs.YthhadkggldcolaaGreat
