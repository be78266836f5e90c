/- Trimmed by wip/trim.py to what this claim rests on. -/
import Derived.Test.YtoelhdjloaknbaaGreatVB11
namespace Go.Proofs.YtoelhdjloaknbaaGreat
set_option maxRecDepth 100000
open Go.RowKit
def tkVQ1:Nat->Nat->OA->MPlan->MPlan
 |0,_,_,x=>x
 |n+1,i,a,x=>.take i a (tkVQ1 n (i+1) a x)
theorem Bf:Tryz.prog.follows .mixedOrders=true:=by kernel_rfl
abbrev LT:FuncId:=68
def Ho (σ:Hp) (c0:Option Addr) (a0 b0:Nat) (d0:Int) (l_A:Option Addr) (l_n l_c:Nat) (R:Value->Hp->Prop):Prop:=
 cl Tryz.prog (.func (.func 123) #[] #[]) #[(.agg #[.slice c0 a0 b0,.int .i64 d0])] σ (fun v1 σ2=>
  ∃ n3:Int,(v1=(.int .i64 n3)/\bc (!decide (n3=0)) (rt σ2 R (.int .i64 n3)) (bx σ2 (.cells #[.slice c0 a0 b0,.int .i64 d0] 24) (fun b4 σ5=>
  cut (α:=Hp->Prop) (fun  σ7=>∀ _:Nat->Value,rt σ7 R (.int .i64 0)) (fun J8=>cut (α:=Bool->Hp->Prop) (fun t12 σ10=>
  ∀ _:Nat->Value,bc t12 (rt σ10 R (.int .i64 71)) (J8 σ10)) (fun J11=>bc (decide ((60:Int)<((l_n:Nat):Int))) (J11 true σ5) (cl Tryz.prog (.func (.func 127) #[] #[]) #[.slice l_A l_n l_c,(.func (.func 124) #[] #[(.pointer (some ⟨b4,0,none⟩))])] σ5 (fun v13 σ14=>
  ∃ t15:Bool,(v13=(.bool t15)/\J11 t15 σ14)))))))))
def N0:MAn:=(.seq (.txt []) (.seq (.seq (.txt []) (.seq (.txt []) (.cond (.seq (.txt []) .leaf) .leaf))) (.seq (.txt []) (.cut ⟨[false],1,[],[]⟩ (.cut ⟨[false],1,[.slot 20 (.sc (.bool))],[]⟩ (.txt [⟨[],false,[]⟩,⟨[],false,[]⟩,⟨[],false,[]⟩,⟨[],true,[]⟩]) (.cond (.seq (.txt []) .leaf) .leaf)) (.seq (.txt []) .leaf)))))
theorem NR (σ:Hp) (c0:Option Addr) (a0 b0:Nat) (d0:Int) (l_A:Option Addr) (l_n l_c:Nat) (R:Value->Hp->Prop) (h:Ho σ c0 a0 b0 d0 l_A l_n l_c R):Ae Tryz.prog 68 #[(.agg #[.slice c0 a0 b0,.int .i64 d0]),.slice l_A l_n l_c] σ R:=
 Ad Bf N0 Tryz.func68 rfl (by kernel_rfl) (by kernel_rfl) (by kernel_rfl) h
theorem Dg:Ao Tryz.prog 68=true:=by kernel_rfl
abbrev Rj:FuncId:=50
def Ju (σ:Hp) (c0:Option Addr) (a0 b0:Nat) (d0:Int) (l_A:Option Addr) (l_n l_c:Nat) (R:Value->Hp->Prop):Prop:=
 cl Tryz.prog (.func (.func 93) #[] #[]) #[(.agg #[.slice c0 a0 b0,.int .i64 d0]),.slice l_A l_n l_c,(.func (.func 94) #[] #[]),(.func (.func 95) #[] #[])] σ (fun v1 σ2=>
  ∃ A3:Option Addr,∃ l3 c3:Nat,∃ n4:Int,(v1=(.tuple #[.slice A3 l3 c3,.int .i64 n4]) /\
  rt σ2 R (.tuple #[.slice A3 l3 c3,.int .i64 n4])))
def Pd:MAn:=(.seq (.txt []) (.seq (.txt []) .leaf))
theorem Pq (σ:Hp) (c0:Option Addr) (a0 b0:Nat) (d0:Int) (l_A:Option Addr) (l_n l_c:Nat) (R:Value->Hp->Prop) (h:Ju σ c0 a0 b0 d0 l_A l_n l_c R):Ae Tryz.prog 50 #[(.agg #[.slice c0 a0 b0,.int .i64 d0]),.slice l_A l_n l_c] σ R:=
 Ad Bf Pd Tryz.func50 rfl (by kernel_rfl) (by kernel_rfl) (by kernel_rfl) h
theorem L0:Ao Tryz.prog 50=true:=by kernel_rfl
abbrev O1:FuncId:=67
def Fr (σ:Hp) (R:Value->Hp->Prop):Prop:=
 exl 77 [.int .i64,.int .i64,.int .i64,.int .i64,.bool] ([(4,2,3,1,false),(2,5,2,0,false)]:List (Int×Int×Int×Int×Bool)) σ (fun A1 l1 c1 σ2=>
  exl 3 [.int .i64] ([0,1]:List Int) σ2 (fun A3 l3 c3 σ4=>exl 3 [.int .i64] ([0,1]:List Int) σ4 (fun A5 l5 c5 σ6=>
  exl 65 [.int .i64,.int .i64,.int .i64,.slc,.int .i64] ([(0,3,20,(A3,l3,c3),100),(0,2,30,(A5,l5,c5),100)]:List (Int×Int×Int×(Option Addr×Nat×Nat)×Int)) σ6 (fun A7 l7 c7 σ8=>
  rt σ8 R (.tuple #[(.agg #[.slice A1 l1 c1,.int .i64 1]),.slice A7 l7 c7])))))
def Mw:MAn:=(.seq (.txt []) (.seq (.txt []) (.seq (.txt []) .leaf)))
theorem Md (σ:Hp) (R:Value->Hp->Prop) (h:Fr σ  R):Ae Tryz.prog 67 #[] σ R:=
 Ad Bf Mw Tryz.func67 rfl (by kernel_rfl) (by kernel_rfl) (by kernel_rfl) h
theorem JO:Ao Tryz.prog 67=true:=by kernel_rfl
abbrev Pa:FuncId:=123
def FA (σ:Hp) (c0:Option Addr) (a0 b0:Nat) (d0:Int) (R:Value->Hp->Prop):Prop:=
 cut (α:=Hp->Prop) (fun  σ2=>∀ _:Nat->Value,rt σ2 R (.int .i64 0)) (fun J3=>cut (α:=Bool->Hp->Prop) (fun t7 σ5=>
  ∀ _:Nat->Value,bc t7 (rt σ5 R (.int .i64 70)) (J3 σ5)) (fun J6=>bc (decide ((8:Int)<((a0:Nat):Int))) (J6 true σ) (cl Tryz.prog (.func (.func 126) #[] #[]) #[.int .i64 d0,.int .i64 0,.int .i64 100] σ (fun v8 σ9=>
  ∃ t10:Bool,(v8=(.bool t10)/\bc (!t10) (J6 true σ9) (cl Tryz.prog (.func (.func 181) #[] #[]) #[.slice c0 a0 b0,(.func (.func 180) #[] #[])] σ9 (fun v11 σ12=>
  ∃ t13:Bool,(v11=(.bool t13)/\J6 t13 σ12))))))))
def Ba:OA:=⟨[],false,[]⟩
def My:MAn:=(.seq (.txt []) (.seq (.txt []) (.cut ⟨[true],1,[],[]⟩ (.cut ⟨[true],1,[.slot 19 (.sc (.bool))],[]⟩ (.txt [Ba,Ba,Ba,Ba,⟨[],true,[]⟩,Ba,Ba,Ba,Ba,Ba,⟨[],true,[]⟩]) (.cond (.seq (.txt []) .leaf) .leaf)) (.seq (.txt []) .leaf))))
theorem Mg (σ:Hp) (c0:Option Addr) (a0 b0:Nat) (d0:Int) (R:Value->Hp->Prop) (h:FA σ c0 a0 b0 d0 R):Ae Tryz.prog 123 #[(.agg #[.slice c0 a0 b0,.int .i64 d0])] σ R:=
 Ad Bf My Tryz.func123 rfl (by kernel_rfl) (by kernel_rfl) (by kernel_rfl) h
theorem JT:Ao Tryz.prog 123=true:=by kernel_rfl
abbrev O4:FuncId:=124
def Ft (σ:Hp) (g_At z0 j0:Int) (h0:Option Addr) (e0 i0:Nat) (f0:Int) (cap0:Option Addr) (R:Value->Hp->Prop):Prop:=
 cl Tryz.prog (.func (.func 126) #[] #[]) #[.int .i64 g_At,.int .i64 0,.int .i64 2000] σ (fun v1 σ2=>
  ∃ t3:Bool,(v1=(.bool t3)/\bc (!t3) (rt σ2 R (.bool true)) (cl Tryz.prog (.func (.func 126) #[] #[]) #[.int .i64 z0,.int .i64 1,.int .i64 40] σ2 (fun v4 σ5=>
  ∃ t6:Bool,(v4=(.bool t6)/\bc (!t6) (rt σ5 R (.bool true)) (cl Tryz.prog (.func (.func 126) #[] #[]) #[.int .i64 j0,.int .i64 0,.int .i64 10000] σ5 (fun v7 σ8=>
  ∃ t9:Bool,(v7=(.bool t9)/\bc (!t9) (rt σ8 R (.bool true)) (cl Tryz.prog (.func (.func 126) #[] #[]) #[.int .i64 f0,.int .i64 0,.int .i64 2000] σ8 (fun v10 σ11=>
  ∃ t12:Bool,(v10=(.bool t12)/\bc (!t12) (rt σ11 R (.bool true)) (bc (decide ((10:Int)<((e0:Nat):Int))) (rt σ11 R (.bool true)) (cl Tryz.prog (.func (.func 33) #[] #[]) #[.slice h0 e0 i0,(.func (.func 125) #[] #[.pointer cap0])] σ11 (fun v13 σ14=>
  ∃ t15:Bool,(v13=(.bool t15)/\rt σ14 R (.bool t15))))))))))))))))
def Ax:OA:=⟨[],false,[]⟩
def LX:MAn:=(.seq (.txt []) (.seq (.txt []) (.seq (.txt [Ax,Ax,Ax,Ax,⟨[],true,[]⟩,Ax,Ax,Ax,Ax,Ax,⟨[],true,[]⟩,Ax,Ax,Ax,Ax,Ax,⟨[],true,[]⟩,Ax,Ax,Ax,Ax,Ax,⟨[],true,[]⟩,Ax,Ax,Ax,Ax,Ax,⟨[],true,[]⟩]) .leaf)))
theorem LY (σ:Hp) (g_At z0 j0:Int) (h0:Option Addr) (e0 i0:Nat) (f0:Int) (cap0:Option Addr) (R:Value->Hp->Prop) (h:Ft σ g_At z0 j0 h0 e0 i0 f0 cap0 R):Ae Tryz.prog 124 #[(.agg #[.int .i64 g_At,.int .i64 z0,.int .i64 j0,.slice h0 e0 i0,.int .i64 f0]),.pointer cap0] σ R:=
 Ad Bf LX Tryz.func124 rfl (by kernel_rfl) (by kernel_rfl) (by kernel_rfl) h
theorem Kd:Ao Tryz.prog 124=true:=by kernel_rfl
def Ed (σ:Hp) (n:Int) (cap0:Option Addr) (R:Value->Hp->Prop):Prop:=
 dr cap0 (fun b1 o2=>ldS σ b1 o2 (fun _ l3 _=>wk .i64 (((l3:Nat):Int)-1) (fun n4=>cl Tryz.prog (.func (.func 126) #[] #[]) #[.int .i64 n,.int .i64 0,.int .i64 n4] σ (fun v5 σ6=>
  ∃ t7:Bool,(v5=(.bool t7)/\rt σ6 R (.bool (!t7)))))))
def KW:MAn:=(.seq (.txt []) (.seq (.txt []) .leaf))
theorem KT (σ:Hp) (n:Int) (cap0:Option Addr) (R:Value->Hp->Prop) (h:Ed σ n cap0 R):Ae Tryz.prog 125 #[.int .i64 n,.pointer cap0] σ R:=
 Ad Bf KW Tryz.func125 rfl (by kernel_rfl) (by kernel_rfl) (by kernel_rfl) h
theorem H9:Ao Tryz.prog 125=true:=by kernel_rfl
abbrev Ky:FuncId:=126
def Gl (σ:Hp) (n low high:Int) (R:Value->Hp->Prop):Prop:=
 bc (decide (low<=n)) (rt σ R (.bool (decide (n<=high)))) (rt σ R (.bool false))
def Nd:MAn:=(.seq (.txt []) (.seq (.txt [⟨[],false,[]⟩,⟨[],false,[]⟩,⟨[],false,[]⟩,⟨[],true,[]⟩]) .leaf))
theorem M4 (σ:Hp) (n low high:Int) (R:Value->Hp->Prop) (h:Gl σ n low high R):Ae Tryz.prog 126 #[.int .i64 n,.int .i64 low,.int .i64 high] σ R:=
 Ad Bf Nd Tryz.func126 rfl (by kernel_rfl) (by kernel_rfl) (by kernel_rfl) h
theorem KR:Ao Tryz.prog 126=true:=by kernel_rfl
abbrev C7:FuncId:=33
def Bv (σ:Hp) (s_A:Option Addr) (s_n s_c:Nat) (f:Value) (R:Value->Hp->Prop):Prop:=
 cl Tryz.prog (.func (.func 73) #[] #[]) #[.slice s_A s_n s_c,f] σ (fun v1 σ2=>∃ n3:Int,(v1=(.int .i64 n3) /\
  rt σ2 R (.bool (decide ((0:Int)<=n3)))))
def Fz:MAn:=(.seq (.txt []) (.seq (.txt []) .leaf))
theorem Ck (σ:Hp) (s_A:Option Addr) (s_n s_c:Nat) (f:Value) (R:Value->Hp->Prop) (h:Bv σ s_A s_n s_c f R):Ae Tryz.prog 33 #[.slice s_A s_n s_c,f] σ R:=
 Ad Bf Fz Tryz.func33 rfl (by kernel_rfl) (by kernel_rfl) (by kernel_rfl) h
theorem AQ:Ao Tryz.prog 33=true:=by kernel_rfl
abbrev EE:FuncId:=127
def Bq (σ:Hp) (s_A:Option Addr) (s_n s_c:Nat) (f:Value) (R:Value->Hp->Prop):Prop:=
 cl Tryz.prog (.func (.func 182) #[] #[]) #[.slice s_A s_n s_c,f] σ (fun v1 σ2=>∃ n3:Int,(v1=(.int .i64 n3) /\
  rt σ2 R (.bool (decide ((0:Int)<=n3)))))
def DM:MAn:=(.seq (.txt []) (.seq (.txt []) .leaf))
theorem DT (σ:Hp) (s_A:Option Addr) (s_n s_c:Nat) (f:Value) (R:Value->Hp->Prop) (h:Bq σ s_A s_n s_c f R):Ae Tryz.prog 127 #[.slice s_A s_n s_c,f] σ R:=
 Ad Bf DM Tryz.func127 rfl (by kernel_rfl) (by kernel_rfl) (by kernel_rfl) h
theorem C5:Ao Tryz.prog 127=true:=by kernel_rfl
abbrev Im:FuncId:=93
def B8 (σ:Hp) (c0:Option Addr) (a0 b0:Nat) (d0:Int) (l_A:Option Addr) (l_n l_c:Nat) (elements number:Value) (R:Value->Hp->Prop):Prop:=
 cl Tryz.prog (.func (.func 68) #[] #[]) #[(.agg #[.slice c0 a0 b0,.int .i64 d0]),.slice l_A l_n l_c] σ (fun v1 σ2=>
  ∃ n3:Int,(v1=(.int .i64 n3)/\bc (!decide (n3=0)) (rt σ2 R (.tuple #[.slice none 0 0,.int .i64 n3])) (cut (α:=List Int->Hp->Prop) (fun xs7 σ5=>
  ∀ _:Nat->Value,exl 3 [.int .i64] xs7 σ5 (fun A8 l8 c8 σ9=>rt σ9 R (.tuple #[.slice A8 l8 c8,.int .i64 0]))) (fun J6=>
  cl Tryz.prog (.func (.func 105) #[] #[]) #[(.agg #[.slice c0 a0 b0,.int .i64 d0]),.slice l_A l_n l_c] σ2 (fun v10 σ11=>
  ∃ p12:Option Addr,(v10=(.pointer p12)/\cl Tryz.prog elements #[.pointer p12] σ11 (fun v13 σ14=>
  ∃ A15:Option Addr,∃ l15 c15:Nat,(v13=(.slice A15 l15 c15)/\∃ I18:Nat->List Int->Int->Hp->Prop,(∃ n190,adp 3 [.int .i64] none 0 0 σ14 (fun (xs20:List Int) σ21=>
  I18 n190 xs20 0 σ21))/\∀ n19:Nat,∀ xs22:List Int,∀ n23:Int,∀ σ17:Hp,I18 n19 xs22 n23 σ17->∀ _:Nat->Value,bc (decide (n23<((l15:Nat):Int))) (ix A15 l15 n23 1 (fun b24 a25=>
  ldP σ17 b24 a25 (fun p26=>cl Tryz.prog number #[.pointer p26] σ17 (fun v27 σ28=>∃ n29:Int,(v27=(.int .i64 n29) /\
  B0 (List.length xs22+List.length ([n29]:List Int)) (wk .i64 (n23+1) (fun n30=>bk σ28 n19 (fun m31 σ32=>
  I18 m31 (xs22++([n29]:List Int)) n30 σ32)))))))) (J6 xs22 σ17)))))))))
def Gp:MAn:=(.seq (.txt []) (.seq (.seq (.txt []) (.seq (.txt []) (.cond (.seq (.txt []) .leaf) .leaf))) (.cut ⟨[true],2,[.slot 8 (.lst 1 3 [.int .i64])],[]⟩ (.seq (.txt []) (.block (.loop ⟨[true],2,[.slot 8 (.lst 1 3 [.int .i64]),.slot 25 (.sc (.int .i64))],[(3,false),(23,true),(24,true)]⟩ (.seq (.txt []) (.seq (.cond .leaf .leaf) (.seq (.block (.seq (.txt []) (.txt []))) (.txt []))))))) (.seq (.txt []) .leaf))))
theorem GD (σ:Hp) (c0:Option Addr) (a0 b0:Nat) (d0:Int) (l_A:Option Addr) (l_n l_c:Nat) (elements number:Value) (R:Value->Hp->Prop) (h:B8 σ c0 a0 b0 d0 l_A l_n l_c elements number R):Ae Tryz.prog 93 #[(.agg #[.slice c0 a0 b0,.int .i64 d0]),.slice l_A l_n l_c,elements,number] σ R:=
 Ad Bf Gp Tryz.func93 rfl (by kernel_rfl) (by kernel_rfl) (by kernel_rfl) h
theorem E9:Ao Tryz.prog 93=true:=by kernel_rfl
abbrev Pg:FuncId:=94
def Fk (σ:Hp) (n:Option Addr) (R:Value->Hp->Prop):Prop:=
 dr n (fun b1 o2=>ldS σ b1 (o2+2) (fun A3 l3 c3=>rt σ R (.slice A3 l3 c3)))
def LU:MAn:=(.seq (.txt []) (.seq (.txt []) .leaf))
theorem Mh (σ:Hp) (n:Option Addr) (R:Value->Hp->Prop) (h:Fk σ n R):Ae Tryz.prog 94 #[.pointer n] σ R:=
 Ad Bf LU Tryz.func94 rfl (by kernel_rfl) (by kernel_rfl) (by kernel_rfl) h
theorem JD:Ao Tryz.prog 94=true:=by kernel_rfl
abbrev PM:FuncId:=95
def Gm (σ:Hp) (p:Option Addr) (R:Value->Hp->Prop):Prop:=
 dr p (fun b1 o2=>ldI σ .i64 b1 (o2+8) (fun n3=>rt σ R (.int .i64 n3)))
def Nc:MAn:=(.seq (.txt []) (.seq (.txt []) .leaf))
theorem NE (σ:Hp) (p:Option Addr) (R:Value->Hp->Prop) (h:Gm σ p R):Ae Tryz.prog 95 #[.pointer p] σ R:=
 Ad Bf Nc Tryz.func95 rfl (by kernel_rfl) (by kernel_rfl) (by kernel_rfl) h
theorem KB:Ao Tryz.prog 95=true:=by kernel_rfl
abbrev MP:FuncId:=180
def Ek (σ:Hp) (m0 q0 n0 l0:Int) (_:Bool) (R:Value->Hp->Prop):Prop:=
 cl Tryz.prog (.func (.func 126) #[] #[]) #[.int .i64 m0,.int .i64 1,.int .i64 40] σ (fun v1 σ2=>
  ∃ t3:Bool,(v1=(.bool t3)/\bc (!t3) (rt σ2 R (.bool true)) (cl Tryz.prog (.func (.func 126) #[] #[]) #[.int .i64 q0,.int .i64 0,.int .i64 100] σ2 (fun v4 σ5=>
  ∃ t6:Bool,(v4=(.bool t6)/\bc (!t6) (rt σ5 R (.bool true)) (cl Tryz.prog (.func (.func 126) #[] #[]) #[.int .i64 n0,.int .i64 1,.int .i64 100] σ5 (fun v7 σ8=>
  ∃ t9:Bool,(v7=(.bool t9)/\bc (!t9) (rt σ8 R (.bool true)) (cl Tryz.prog (.func (.func 126) #[] #[]) #[.int .i64 l0,.int .i64 0,.int .i64 100] σ8 (fun v10 σ11=>
  ∃ t12:Bool,(v10=(.bool t12)/\rt σ11 R (.bool (!t12)))))))))))))
def AG:OA:=⟨[],false,[]⟩
def KZ:MAn:=(.seq (.txt []) (.seq (.txt [AG,AG,AG,AG,⟨[],true,[]⟩,AG,AG,AG,AG,AG,⟨[],true,[]⟩,AG,AG,AG,AG,AG,⟨[],true,[]⟩]) .leaf))
theorem KL (σ:Hp) (m0 q0 n0 l0:Int) (d1:Bool) (R:Value->Hp->Prop) (h:Ek σ m0 q0 n0 l0 d1 R):Ae Tryz.prog 180 #[(.agg #[.int .i64 m0,.int .i64 q0,.int .i64 n0,.int .i64 l0,.bool d1])] σ R:=
 Ad Bf KZ Tryz.func180 rfl (by kernel_rfl) (by kernel_rfl) (by kernel_rfl) h
theorem Iy:Ao Tryz.prog 180=true:=by kernel_rfl
abbrev ED:FuncId:=181
def Bs (σ:Hp) (s_A:Option Addr) (s_n s_c:Nat) (f:Value) (R:Value->Hp->Prop):Prop:=
 cl Tryz.prog (.func (.func 237) #[] #[]) #[.slice s_A s_n s_c,f] σ (fun v1 σ2=>∃ n3:Int,(v1=(.int .i64 n3) /\
  rt σ2 R (.bool (decide ((0:Int)<=n3)))))
def DK:MAn:=(.seq (.txt []) (.seq (.txt []) .leaf))
theorem DR (σ:Hp) (s_A:Option Addr) (s_n s_c:Nat) (f:Value) (R:Value->Hp->Prop) (h:Bs σ s_A s_n s_c f R):Ae Tryz.prog 181 #[.slice s_A s_n s_c,f] σ R:=
 Ad Bf DK Tryz.func181 rfl (by kernel_rfl) (by kernel_rfl) (by kernel_rfl) h
theorem C2:Ao Tryz.prog 181=true:=by kernel_rfl
abbrev Cf:FuncId:=73
def Bn (σ:Hp) (s_A:Option Addr) (s_n _:Nat) (f:Value) (R:Value->Hp->Prop):Prop:=
 cut (α:=Hp->Prop) (fun  σ2=>∀ _:Nat->Value,rt σ2 R (.int .i64 (-1))) (fun J3=>∃ I6:Nat->Int->Hp->Prop,(∃ n70,I6 n70 0 σ) /\
  ∀ n7:Nat,∀ n8:Int,∀ σ5:Hp,I6 n7 n8 σ5->∀ _:Nat->Value,bc (decide (n8<((s_n:Nat):Int))) (ix s_A s_n n8 1 (fun b9 a10=>
  ldI σ5 .i64 b9 a10 (fun n11=>cl Tryz.prog f #[.int .i64 n11] σ5 (fun v12 σ13=>∃ t14:Bool,(v12=(.bool t14) /\
  bc t14 (rt σ13 R (.int .i64 n8)) (wk .i64 (n8+1) (fun n15=>bk σ13 n7 (fun m16 σ17=>I6 m16 n15 σ17)))))))) (J3 σ5))
def GN:MAn:=(.seq (.txt []) (.cut ⟨[],0,[],[]⟩ (.seq (.txt []) (.block (.loop ⟨[],0,[.slot 8 (.sc (.int .i64))],[(0,true),(1,false),(7,true)]⟩ (.seq (.txt []) (.seq (.cond .leaf .leaf) (.seq (.block (.seq (.txt []) (.seq (.txt []) (.cond (.seq (.txt []) .leaf) .leaf)))) (.txt []))))))) (.seq (.txt []) .leaf)))
theorem BX (σ:Hp) (s_A:Option Addr) (s_n s_c:Nat) (f:Value) (R:Value->Hp->Prop) (h:Bn σ s_A s_n s_c f R):Ae Tryz.prog 73 #[.slice s_A s_n s_c,f] σ R:=
 Ad Bf GN Tryz.func73 rfl (by kernel_rfl) (by kernel_rfl) (by kernel_rfl) h
theorem BK:Ao Tryz.prog 73=true:=by kernel_rfl
abbrev Fx:FuncId:=182
def BN (σ:Hp) (s_A:Option Addr) (s_n _:Nat) (f:Value) (R:Value->Hp->Prop):Prop:=
 cut (α:=Hp->Prop) (fun  σ2=>∀ _:Nat->Value,rt σ2 R (.int .i64 (-1))) (fun J3=>∃ I6:Nat->Int->Hp->Prop,(∃ n70,I6 n70 0 σ) /\
  ∀ n7:Nat,∀ n8:Int,∀ σ5:Hp,I6 n7 n8 σ5->∀ _:Nat->Value,bc (decide (n8<((s_n:Nat):Int))) (ix s_A s_n n8 5 (fun b9 a10=>
  ldI σ5 .i64 b9 a10 (fun n11=>ldI σ5 .i64 b9 (a10+1) (fun n12=>ldI σ5 .i64 b9 (a10+2) (fun n13=>
  ldS σ5 b9 (a10+3) (fun A14 l14 c14=>ldI σ5 .i64 b9 (a10+4) (fun n15=>cl Tryz.prog f #[(.agg #[.int .i64 n11,.int .i64 n12,.int .i64 n13,.slice A14 l14 c14,.int .i64 n15])] σ5 (fun v16 σ17=>
  ∃ t18:Bool,(v16=(.bool t18)/\bc t18 (rt σ17 R (.int .i64 n8)) (wk .i64 (n8+1) (fun n19=>bk σ17 n7 (fun m20 σ21=>
  I6 m20 n19 σ21)))))))))))) (J3 σ5))
def EF:MAn:=(.seq (.txt []) (.cut ⟨[],0,[],[]⟩ (.seq (.txt []) (.block (.loop ⟨[],0,[.slot 8 (.sc (.int .i64))],[(0,true),(1,false),(7,true)]⟩ (.seq (.txt []) (.seq (.cond .leaf .leaf) (.seq (.block (.seq (.txt []) (.seq (.txt []) (.cond (.seq (.txt []) .leaf) .leaf)))) (.txt []))))))) (.seq (.txt []) .leaf)))
theorem EG (σ:Hp) (s_A:Option Addr) (s_n s_c:Nat) (f:Value) (R:Value->Hp->Prop) (h:BN σ s_A s_n s_c f R):Ae Tryz.prog 182 #[.slice s_A s_n s_c,f] σ R:=
 Ad Bf EF Tryz.func182 rfl (by kernel_rfl) (by kernel_rfl) (by kernel_rfl) h
theorem DP:Ao Tryz.prog 182=true:=by kernel_rfl
abbrev Ry:FuncId:=172
def Jo (σ:Hp) (v0:Option Addr) (s0 _:Nat) (R:Value->Hp->Prop):Prop:=
 cut (α:=Hp->Prop) (fun  σ2=>∀ _:Nat->Value,rt σ2 R (.int .i64 0)) (fun J3=>∃ I6:Nat->Int->Hp->Prop,(∃ n70,I6 n70 0 σ) /\
  ∀ n7:Nat,∀ n8:Int,∀ σ5:Hp,I6 n7 n8 σ5->∀ _:Nat->Value,bc (decide (n8<((s0:Nat):Int))) (ix v0 s0 n8 1 (fun b9 a10=>
  ldI σ5 .i64 b9 a10 (fun n11=>bc (!decide (n11=0)) (rt σ5 R (.int .i64 n11)) (wk .i64 (n8+1) (fun n12=>
  bk σ5 n7 (fun m13 σ14=>I6 m13 n12 σ14)))))) (J3 σ5))
def O8:MAn:=(.seq (.txt []) (.seq (.txt []) (.cut ⟨[],0,[],[(3,true)]⟩ (.seq (.txt []) (.block (.loop ⟨[],0,[.slot 8 (.sc (.int .i64))],[(3,true),(6,true),(7,true)]⟩ (.seq (.txt []) (.seq (.cond .leaf .leaf) (.seq (.block (.seq (.txt []) (.seq (.txt []) (.cond (.seq (.txt []) .leaf) .leaf)))) (.txt []))))))) (.seq (.txt []) .leaf))))
theorem Pk (σ:Hp) (v0:Option Addr) (s0 j1:Nat) (R:Value->Hp->Prop) (h:Jo σ v0 s0 j1 R):Ae Tryz.prog 172 #[.slice v0 s0 j1] σ R:=
 Ad Bf O8 Tryz.func172 rfl (by kernel_rfl) (by kernel_rfl) (by kernel_rfl) h
theorem Mn:Ao Tryz.prog 172=true:=by kernel_rfl
abbrev Fy:FuncId:=237
def BL (σ:Hp) (s_A:Option Addr) (s_n _:Nat) (f:Value) (R:Value->Hp->Prop):Prop:=
 cut (α:=Hp->Prop) (fun  σ2=>∀ _:Nat->Value,rt σ2 R (.int .i64 (-1))) (fun J3=>∃ I6:Nat->Int->Hp->Prop,(∃ n70,I6 n70 0 σ) /\
  ∀ n7:Nat,∀ n8:Int,∀ σ5:Hp,I6 n7 n8 σ5->∀ _:Nat->Value,bc (decide (n8<((s_n:Nat):Int))) (ix s_A s_n n8 5 (fun b9 a10=>
  ldI σ5 .i64 b9 a10 (fun n11=>ldI σ5 .i64 b9 (a10+1) (fun n12=>ldI σ5 .i64 b9 (a10+2) (fun n13=>
  ldI σ5 .i64 b9 (a10+3) (fun n14=>ldB σ5 b9 (a10+4) (fun t15=>cl Tryz.prog f #[(.agg #[.int .i64 n11,.int .i64 n12,.int .i64 n13,.int .i64 n14,.bool t15])] σ5 (fun v16 σ17=>
  ∃ t18:Bool,(v16=(.bool t18)/\bc t18 (rt σ17 R (.int .i64 n8)) (wk .i64 (n8+1) (fun n19=>bk σ17 n7 (fun m20 σ21=>
  I6 m20 n19 σ21)))))))))))) (J3 σ5))
def EC:MAn:=(.seq (.txt []) (.cut ⟨[],0,[],[]⟩ (.seq (.txt []) (.block (.loop ⟨[],0,[.slot 8 (.sc (.int .i64))],[(0,true),(1,false),(7,true)]⟩ (.seq (.txt []) (.seq (.cond .leaf .leaf) (.seq (.block (.seq (.txt []) (.seq (.txt []) (.cond (.seq (.txt []) .leaf) .leaf)))) (.txt []))))))) (.seq (.txt []) .leaf)))
theorem EI (σ:Hp) (s_A:Option Addr) (s_n s_c:Nat) (f:Value) (R:Value->Hp->Prop) (h:BL σ s_A s_n s_c f R):Ae Tryz.prog 237 #[.slice s_A s_n s_c,f] σ R:=
 Ad Bf EC Tryz.func237 rfl (by kernel_rfl) (by kernel_rfl) (by kernel_rfl) h
theorem DB:Ao Tryz.prog 237=true:=by kernel_rfl
abbrev En:FuncId:=171
def Gv (σ:Hp) (r0 w0 _:Int) (_:Bool) (_ x0 p0 u0 _:Int) (_:Bool) (_ y0:Int) (R:Value->Hp->Prop):Prop:=
 wk .i64 (x0-y0) (fun n1=>wk .i64 (r0-p0) (fun n2=>wk .i64 (w0-u0) (fun n3=>
  exl 3 [.int .i64] ([n1,n2,n3]:List Int) σ (fun A4 l4 c4 σ5=>cl Tryz.prog (.func (.func 172) #[] #[]) #[.slice A4 l4 c4] σ5 (fun v6 σ7=>
  ∃ n8:Int,(v6=(.int .i64 n8)/\rt σ7 R (.int .i64 n8)))))))
def MJ:MAn:=(.seq (.txt []) (.seq (.txt []) .leaf))
theorem Nv (σ:Hp) (r0 w0 f1:Int) (a_On:Bool) (h1 x0 p0 u0 g1:Int) (b_On:Bool) (a1 y0:Int) (R:Value->Hp->Prop) (h:Gv σ r0 w0 f1 a_On h1 x0 p0 u0 g1 b_On a1 y0 R):Ae Tryz.prog 171 #[(.agg #[.int .i64 r0,.int .i64 w0,.int .i64 f1,.bool a_On,.int .i64 h1,.int .i64 x0]),(.agg #[.int .i64 p0,.int .i64 u0,.int .i64 g1,.bool b_On,.int .i64 a1,.int .i64 y0])] σ R:=
 Ad Bf MJ Tryz.func171 rfl (by kernel_rfl) (by kernel_rfl) (by kernel_rfl) h
abbrev JL:FuncId:=225
def CB (σ:Hp) (g0 k0:Int) (cap0 cap1:Option Addr) (R:Value->Hp->Prop):Prop:=
 dr cap0 (fun b1 o2=>ldP σ b1 o2 (fun p3=>dr p3 (fun b4 o5=>ldI σ .i64 b4 (o5+3) (fun n6=>wk .i64 (n6-k0) (fun n7=>
  dr cap0 (fun b8 o9=>ldP σ b8 o9 (fun p10=>dr p10 (fun b11 o12=>ldS σ b11 (o12+2) (fun A13 l13 _=>
  ix A13 l13 g0 1 (fun b14 a15=>ldP σ b14 a15 (fun p16=>dr p16 (fun b17 o18=>ldI σ .i64 b17 (o18+4) (fun n19=>
  cut (α:=Hp->Prop) (fun  σ21=>∀ _:Nat->Value,rt σ21 R (.bool (decide (n19<n7)))) (fun J22=>
  bc (decide (n19<n7)) (dr cap1 (fun b23 o24=>ldS σ b23 o24 (fun A25 l25 c25=>adp 240 [.int .i64,.int .i64] A25 l25 c25 σ (fun (xs26:List (Int×Int)) σ27=>
  B0 (List.length xs26+List.length ([(g0,k0)]:List (Int×Int))) (exl 240 [.int .i64,.int .i64] (xs26++([(g0,k0)]:List (Int×Int))) σ27 (fun A28 l28 c28 σ29=>
  dr cap1 (fun b30 o31=>st σ29 b30 o31 (.slice A28 l28 c28) (fun σ32=>J22 σ32)))))))) (J22 σ)))))))))))))))
def Ar:OA:=⟨[],false,[]⟩
def HU:MAn:=(.seq (.txt []) (.seq (.plan [] (tkVQ1 21 0 Ar .done)) (.cut ⟨[true],1,[],[(5,true)]⟩ (.seq (.txt []) (.cond (.txt []) .leaf)) (.seq (.txt []) .leaf))))
theorem HH (σ:Hp) (g0 k0:Int) (cap0 cap1:Option Addr) (R:Value->Hp->Prop) (h:CB σ g0 k0 cap0 cap1 R):Ae Tryz.prog 225 #[(.agg #[.int .i64 g0,.int .i64 k0]),.pointer cap0,.pointer cap1] σ R:=
 Ad Bf HU Tryz.func225 rfl (by kernel_rfl) (by kernel_rfl) (by kernel_rfl) h
theorem FT:Ao Tryz.prog 225=true:=by kernel_rfl
abbrev CA:FuncId:=227
def Cr (σ:Hp) (o0 _ t0 _:Int) (R:Value->Hp->Prop):Prop:=
 wk .i64 (o0-t0) (fun n1=>rt σ R (.int .i64 n1))
def HF:MAn:=(.seq (.txt []) (.seq (.txt []) .leaf))
theorem Hg (σ:Hp) (o0 i1 t0 e1:Int) (R:Value->Hp->Prop) (h:Cr σ o0 i1 t0 e1 R):Ae Tryz.prog 227 #[(.agg #[.int .i64 o0,.int .i64 i1]),(.agg #[.int .i64 t0,.int .i64 e1])] σ R:=
 Ad Bf HF Tryz.func227 rfl (by kernel_rfl) (by kernel_rfl) (by kernel_rfl) h
end Go.Proofs.YtoelhdjloaknbaaGreat
