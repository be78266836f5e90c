/- Trimmed by wip/trim.py to what this claim rests on. -/
import Derived.Test.YtoelhdjloaknbaaGreatPB11
namespace Go.Proofs.YtoelhdjloaknbaaGreat
set_option maxRecDepth 100000
open Go.RowKit
def tkPQ1:Nat->Nat->OA->MPlan->MPlan
 |0,_,_,x=>x
 |n+1,i,a,x=>.take i a (tkPQ1 n (i+1) a x)
theorem Bj:Tryz.prog.follows .mixedOrders=true:=by kernel_rfl
abbrev L5:FuncId:=68
def Hu (σ:Hp) (c0:Option Addr) (a0 b0:Nat) (d0:Int) (l_A:Option Addr) (l_n l_c:Nat) (R:Value->Hp->Prop):Prop:=
 cl Tryz.prog (.func (.func 123) #[] #[]) #[(.agg #[.slice c0 a0 b0,.int .i64 d0])] σ (fun v1 σ2=>
  ∃ n3:Int,(v1=(.int .i64 n3)/\bc (!decide (n3=0)) (rt σ2 R (.int .i64 n3)) (bx σ2 (.cells #[.slice c0 a0 b0,.int .i64 d0] 24) (fun b4 σ5=>
  cut (α:=Hp->Prop) (fun  σ7=>∀ _:Nat->Value,rt σ7 R (.int .i64 0)) (fun J8=>cut (α:=Bool->Hp->Prop) (fun t12 σ10=>
  ∀ _:Nat->Value,bc t12 (rt σ10 R (.int .i64 71)) (J8 σ10)) (fun J11=>bc (decide ((60:Int)<((l_n:Nat):Int))) (J11 true σ5) (cl Tryz.prog (.func (.func 127) #[] #[]) #[.slice l_A l_n l_c,(.func (.func 124) #[] #[(.pointer (some ⟨b4,0,none⟩))])] σ5 (fun v13 σ14=>
  ∃ t15:Bool,(v13=(.bool t15)/\J11 t15 σ14)))))))))
def Ov:MAn:=(.seq (.txt []) (.seq (.seq (.txt []) (.seq (.txt []) (.cond (.seq (.txt []) .leaf) .leaf))) (.seq (.txt []) (.cut ⟨[false],1,[],[]⟩ (.cut ⟨[false],1,[.slot 20 (.sc (.bool))],[]⟩ (.txt [⟨[],false,[]⟩,⟨[],false,[]⟩,⟨[],false,[]⟩,⟨[],true,[]⟩]) (.cond (.seq (.txt []) .leaf) .leaf)) (.seq (.txt []) .leaf)))))
theorem N4 (σ:Hp) (c0:Option Addr) (a0 b0:Nat) (d0:Int) (l_A:Option Addr) (l_n l_c:Nat) (R:Value->Hp->Prop) (h:Hu σ c0 a0 b0 d0 l_A l_n l_c R):Ad Tryz.prog 68 #[(.agg #[.slice c0 a0 b0,.int .i64 d0]),.slice l_A l_n l_c] σ R:=
 Ac Bj Ov Tryz.func68 rfl (by kernel_rfl) (by kernel_rfl) (by kernel_rfl) h
theorem Dj:Ao Tryz.prog 68=true:=by kernel_rfl
abbrev RZ:FuncId:=50
def IV (σ:Hp) (c0:Option Addr) (a0 b0:Nat) (d0:Int) (l_A:Option Addr) (l_n l_c:Nat) (R:Value->Hp->Prop):Prop:=
 cl Tryz.prog (.func (.func 93) #[] #[]) #[(.agg #[.slice c0 a0 b0,.int .i64 d0]),.slice l_A l_n l_c,(.func (.func 94) #[] #[]),(.func (.func 95) #[] #[])] σ (fun v1 σ2=>
  ∃ A3:Option Addr,∃ l3 c3:Nat,∃ n4:Int,(v1=(.tuple #[.slice A3 l3 c3,.int .i64 n4]) /\
  rt σ2 R (.tuple #[.slice A3 l3 c3,.int .i64 n4])))
def Ph:MAn:=(.seq (.txt []) (.seq (.txt []) .leaf))
theorem Pm (σ:Hp) (c0:Option Addr) (a0 b0:Nat) (d0:Int) (l_A:Option Addr) (l_n l_c:Nat) (R:Value->Hp->Prop) (h:IV σ c0 a0 b0 d0 l_A l_n l_c R):Ad Tryz.prog 50 #[(.agg #[.slice c0 a0 b0,.int .i64 d0]),.slice l_A l_n l_c] σ R:=
 Ac Bj Ph Tryz.func50 rfl (by kernel_rfl) (by kernel_rfl) (by kernel_rfl) h
theorem L9:Ao Tryz.prog 50=true:=by kernel_rfl
abbrev Pz:FuncId:=67
def FC (σ:Hp) (R:Value->Hp->Prop):Prop:=
 exl 77 [.int .i64,.int .i64,.int .i64,.int .i64,.bool] ([(4,2,3,1,false),(2,5,2,0,false)]:List (Int×Int×Int×Int×Bool)) σ (fun A1 l1 c1 σ2=>
  exl 3 [.int .i64] ([0,1]:List Int) σ2 (fun A3 l3 c3 σ4=>exl 3 [.int .i64] ([0,1]:List Int) σ4 (fun A5 l5 c5 σ6=>
  exl 65 [.int .i64,.int .i64,.int .i64,.slc,.int .i64] ([(0,3,20,(A3,l3,c3),100),(0,2,30,(A5,l5,c5),100)]:List (Int×Int×Int×(Option Addr×Nat×Nat)×Int)) σ6 (fun A7 l7 c7 σ8=>
  rt σ8 R (.tuple #[(.agg #[.slice A1 l1 c1,.int .i64 1]),.slice A7 l7 c7])))))
def MN:MAn:=(.seq (.txt []) (.seq (.txt []) (.seq (.txt []) .leaf)))
theorem MH (σ:Hp) (R:Value->Hp->Prop) (h:FC σ  R):Ad Tryz.prog 67 #[] σ R:=
 Ac Bj MN Tryz.func67 rfl (by kernel_rfl) (by kernel_rfl) (by kernel_rfl) h
theorem JM:Ao Tryz.prog 67=true:=by kernel_rfl
abbrev PL:FuncId:=123
def FD (σ:Hp) (c0:Option Addr) (a0 b0:Nat) (d0:Int) (R:Value->Hp->Prop):Prop:=
 cut (α:=Hp->Prop) (fun  σ2=>∀ _:Nat->Value,rt σ2 R (.int .i64 0)) (fun J3=>cut (α:=Bool->Hp->Prop) (fun t7 σ5=>
  ∀ _:Nat->Value,bc t7 (rt σ5 R (.int .i64 70)) (J3 σ5)) (fun J6=>bc (decide ((8:Int)<((a0:Nat):Int))) (J6 true σ) (cl Tryz.prog (.func (.func 126) #[] #[]) #[.int .i64 d0,.int .i64 0,.int .i64 100] σ (fun v8 σ9=>
  ∃ t10:Bool,(v8=(.bool t10)/\bc (!t10) (J6 true σ9) (cl Tryz.prog (.func (.func 181) #[] #[]) #[.slice c0 a0 b0,(.func (.func 180) #[] #[])] σ9 (fun v11 σ12=>
  ∃ t13:Bool,(v11=(.bool t13)/\J6 t13 σ12))))))))
def Bd:OA:=⟨[],false,[]⟩
def ML:MAn:=(.seq (.txt []) (.seq (.txt []) (.cut ⟨[true],1,[],[]⟩ (.cut ⟨[true],1,[.slot 19 (.sc (.bool))],[]⟩ (.txt [Bd,Bd,Bd,Bd,⟨[],true,[]⟩,Bd,Bd,Bd,Bd,Bd,⟨[],true,[]⟩]) (.cond (.seq (.txt []) .leaf) .leaf)) (.seq (.txt []) .leaf))))
theorem Ml (σ:Hp) (c0:Option Addr) (a0 b0:Nat) (d0:Int) (R:Value->Hp->Prop) (h:FD σ c0 a0 b0 d0 R):Ad Tryz.prog 123 #[(.agg #[.slice c0 a0 b0,.int .i64 d0])] σ R:=
 Ac Bj ML Tryz.func123 rfl (by kernel_rfl) (by kernel_rfl) (by kernel_rfl) h
theorem JK:Ao Tryz.prog 123=true:=by kernel_rfl
abbrev PI:FuncId:=124
def Fr (σ:Hp) (g_At u0 j0:Int) (h0:Option Addr) (e0 i0:Nat) (f0:Int) (cap0:Option Addr) (R:Value->Hp->Prop):Prop:=
 cl Tryz.prog (.func (.func 126) #[] #[]) #[.int .i64 g_At,.int .i64 0,.int .i64 2000] σ (fun v1 σ2=>
  ∃ t3:Bool,(v1=(.bool t3)/\bc (!t3) (rt σ2 R (.bool true)) (cl Tryz.prog (.func (.func 126) #[] #[]) #[.int .i64 u0,.int .i64 1,.int .i64 40] σ2 (fun v4 σ5=>
  ∃ t6:Bool,(v4=(.bool t6)/\bc (!t6) (rt σ5 R (.bool true)) (cl Tryz.prog (.func (.func 126) #[] #[]) #[.int .i64 j0,.int .i64 0,.int .i64 10000] σ5 (fun v7 σ8=>
  ∃ t9:Bool,(v7=(.bool t9)/\bc (!t9) (rt σ8 R (.bool true)) (cl Tryz.prog (.func (.func 126) #[] #[]) #[.int .i64 f0,.int .i64 0,.int .i64 2000] σ8 (fun v10 σ11=>
  ∃ t12:Bool,(v10=(.bool t12)/\bc (!t12) (rt σ11 R (.bool true)) (bc (decide ((10:Int)<((e0:Nat):Int))) (rt σ11 R (.bool true)) (cl Tryz.prog (.func (.func 33) #[] #[]) #[.slice h0 e0 i0,(.func (.func 125) #[] #[.pointer cap0])] σ11 (fun v13 σ14=>
  ∃ t15:Bool,(v13=(.bool t15)/\rt σ14 R (.bool t15))))))))))))))))
def Ay:OA:=⟨[],false,[]⟩
def Mr:MAn:=(.seq (.txt []) (.seq (.txt []) (.seq (.txt [Ay,Ay,Ay,Ay,⟨[],true,[]⟩,Ay,Ay,Ay,Ay,Ay,⟨[],true,[]⟩,Ay,Ay,Ay,Ay,Ay,⟨[],true,[]⟩,Ay,Ay,Ay,Ay,Ay,⟨[],true,[]⟩,Ay,Ay,Ay,Ay,Ay,⟨[],true,[]⟩]) .leaf)))
theorem Mn (σ:Hp) (g_At u0 j0:Int) (h0:Option Addr) (e0 i0:Nat) (f0:Int) (cap0:Option Addr) (R:Value->Hp->Prop) (h:Fr σ g_At u0 j0 h0 e0 i0 f0 cap0 R):Ad Tryz.prog 124 #[(.agg #[.int .i64 g_At,.int .i64 u0,.int .i64 j0,.slice h0 e0 i0,.int .i64 f0]),.pointer cap0] σ R:=
 Ac Bj Mr Tryz.func124 rfl (by kernel_rfl) (by kernel_rfl) (by kernel_rfl) h
theorem Kf:Ao Tryz.prog 124=true:=by kernel_rfl
def Ew (σ:Hp) (n:Int) (cap0:Option Addr) (R:Value->Hp->Prop):Prop:=
 dr cap0 (fun b1 o2=>ldS σ b1 o2 (fun _ l3 _=>wk .i64 (((l3:Nat):Int)-1) (fun n4=>cl Tryz.prog (.func (.func 126) #[] #[]) #[.int .i64 n,.int .i64 0,.int .i64 n4] σ (fun v5 σ6=>
  ∃ t7:Bool,(v5=(.bool t7)/\rt σ6 R (.bool (!t7)))))))
def K7:MAn:=(.seq (.txt []) (.seq (.txt []) .leaf))
theorem K8 (σ:Hp) (n:Int) (cap0:Option Addr) (R:Value->Hp->Prop) (h:Ew σ n cap0 R):Ad Tryz.prog 125 #[.int .i64 n,.pointer cap0] σ R:=
 Ac Bj K7 Tryz.func125 rfl (by kernel_rfl) (by kernel_rfl) (by kernel_rfl) h
theorem Iy:Ao Tryz.prog 125=true:=by kernel_rfl
abbrev Kv:FuncId:=126
def GG (σ:Hp) (n low high:Int) (R:Value->Hp->Prop):Prop:=
 bc (decide (low<=n)) (rt σ R (.bool (decide (n<=high)))) (rt σ R (.bool false))
def Nz:MAn:=(.seq (.txt []) (.seq (.txt [⟨[],false,[]⟩,⟨[],false,[]⟩,⟨[],false,[]⟩,⟨[],true,[]⟩]) .leaf))
theorem NQ (σ:Hp) (n low high:Int) (R:Value->Hp->Prop) (h:GG σ n low high R):Ad Tryz.prog 126 #[.int .i64 n,.int .i64 low,.int .i64 high] σ R:=
 Ac Bj Nz Tryz.func126 rfl (by kernel_rfl) (by kernel_rfl) (by kernel_rfl) h
theorem K2:Ao Tryz.prog 126=true:=by kernel_rfl
abbrev Da:FuncId:=33
def BC (σ:Hp) (s_A:Option Addr) (s_n s_c:Nat) (f:Value) (R:Value->Hp->Prop):Prop:=
 cl Tryz.prog (.func (.func 73) #[] #[]) #[.slice s_A s_n s_c,f] σ (fun v1 σ2=>∃ n3:Int,(v1=(.int .i64 n3) /\
  rt σ2 R (.bool (decide ((0:Int)<=n3)))))
def Fq:MAn:=(.seq (.txt []) (.seq (.txt []) .leaf))
theorem Cp (σ:Hp) (s_A:Option Addr) (s_n s_c:Nat) (f:Value) (R:Value->Hp->Prop) (h:BC σ s_A s_n s_c f R):Ad Tryz.prog 33 #[.slice s_A s_n s_c,f] σ R:=
 Ac Bj Fq Tryz.func33 rfl (by kernel_rfl) (by kernel_rfl) (by kernel_rfl) h
theorem AU:Ao Tryz.prog 33=true:=by kernel_rfl
abbrev EJ:FuncId:=127
def Bz (σ:Hp) (s_A:Option Addr) (s_n s_c:Nat) (f:Value) (R:Value->Hp->Prop):Prop:=
 cl Tryz.prog (.func (.func 182) #[] #[]) #[.slice s_A s_n s_c,f] σ (fun v1 σ2=>∃ n3:Int,(v1=(.int .i64 n3) /\
  rt σ2 R (.bool (decide ((0:Int)<=n3)))))
def DX:MAn:=(.seq (.txt []) (.seq (.txt []) .leaf))
theorem DM (σ:Hp) (s_A:Option Addr) (s_n s_c:Nat) (f:Value) (R:Value->Hp->Prop) (h:Bz σ s_A s_n s_c f R):Ad Tryz.prog 127 #[.slice s_A s_n s_c,f] σ R:=
 Ac Bj DX Tryz.func127 rfl (by kernel_rfl) (by kernel_rfl) (by kernel_rfl) h
theorem C7:Ao Tryz.prog 127=true:=by kernel_rfl
abbrev Ik:FuncId:=93
def Ca (σ:Hp) (c0:Option Addr) (a0 b0:Nat) (d0:Int) (l_A:Option Addr) (l_n l_c:Nat) (elements number:Value) (R:Value->Hp->Prop):Prop:=
 cl Tryz.prog (.func (.func 68) #[] #[]) #[(.agg #[.slice c0 a0 b0,.int .i64 d0]),.slice l_A l_n l_c] σ (fun v1 σ2=>
  ∃ n3:Int,(v1=(.int .i64 n3)/\bc (!decide (n3=0)) (rt σ2 R (.tuple #[.slice none 0 0,.int .i64 n3])) (cut (α:=List Int->Hp->Prop) (fun xs7 σ5=>
  ∀ _:Nat->Value,exl 3 [.int .i64] xs7 σ5 (fun A8 l8 c8 σ9=>rt σ9 R (.tuple #[.slice A8 l8 c8,.int .i64 0]))) (fun J6=>
  cl Tryz.prog (.func (.func 105) #[] #[]) #[(.agg #[.slice c0 a0 b0,.int .i64 d0]),.slice l_A l_n l_c] σ2 (fun v10 σ11=>
  ∃ p12:Option Addr,(v10=(.pointer p12)/\cl Tryz.prog elements #[.pointer p12] σ11 (fun v13 σ14=>
  ∃ A15:Option Addr,∃ l15 c15:Nat,(v13=(.slice A15 l15 c15)/\∃ I18:Nat->List Int->Int->Hp->Prop,(∃ n190,adp 3 [.int .i64] none 0 0 σ14 (fun (xs20:List Int) σ21=>
  I18 n190 xs20 0 σ21))/\∀ n19:Nat,∀ xs22:List Int,∀ n23:Int,∀ σ17:Hp,I18 n19 xs22 n23 σ17->∀ _:Nat->Value,bc (decide (n23<((l15:Nat):Int))) (ix A15 l15 n23 1 (fun b24 a25=>
  ldP σ17 b24 a25 (fun p26=>cl Tryz.prog number #[.pointer p26] σ17 (fun v27 σ28=>∃ n29:Int,(v27=(.int .i64 n29) /\
  B2 (List.length xs22+List.length ([n29]:List Int)) (wk .i64 (n23+1) (fun n30=>bk σ28 n19 (fun m31 σ32=>
  I18 m31 (xs22++([n29]:List Int)) n30 σ32)))))))) (J6 xs22 σ17)))))))))
def Gr:MAn:=(.seq (.txt []) (.seq (.seq (.txt []) (.seq (.txt []) (.cond (.seq (.txt []) .leaf) .leaf))) (.cut ⟨[true],2,[.slot 8 (.lst 1 3 [.int .i64])],[]⟩ (.seq (.txt []) (.block (.loop ⟨[true],2,[.slot 8 (.lst 1 3 [.int .i64]),.slot 25 (.sc (.int .i64))],[(3,false),(23,true),(24,true)]⟩ (.seq (.txt []) (.seq (.cond .leaf .leaf) (.seq (.block (.seq (.txt []) (.txt []))) (.txt []))))))) (.seq (.txt []) .leaf))))
theorem Gw (σ:Hp) (c0:Option Addr) (a0 b0:Nat) (d0:Int) (l_A:Option Addr) (l_n l_c:Nat) (elements number:Value) (R:Value->Hp->Prop) (h:Ca σ c0 a0 b0 d0 l_A l_n l_c elements number R):Ad Tryz.prog 93 #[(.agg #[.slice c0 a0 b0,.int .i64 d0]),.slice l_A l_n l_c,elements,number] σ R:=
 Ac Bj Gr Tryz.func93 rfl (by kernel_rfl) (by kernel_rfl) (by kernel_rfl) h
theorem Ff:Ao Tryz.prog 93=true:=by kernel_rfl
abbrev Pw:FuncId:=94
def FA (σ:Hp) (n:Option Addr) (R:Value->Hp->Prop):Prop:=
 dr n (fun b1 o2=>ldS σ b1 (o2+2) (fun A3 l3 c3=>rt σ R (.slice A3 l3 c3)))
def MX:MAn:=(.seq (.txt []) (.seq (.txt []) .leaf))
theorem Mb (σ:Hp) (n:Option Addr) (R:Value->Hp->Prop) (h:FA σ n R):Ad Tryz.prog 94 #[.pointer n] σ R:=
 Ac Bj MX Tryz.func94 rfl (by kernel_rfl) (by kernel_rfl) (by kernel_rfl) h
theorem Kn:Ao Tryz.prog 94=true:=by kernel_rfl
abbrev QD:FuncId:=95
def GE (σ:Hp) (p:Option Addr) (R:Value->Hp->Prop):Prop:=
 dr p (fun b1 o2=>ldI σ .i64 b1 (o2+8) (fun n3=>rt σ R (.int .i64 n3)))
def Nh:MAn:=(.seq (.txt []) (.seq (.txt []) .leaf))
theorem Ns (σ:Hp) (p:Option Addr) (R:Value->Hp->Prop) (h:GE σ p R):Ad Tryz.prog 95 #[.pointer p] σ R:=
 Ac Bj Nh Tryz.func95 rfl (by kernel_rfl) (by kernel_rfl) (by kernel_rfl) h
theorem Ky:Ao Tryz.prog 95=true:=by kernel_rfl
abbrev NK:FuncId:=180
def Ee (σ:Hp) (q0 t0 m0 p0:Int) (_:Bool) (R:Value->Hp->Prop):Prop:=
 cl Tryz.prog (.func (.func 126) #[] #[]) #[.int .i64 q0,.int .i64 1,.int .i64 40] σ (fun v1 σ2=>
  ∃ t3:Bool,(v1=(.bool t3)/\bc (!t3) (rt σ2 R (.bool true)) (cl Tryz.prog (.func (.func 126) #[] #[]) #[.int .i64 t0,.int .i64 0,.int .i64 100] σ2 (fun v4 σ5=>
  ∃ t6:Bool,(v4=(.bool t6)/\bc (!t6) (rt σ5 R (.bool true)) (cl Tryz.prog (.func (.func 126) #[] #[]) #[.int .i64 m0,.int .i64 1,.int .i64 100] σ5 (fun v7 σ8=>
  ∃ t9:Bool,(v7=(.bool t9)/\bc (!t9) (rt σ8 R (.bool true)) (cl Tryz.prog (.func (.func 126) #[] #[]) #[.int .i64 p0,.int .i64 0,.int .i64 100] σ8 (fun v10 σ11=>
  ∃ t12:Bool,(v10=(.bool t12)/\rt σ11 R (.bool (!t12)))))))))))))
def AI:OA:=⟨[],false,[]⟩
def Kr:MAn:=(.seq (.txt []) (.seq (.txt [AI,AI,AI,AI,⟨[],true,[]⟩,AI,AI,AI,AI,AI,⟨[],true,[]⟩,AI,AI,AI,AI,AI,⟨[],true,[]⟩]) .leaf))
theorem KA (σ:Hp) (q0 t0 m0 p0:Int) (j1:Bool) (R:Value->Hp->Prop) (h:Ee σ q0 t0 m0 p0 j1 R):Ad Tryz.prog 180 #[(.agg #[.int .i64 q0,.int .i64 t0,.int .i64 m0,.int .i64 p0,.bool j1])] σ R:=
 Ac Bj Kr Tryz.func180 rfl (by kernel_rfl) (by kernel_rfl) (by kernel_rfl) h
theorem IC:Ao Tryz.prog 180=true:=by kernel_rfl
abbrev EG:FuncId:=181
def Bx (σ:Hp) (s_A:Option Addr) (s_n s_c:Nat) (f:Value) (R:Value->Hp->Prop):Prop:=
 cl Tryz.prog (.func (.func 237) #[] #[]) #[.slice s_A s_n s_c,f] σ (fun v1 σ2=>∃ n3:Int,(v1=(.int .i64 n3) /\
  rt σ2 R (.bool (decide ((0:Int)<=n3)))))
def DZ:MAn:=(.seq (.txt []) (.seq (.txt []) .leaf))
theorem DG (σ:Hp) (s_A:Option Addr) (s_n s_c:Nat) (f:Value) (R:Value->Hp->Prop) (h:Bx σ s_A s_n s_c f R):Ad Tryz.prog 181 #[.slice s_A s_n s_c,f] σ R:=
 Ac Bj DZ Tryz.func181 rfl (by kernel_rfl) (by kernel_rfl) (by kernel_rfl) h
theorem C8:Ao Tryz.prog 181=true:=by kernel_rfl
abbrev Ch:FuncId:=73
def Bu (σ:Hp) (s_A:Option Addr) (s_n _:Nat) (f:Value) (R:Value->Hp->Prop):Prop:=
 cut (α:=Hp->Prop) (fun  σ2=>∀ _:Nat->Value,rt σ2 R (.int .i64 (-1))) (fun J3=>∃ I6:Nat->Int->Hp->Prop,(∃ n70,I6 n70 0 σ) /\
  ∀ n7:Nat,∀ n8:Int,∀ σ5:Hp,I6 n7 n8 σ5->∀ _:Nat->Value,bc (decide (n8<((s_n:Nat):Int))) (ix s_A s_n n8 1 (fun b9 a10=>
  ldI σ5 .i64 b9 a10 (fun n11=>cl Tryz.prog f #[.int .i64 n11] σ5 (fun v12 σ13=>∃ t14:Bool,(v12=(.bool t14) /\
  bc t14 (rt σ13 R (.int .i64 n8)) (wk .i64 (n8+1) (fun n15=>bk σ13 n7 (fun m16 σ17=>I6 m16 n15 σ17)))))))) (J3 σ5))
def GS:MAn:=(.seq (.txt []) (.cut ⟨[],0,[],[]⟩ (.seq (.txt []) (.block (.loop ⟨[],0,[.slot 8 (.sc (.int .i64))],[(0,true),(1,false),(7,true)]⟩ (.seq (.txt []) (.seq (.cond .leaf .leaf) (.seq (.block (.seq (.txt []) (.seq (.txt []) (.cond (.seq (.txt []) .leaf) .leaf)))) (.txt []))))))) (.seq (.txt []) .leaf)))
theorem B3 (σ:Hp) (s_A:Option Addr) (s_n s_c:Nat) (f:Value) (R:Value->Hp->Prop) (h:Bu σ s_A s_n s_c f R):Ad Tryz.prog 73 #[.slice s_A s_n s_c,f] σ R:=
 Ac Bj GS Tryz.func73 rfl (by kernel_rfl) (by kernel_rfl) (by kernel_rfl) h
theorem BQ:Ao Tryz.prog 73=true:=by kernel_rfl
abbrev Ft:FuncId:=182
def BP (σ:Hp) (s_A:Option Addr) (s_n _:Nat) (f:Value) (R:Value->Hp->Prop):Prop:=
 cut (α:=Hp->Prop) (fun  σ2=>∀ _:Nat->Value,rt σ2 R (.int .i64 (-1))) (fun J3=>∃ I6:Nat->Int->Hp->Prop,(∃ n70,I6 n70 0 σ) /\
  ∀ n7:Nat,∀ n8:Int,∀ σ5:Hp,I6 n7 n8 σ5->∀ _:Nat->Value,bc (decide (n8<((s_n:Nat):Int))) (ix s_A s_n n8 5 (fun b9 a10=>
  ldI σ5 .i64 b9 a10 (fun n11=>ldI σ5 .i64 b9 (a10+1) (fun n12=>ldI σ5 .i64 b9 (a10+2) (fun n13=>
  ldS σ5 b9 (a10+3) (fun A14 l14 c14=>ldI σ5 .i64 b9 (a10+4) (fun n15=>cl Tryz.prog f #[(.agg #[.int .i64 n11,.int .i64 n12,.int .i64 n13,.slice A14 l14 c14,.int .i64 n15])] σ5 (fun v16 σ17=>
  ∃ t18:Bool,(v16=(.bool t18)/\bc t18 (rt σ17 R (.int .i64 n8)) (wk .i64 (n8+1) (fun n19=>bk σ17 n7 (fun m20 σ21=>
  I6 m20 n19 σ21)))))))))))) (J3 σ5))
def EI:MAn:=(.seq (.txt []) (.cut ⟨[],0,[],[]⟩ (.seq (.txt []) (.block (.loop ⟨[],0,[.slot 8 (.sc (.int .i64))],[(0,true),(1,false),(7,true)]⟩ (.seq (.txt []) (.seq (.cond .leaf .leaf) (.seq (.block (.seq (.txt []) (.seq (.txt []) (.cond (.seq (.txt []) .leaf) .leaf)))) (.txt []))))))) (.seq (.txt []) .leaf)))
theorem EH (σ:Hp) (s_A:Option Addr) (s_n s_c:Nat) (f:Value) (R:Value->Hp->Prop) (h:BP σ s_A s_n s_c f R):Ad Tryz.prog 182 #[.slice s_A s_n s_c,f] σ R:=
 Ac Bj EI Tryz.func182 rfl (by kernel_rfl) (by kernel_rfl) (by kernel_rfl) h
theorem DH:Ao Tryz.prog 182=true:=by kernel_rfl
abbrev Sz:FuncId:=172
def IP (σ:Hp) (x0:Option Addr) (s0 _:Nat) (R:Value->Hp->Prop):Prop:=
 cut (α:=Hp->Prop) (fun  σ2=>∀ _:Nat->Value,rt σ2 R (.int .i64 0)) (fun J3=>∃ I6:Nat->Int->Hp->Prop,(∃ n70,I6 n70 0 σ) /\
  ∀ n7:Nat,∀ n8:Int,∀ σ5:Hp,I6 n7 n8 σ5->∀ _:Nat->Value,bc (decide (n8<((s0:Nat):Int))) (ix x0 s0 n8 1 (fun b9 a10=>
  ldI σ5 .i64 b9 a10 (fun n11=>bc (!decide (n11=0)) (rt σ5 R (.int .i64 n11)) (wk .i64 (n8+1) (fun n12=>
  bk σ5 n7 (fun m13 σ14=>I6 m13 n12 σ14)))))) (J3 σ5))
def Pf:MAn:=(.seq (.txt []) (.seq (.txt []) (.cut ⟨[],0,[],[(3,true)]⟩ (.seq (.txt []) (.block (.loop ⟨[],0,[.slot 8 (.sc (.int .i64))],[(3,true),(6,true),(7,true)]⟩ (.seq (.txt []) (.seq (.cond .leaf .leaf) (.seq (.block (.seq (.txt []) (.seq (.txt []) (.cond (.seq (.txt []) .leaf) .leaf)))) (.txt []))))))) (.seq (.txt []) .leaf))))
theorem Py (σ:Hp) (x0:Option Addr) (s0 e1:Nat) (R:Value->Hp->Prop) (h:IP σ x0 s0 e1 R):Ad Tryz.prog 172 #[.slice x0 s0 e1] σ R:=
 Ac Bj Pf Tryz.func172 rfl (by kernel_rfl) (by kernel_rfl) (by kernel_rfl) h
theorem MB:Ao Tryz.prog 172=true:=by kernel_rfl
abbrev Fo:FuncId:=237
def BR (σ:Hp) (s_A:Option Addr) (s_n _:Nat) (f:Value) (R:Value->Hp->Prop):Prop:=
 cut (α:=Hp->Prop) (fun  σ2=>∀ _:Nat->Value,rt σ2 R (.int .i64 (-1))) (fun J3=>∃ I6:Nat->Int->Hp->Prop,(∃ n70,I6 n70 0 σ) /\
  ∀ n7:Nat,∀ n8:Int,∀ σ5:Hp,I6 n7 n8 σ5->∀ _:Nat->Value,bc (decide (n8<((s_n:Nat):Int))) (ix s_A s_n n8 5 (fun b9 a10=>
  ldI σ5 .i64 b9 a10 (fun n11=>ldI σ5 .i64 b9 (a10+1) (fun n12=>ldI σ5 .i64 b9 (a10+2) (fun n13=>
  ldI σ5 .i64 b9 (a10+3) (fun n14=>ldB σ5 b9 (a10+4) (fun t15=>cl Tryz.prog f #[(.agg #[.int .i64 n11,.int .i64 n12,.int .i64 n13,.int .i64 n14,.bool t15])] σ5 (fun v16 σ17=>
  ∃ t18:Bool,(v16=(.bool t18)/\bc t18 (rt σ17 R (.int .i64 n8)) (wk .i64 (n8+1) (fun n19=>bk σ17 n7 (fun m20 σ21=>
  I6 m20 n19 σ21)))))))))))) (J3 σ5))
def EB:MAn:=(.seq (.txt []) (.cut ⟨[],0,[],[]⟩ (.seq (.txt []) (.block (.loop ⟨[],0,[.slot 8 (.sc (.int .i64))],[(0,true),(1,false),(7,true)]⟩ (.seq (.txt []) (.seq (.cond .leaf .leaf) (.seq (.block (.seq (.txt []) (.seq (.txt []) (.cond (.seq (.txt []) .leaf) .leaf)))) (.txt []))))))) (.seq (.txt []) .leaf)))
theorem EE (σ:Hp) (s_A:Option Addr) (s_n s_c:Nat) (f:Value) (R:Value->Hp->Prop) (h:BR σ s_A s_n s_c f R):Ad Tryz.prog 237 #[.slice s_A s_n s_c,f] σ R:=
 Ac Bj EB Tryz.func237 rfl (by kernel_rfl) (by kernel_rfl) (by kernel_rfl) h
theorem DN:Ao Tryz.prog 237=true:=by kernel_rfl
abbrev Ez:FuncId:=171
def Gu (σ:Hp) (n0 v0 _:Int) (_:Bool) (_ w0 o0 z0 _:Int) (_:Bool) (_ y0:Int) (R:Value->Hp->Prop):Prop:=
 wk .i64 (w0-y0) (fun n1=>wk .i64 (n0-o0) (fun n2=>wk .i64 (v0-z0) (fun n3=>
  exl 3 [.int .i64] ([n1,n2,n3]:List Int) σ (fun A4 l4 c4 σ5=>cl Tryz.prog (.func (.func 172) #[] #[]) #[.slice A4 l4 c4] σ5 (fun v6 σ7=>
  ∃ n8:Int,(v6=(.int .i64 n8)/\rt σ7 R (.int .i64 n8)))))))
def Nx:MAn:=(.seq (.txt []) (.seq (.txt []) .leaf))
theorem NB (σ:Hp) (n0 v0 i1:Int) (a_On:Bool) (a1 w0 o0 z0 d1:Int) (b_On:Bool) (g1 y0:Int) (R:Value->Hp->Prop) (h:Gu σ n0 v0 i1 a_On a1 w0 o0 z0 d1 b_On g1 y0 R):Ad Tryz.prog 171 #[(.agg #[.int .i64 n0,.int .i64 v0,.int .i64 i1,.bool a_On,.int .i64 a1,.int .i64 w0]),(.agg #[.int .i64 o0,.int .i64 z0,.int .i64 d1,.bool b_On,.int .i64 g1,.int .i64 y0])] σ R:=
 Ac Bj Nx Tryz.func171 rfl (by kernel_rfl) (by kernel_rfl) (by kernel_rfl) h
abbrev Kj:FuncId:=225
def CG (σ:Hp) (g0 k0:Int) (cap0 cap1:Option Addr) (R:Value->Hp->Prop):Prop:=
 dr cap0 (fun b1 o2=>ldP σ b1 o2 (fun p3=>dr p3 (fun b4 o5=>ldI σ .i64 b4 (o5+3) (fun n6=>wk .i64 (n6-k0) (fun n7=>
  dr cap0 (fun b8 o9=>ldP σ b8 o9 (fun p10=>dr p10 (fun b11 o12=>ldS σ b11 (o12+2) (fun A13 l13 _=>
  ix A13 l13 g0 1 (fun b14 a15=>ldP σ b14 a15 (fun p16=>dr p16 (fun b17 o18=>ldI σ .i64 b17 (o18+4) (fun n19=>
  cut (α:=Hp->Prop) (fun  σ21=>∀ _:Nat->Value,rt σ21 R (.bool (decide (n19<n7)))) (fun J22=>
  bc (decide (n19<n7)) (dr cap1 (fun b23 o24=>ldS σ b23 o24 (fun A25 l25 c25=>adp 240 [.int .i64,.int .i64] A25 l25 c25 σ (fun (xs26:List (Int×Int)) σ27=>
  B2 (List.length xs26+List.length ([(g0,k0)]:List (Int×Int))) (exl 240 [.int .i64,.int .i64] (xs26++([(g0,k0)]:List (Int×Int))) σ27 (fun A28 l28 c28 σ29=>
  dr cap1 (fun b30 o31=>st σ29 b30 o31 (.slice A28 l28 c28) (fun σ32=>J22 σ32)))))))) (J22 σ)))))))))))))))
def Ar:OA:=⟨[],false,[]⟩
def HQ:MAn:=(.seq (.txt []) (.seq (.plan [] (tkPQ1 21 0 Ar .done)) (.cut ⟨[true],1,[],[(5,true)]⟩ (.seq (.txt []) (.cond (.txt []) .leaf)) (.seq (.txt []) .leaf))))
theorem Hr (σ:Hp) (g0 k0:Int) (cap0 cap1:Option Addr) (R:Value->Hp->Prop) (h:CG σ g0 k0 cap0 cap1 R):Ad Tryz.prog 225 #[(.agg #[.int .i64 g0,.int .i64 k0]),.pointer cap0,.pointer cap1] σ R:=
 Ac Bj HQ Tryz.func225 rfl (by kernel_rfl) (by kernel_rfl) (by kernel_rfl) h
theorem FP:Ao Tryz.prog 225=true:=by kernel_rfl
abbrev CA:FuncId:=227
def Cw (σ:Hp) (l0 _ r0 _:Int) (R:Value->Hp->Prop):Prop:=
 wk .i64 (l0-r0) (fun n1=>rt σ R (.int .i64 n1))
def HJ:MAn:=(.seq (.txt []) (.seq (.txt []) .leaf))
theorem Hi (σ:Hp) (l0 f1 r0 h1:Int) (R:Value->Hp->Prop) (h:Cw σ l0 f1 r0 h1 R):Ad Tryz.prog 227 #[(.agg #[.int .i64 l0,.int .i64 f1]),(.agg #[.int .i64 r0,.int .i64 h1])] σ R:=
 Ac Bj HJ Tryz.func227 rfl (by kernel_rfl) (by kernel_rfl) (by kernel_rfl) h
end Go.Proofs.YtoelhdjloaknbaaGreat
