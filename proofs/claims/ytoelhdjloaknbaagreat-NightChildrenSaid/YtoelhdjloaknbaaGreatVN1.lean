/- Trimmed by wip/trim.py to what this claim rests on. -/
import Derived.Test.YtoelhdjloaknbaaGreatVB11
namespace Go.Proofs.YtoelhdjloaknbaaGreat
set_option maxRecDepth 100000
open Go.RowKit
def tkVN1:Nat->Nat->OA->MPlan->MPlan
 |0,_,_,x=>x
 |n+1,i,a,x=>.take i a (tkVN1 n (i+1) a x)
theorem AL:Tryz.prog.follows .mixedOrders=true:=by kernel_rfl
abbrev Il:FuncId:=185
def E4 (σ:Hp) (n low high:Int) (R:Value->Hp->Prop):Prop:=
 bc (decide (low<=n)) (rt σ R (.bool (decide (n<=high)))) (rt σ R (.bool false))
def Lo:MAn:=(.seq (.txt []) (.seq (.txt [⟨[],false,[]⟩,⟨[],false,[]⟩,⟨[],false,[]⟩,⟨[],true,[]⟩]) .leaf))
theorem Lp (σ:Hp) (n low high:Int) (R:Value->Hp->Prop) (h:E4 σ n low high R):Ae Tryz.prog 185 #[.int .i64 n,.int .i64 low,.int .i64 high] σ R:=
 Ad AL Lo Tryz.func185 rfl (by kernel_rfl) (by kernel_rfl) (by kernel_rfl) h
theorem IR:Ao Tryz.prog 185=true:=by kernel_rfl
abbrev LG:FuncId:=183
def C9 (σ:Hp) (s0:Option Addr) (p0 q0:Nat) (t0:Option Addr) (r0 u0:Nat) (o0:Option Addr) (m0 n0:Nat) (R:Value->Hp->Prop):Prop:=
 cut (α:=Bool->Hp->Prop) (fun t4 σ2=>∀ _:Nat->Value,cut (α:=Option Addr->Bool->Hp->Prop) (fun p8 t9 σ6=>
  ∀ _:Nat->Value,cut (α:=Bool->Hp->Prop) (fun t13 σ11=>∀ _:Nat->Value,cut (α:=Hp->Prop) (fun  σ15=>
  ∀ _:Nat->Value,rt σ15 R (.int .i64 0)) (fun J16=>cut (α:=Bool->Hp->Prop) (fun t20 σ18=>
  ∀ _:Nat->Value,bc t20 (rt σ18 R (.int .i64 100)) (J16 σ18)) (fun J19=>bc t13 (J19 true σ11) (dr p8 (fun b21 o22=>
  ldS σ11 b21 (o22+2) (fun A23 l23 c23=>cl Tryz.prog (.func (.func 33) #[] #[]) #[.slice A23 l23 c23,(.func (.func 241) #[] #[])] σ11 (fun v24 σ25=>
  ∃ t26:Bool,(v24=(.bool t26)/\J19 t26 σ25)))))))) (fun J12=>bc t9 (J12 true σ6) (dr p8 (fun b27 o28=>
  ldS σ6 b27 (o28+1) (fun A29 l29 c29=>cl Tryz.prog (.func (.func 33) #[] #[]) #[.slice A29 l29 c29,(.func (.func 240) #[] #[])] σ6 (fun v30 σ31=>
  ∃ t32:Bool,(v30=(.bool t32)/\J12 t32 σ31))))))) (fun J7=>bc t4 (bx σ2 (.cells #[.slice s0 p0 q0,.slice t0 r0 u0,.slice o0 m0 n0] 28) (fun b33 σ34=>
  J7 (some ⟨b33,0,none⟩) true σ34)) (bx σ2 (.cells #[.slice s0 p0 q0,.slice t0 r0 u0,.slice o0 m0 n0] 28) (fun b35 σ36=>
  cl Tryz.prog (.func (.func 238) #[] #[]) #[.slice s0 p0 q0,(.func (.func 239) #[] #[(.pointer (some ⟨b35,0,none⟩))])] σ36 (fun v37 σ38=>
  ∃ t39:Bool,(v37=(.bool t39)/\J7 (some ⟨b35,0,none⟩) t39 σ38)))))) (fun J3=>bc (decide ((20:Int)<((p0:Nat):Int))) (J3 true σ) (bc (decide ((8:Int)<((r0:Nat):Int))) (J3 true σ) (J3 (decide ((10:Int)<((m0:Nat):Int))) σ)))
def AH:OA:=⟨[],false,[]⟩
def Jj:MAn:=(.seq (.txt []) (.cut ⟨[true],1,[.slot 1 (.hb 0 0),.slot 3 (.sc (.bool))],[]⟩ (.txt [AH,AH,AH,AH,⟨[],true,[]⟩,AH,AH,AH,AH,AH,⟨[],true,[]⟩]) (.cut ⟨[false],1,[.slot 1 (.sc (.ptr)),.slot 3 (.sc (.bool))],[]⟩ (.txt [AH,⟨[],true,[]⟩]) (.cut ⟨[false],1,[.slot 3 (.sc (.bool))],[(1,true)]⟩ (.txt [AH,⟨[],true,[]⟩]) (.cut ⟨[false],1,[],[]⟩ (.cut ⟨[false],1,[.slot 38 (.sc (.bool))],[]⟩ (.txt [AH,⟨[],true,[]⟩]) (.cond (.seq (.txt []) .leaf) .leaf)) (.seq (.txt []) .leaf))))))
theorem Jw (σ:Hp) (s0:Option Addr) (p0 q0:Nat) (t0:Option Addr) (r0 u0:Nat) (o0:Option Addr) (m0 n0:Nat) (R:Value->Hp->Prop) (h:C9 σ s0 p0 q0 t0 r0 u0 o0 m0 n0 R):Ae Tryz.prog 183 #[(.agg #[.slice s0 p0 q0,.slice t0 r0 u0,.slice o0 m0 n0])] σ R:=
 Ad AL Jj Tryz.func183 rfl (by kernel_rfl) (by kernel_rfl) (by kernel_rfl) h
theorem GL:Ao Tryz.prog 183=true:=by kernel_rfl
def Ct (σ:Hp) (d1 a1 c1:Int) (_:Bool) (cap0:Option Addr) (R:Value->Hp->Prop):Prop:=
 dr cap0 (fun b1 o2=>ldS σ b1 (o2+2) (fun _ l3 _=>wk .i64 (((l3:Nat):Int)-1) (fun n4=>
  cl Tryz.prog (.func (.func 185) #[] #[]) #[.int .i64 d1,.int .i64 0,.int .i64 n4] σ (fun v5 σ6=>
  ∃ t7:Bool,(v5=(.bool t7)/\bc (!t7) (rt σ6 R (.bool true)) (cl Tryz.prog (.func (.func 185) #[] #[]) #[.int .i64 a1,.int .i64 1,.int .i64 10000] σ6 (fun v8 σ9=>
  ∃ t10:Bool,(v8=(.bool t10)/\bc (!t10) (rt σ9 R (.bool true)) (cl Tryz.prog (.func (.func 185) #[] #[]) #[.int .i64 c1,.int .i64 0,.int .i64 9] σ9 (fun v11 σ12=>
  ∃ t13:Bool,(v11=(.bool t13)/\rt σ12 R (.bool (!t13)))))))))))))
def AC:OA:=⟨[],false,[]⟩
def Hn:MAn:=(.seq (.txt []) (.seq (.txt [AC,AC,AC,AC,AC,AC,AC,AC,⟨[],true,[]⟩,AC,AC,AC,AC,AC,⟨[],true,[]⟩]) .leaf))
theorem HQ (σ:Hp) (d1 a1 c1:Int) (e1:Bool) (cap0:Option Addr) (R:Value->Hp->Prop) (h:Ct σ d1 a1 c1 e1 cap0 R):Ae Tryz.prog 239 #[(.agg #[.int .i64 d1,.int .i64 a1,.int .i64 c1,.bool e1]),.pointer cap0] σ R:=
 Ad AL Hn Tryz.func239 rfl (by kernel_rfl) (by kernel_rfl) (by kernel_rfl) h
theorem FU:Ao Tryz.prog 239=true:=by kernel_rfl
def Cu (σ:Hp) (n:Int) (R:Value->Hp->Prop):Prop:=
 cl Tryz.prog (.func (.func 185) #[] #[]) #[.int .i64 n,.int .i64 0,.int .i64 9] σ (fun v1 σ2=>
  ∃ t3:Bool,(v1=(.bool t3)/\rt σ2 R (.bool (!t3))))
def Hh:MAn:=(.seq (.txt []) (.seq (.txt []) .leaf))
theorem Hu (σ:Hp) (n:Int) (R:Value->Hp->Prop) (h:Cu σ n R):Ae Tryz.prog 240 #[.int .i64 n] σ R:=
 Ad AL Hh Tryz.func240 rfl (by kernel_rfl) (by kernel_rfl) (by kernel_rfl) h
theorem FY:Ao Tryz.prog 240=true:=by kernel_rfl
def Cq (σ:Hp) (n:Int) (R:Value->Hp->Prop):Prop:=
 cl Tryz.prog (.func (.func 185) #[] #[]) #[.int .i64 n,.int .i64 0,.int .i64 10000] σ (fun v1 σ2=>
  ∃ t3:Bool,(v1=(.bool t3)/\rt σ2 R (.bool (!t3))))
def HG:MAn:=(.seq (.txt []) (.seq (.txt []) .leaf))
theorem HA (σ:Hp) (n:Int) (R:Value->Hp->Prop) (h:Cq σ n R):Ae Tryz.prog 241 #[.int .i64 n] σ R:=
 Ad AL HG Tryz.func241 rfl (by kernel_rfl) (by kernel_rfl) (by kernel_rfl) h
theorem F4:Ao Tryz.prog 241=true:=by kernel_rfl
abbrev Ge:FuncId:=243
def DJ (σ:Hp) (_:Option Addr) (_ _:Nat) (_:Option Addr) (_ _:Nat) (_:Option Addr) (a0 _:Nat) (_:Option Addr) (_ _:Nat) (n:Int) (R:Value->Hp->Prop):Prop:=
 wk .i64 (((a0:Nat):Int)-1) (fun n1=>cl Tryz.prog (.func (.func 185) #[] #[]) #[.int .i64 n,.int .i64 0,.int .i64 n1] σ (fun v2 σ3=>
  ∃ t4:Bool,(v2=(.bool t4)/\rt σ3 R (.bool t4))))
def JV:MAn:=(.seq (.txt []) (.seq (.txt []) .leaf))
theorem Ke (σ:Hp) (e0:Option Addr) (d0 i0:Nat) (g0:Option Addr) (f0 h0:Nat) (b0:Option Addr) (a0 c0:Nat) (k0:Option Addr) (j0 l0:Nat) (n:Int) (R:Value->Hp->Prop) (h:DJ σ e0 d0 i0 g0 f0 h0 b0 a0 c0 k0 j0 l0 n R):Ae Tryz.prog 243 #[(.agg #[.slice e0 d0 i0,.slice g0 f0 h0,.slice b0 a0 c0,.slice k0 j0 l0]),.int .i64 n] σ R:=
 Ad AL JV Tryz.func243 rfl (by kernel_rfl) (by kernel_rfl) (by kernel_rfl) h
theorem Hd:Ao Tryz.prog 243=true:=by kernel_rfl
abbrev Fd:FuncId:=245
def CR (σ:Hp) (_:Option Addr) (_ _:Nat) (_:Option Addr) (f0 _:Nat) (_:Option Addr) (_ _:Nat) (_:Option Addr) (_ _:Nat) (n:Int) (R:Value->Hp->Prop):Prop:=
 wk .i64 (((f0:Nat):Int)-1) (fun n1=>cl Tryz.prog (.func (.func 185) #[] #[]) #[.int .i64 n,.int .i64 0,.int .i64 n1] σ (fun v2 σ3=>
  ∃ t4:Bool,(v2=(.bool t4)/\rt σ3 R (.bool t4))))
def H2:MAn:=(.seq (.txt []) (.seq (.txt []) .leaf))
theorem H7 (σ:Hp) (e0:Option Addr) (d0 i0:Nat) (g0:Option Addr) (f0 h0:Nat) (b0:Option Addr) (a0 c0:Nat) (k0:Option Addr) (j0 l0:Nat) (n:Int) (R:Value->Hp->Prop) (h:CR σ e0 d0 i0 g0 f0 h0 b0 a0 c0 k0 j0 l0 n R):Ae Tryz.prog 245 #[(.agg #[.slice e0 d0 i0,.slice g0 f0 h0,.slice b0 a0 c0,.slice k0 j0 l0]),.int .i64 n] σ R:=
 Ad AL H2 Tryz.func245 rfl (by kernel_rfl) (by kernel_rfl) (by kernel_rfl) h
theorem Gr:Ao Tryz.prog 245=true:=by kernel_rfl
abbrev G0:FuncId:=271
def Em (σ:Hp) (e0:Option Addr) (d0 i0:Nat) (g0:Option Addr) (f0 h0:Nat) (b0:Option Addr) (a0 c0:Nat) (k0:Option Addr) (j0 l0:Nat) (rule n:Int) (R:Value->Hp->Prop):Prop:=
 cl Tryz.prog (.func (.func 245) #[] #[]) #[(.agg #[.slice e0 d0 i0,.slice g0 f0 h0,.slice b0 a0 c0,.slice k0 j0 l0]),.int .i64 n] σ (fun v1 σ2=>
  ∃ t3:Bool,(v1=(.bool t3)/\bc t3 (ix g0 f0 n 1 (fun b4 a5=>ldI σ2 .i64 b4 a5 (fun n6=>
  ix e0 d0 rule 4 (fun b7 a8=>ldI σ2 .i64 b7 (a8+2) (fun n9=>rt σ2 R (.bool (decide (n9<=n6)))))))) (rt σ2 R (.bool false))))
def Az:OA:=⟨[],false,[]⟩
def K0:MAn:=(.seq (.txt []) (.seq (.plan [2] (.take 0 Az (.take 1 Az (.alt 2 false Az (.take 3 ⟨[],true,[]⟩ (tkVN1 16 4 Az .done)) .done)))) .leaf))
theorem KP (σ:Hp) (e0:Option Addr) (d0 i0:Nat) (g0:Option Addr) (f0 h0:Nat) (b0:Option Addr) (a0 c0:Nat) (k0:Option Addr) (j0 l0:Nat) (rule n:Int) (R:Value->Hp->Prop) (h:Em σ e0 d0 i0 g0 f0 h0 b0 a0 c0 k0 j0 l0 rule n R):Ae Tryz.prog 271 #[(.agg #[.slice e0 d0 i0,.slice g0 f0 h0,.slice b0 a0 c0,.slice k0 j0 l0]),.int .i64 rule,.int .i64 n] σ R:=
 Ad AL K0 Tryz.func271 rfl (by kernel_rfl) (by kernel_rfl) (by kernel_rfl) h
theorem H8:Ao Tryz.prog 271=true:=by kernel_rfl
abbrev Ln:FuncId:=242
def C8 (σ:Hp) (e0:Option Addr) (d0 i0:Nat) (g0:Option Addr) (f0 h0:Nat) (b0:Option Addr) (a0 c0:Nat) (k0:Option Addr) (j0 l0:Nat) (rule a b:Int) (R:Value->Hp->Prop):Prop:=
 ix e0 d0 rule 4 (fun b1 a2=>ldB σ b1 (a2+3) (fun t3=>bc (!t3) (cl Tryz.prog (.func (.func 271) #[] #[]) #[(.agg #[.slice e0 d0 i0,.slice g0 f0 h0,.slice b0 a0 c0,.slice k0 j0 l0]),.int .i64 rule,.int .i64 a] σ (fun v4 σ5=>
  ∃ t6:Bool,(v4=(.bool t6)/\bc t6 (rt σ5 R (.bool (decide (b=(-1))))) (rt σ5 R (.bool false))))) (cl Tryz.prog (.func (.func 271) #[] #[]) #[(.agg #[.slice e0 d0 i0,.slice g0 f0 h0,.slice b0 a0 c0,.slice k0 j0 l0]),.int .i64 rule,.int .i64 a] σ (fun v7 σ8=>
  ∃ t9:Bool,(v7=(.bool t9)/\bc t9 (cl Tryz.prog (.func (.func 271) #[] #[]) #[(.agg #[.slice e0 d0 i0,.slice g0 f0 h0,.slice b0 a0 c0,.slice k0 j0 l0]),.int .i64 rule,.int .i64 b] σ8 (fun v10 σ11=>
  ∃ t12:Bool,(v10=(.bool t12)/\bc t12 (rt σ11 R (.bool (!decide (a=b)))) (rt σ11 R (.bool false))))) (rt σ8 R (.bool false)))))))
def AE:OA:=⟨[],false,[]⟩
def I0:MAn:=(.seq (.txt []) (.seq (.seq (.txt []) (.cond (.seq (.txt [AE,AE,AE,AE,⟨[],true,[]⟩]) .leaf) .leaf)) (.seq (.txt [AE,AE,AE,AE,⟨[],true,[]⟩,AE,AE,AE,AE,AE,⟨[],true,[]⟩]) .leaf)))
theorem Jh (σ:Hp) (e0:Option Addr) (d0 i0:Nat) (g0:Option Addr) (f0 h0:Nat) (b0:Option Addr) (a0 c0:Nat) (k0:Option Addr) (j0 l0:Nat) (rule a b:Int) (R:Value->Hp->Prop) (h:C8 σ e0 d0 i0 g0 f0 h0 b0 a0 c0 k0 j0 l0 rule a b R):Ae Tryz.prog 242 #[(.agg #[.slice e0 d0 i0,.slice g0 f0 h0,.slice b0 a0 c0,.slice k0 j0 l0]),.int .i64 rule,.int .i64 a,.int .i64 b] σ R:=
 Ad AL I0 Tryz.func242 rfl (by kernel_rfl) (by kernel_rfl) (by kernel_rfl) h
theorem GI:Ao Tryz.prog 242=true:=by kernel_rfl
abbrev Km:FuncId:=244
def CG (σ:Hp) (_:Option Addr) (_ _:Nat) (_:Option Addr) (_ _:Nat) (_:Option Addr) (_ _:Nat) (k0:Option Addr) (j0 l0:Nat) (n:Int) (R:Value->Hp->Prop):Prop:=
 bx σ (.cells #[.int .i64 n] 3) (fun b1 σ2=>cl Tryz.prog (.func (.func 272) #[] #[]) #[.slice k0 j0 l0,(.func (.func 273) #[] #[(.pointer (some ⟨b1,0,none⟩))])] σ2 (fun v3 σ4=>
  ∃ t5:Bool,(v3=(.bool t5)/\rt σ4 R (.bool t5))))
def H1:MAn:=(.seq (.txt []) (.seq (.txt []) .leaf))
theorem Ir (σ:Hp) (e0:Option Addr) (d0 i0:Nat) (g0:Option Addr) (f0 h0:Nat) (b0:Option Addr) (a0 c0:Nat) (k0:Option Addr) (j0 l0:Nat) (n:Int) (R:Value->Hp->Prop) (h:CG σ e0 d0 i0 g0 f0 h0 b0 a0 c0 k0 j0 l0 n R):Ae Tryz.prog 244 #[(.agg #[.slice e0 d0 i0,.slice g0 f0 h0,.slice b0 a0 c0,.slice k0 j0 l0]),.int .i64 n] σ R:=
 Ad AL H1 Tryz.func244 rfl (by kernel_rfl) (by kernel_rfl) (by kernel_rfl) h
theorem CP:Ao Tryz.prog 244=true:=by kernel_rfl
def Cd (σ:Hp) (_ v0 x_A _ _:Int) (cap0:Option Addr) (R:Value->Hp->Prop):Prop:=
 bc (decide (v0=3)) (dr cap0 (fun b1 o2=>ldI σ .i64 b1 o2 (fun n3=>rt σ R (.bool (decide (x_A=n3)))))) (rt σ R (.bool false))
def GP:MAn:=(.seq (.txt []) (.seq (.txt [⟨[],false,[]⟩,⟨[],false,[]⟩,⟨[],false,[]⟩,⟨[],true,[]⟩]) .leaf))
theorem GO (σ:Hp) (z0 v0 x_A x_B x_C:Int) (cap0:Option Addr) (R:Value->Hp->Prop) (h:Cd σ z0 v0 x_A x_B x_C cap0 R):Ae Tryz.prog 273 #[(.agg #[.int .i64 z0,.int .i64 v0,.int .i64 x_A,.int .i64 x_B,.int .i64 x_C]),.pointer cap0] σ R:=
 Ad AL GP Tryz.func273 rfl (by kernel_rfl) (by kernel_rfl) (by kernel_rfl) h
theorem FD:Ao Tryz.prog 273=true:=by kernel_rfl
abbrev LE:FuncId:=184
def Di (σ:Hp) (e0:Option Addr) (d0 i0:Nat) (g0:Option Addr) (f0 h0:Nat) (b0:Option Addr) (a0 c0:Nat) (k0:Option Addr) (j0 l0:Nat) (z0 v0 x_A x_B x_C:Int) (R:Value->Hp->Prop):Prop:=
 cut (α:=Int->Hp->Prop) (fun n4 σ2=>∀ _:Nat->Value,cl Tryz.prog (.func (.func 185) #[] #[]) #[.int .i64 z0,.int .i64 n4,.int .i64 10000] σ2 (fun v5 σ6=>
  ∃ t7:Bool,(v5=(.bool t7)/\bc (!t7) (rt σ6 R (.bool false)) (bc (decide (v0=1)) (wk .i64 (((d0:Nat):Int)-1) (fun n8=>
  cl Tryz.prog (.func (.func 185) #[] #[]) #[.int .i64 x_A,.int .i64 0,.int .i64 n8] σ6 (fun v9 σ10=>
  ∃ t11:Bool,(v9=(.bool t11)/\bc t11 (cl Tryz.prog (.func (.func 242) #[] #[]) #[(.agg #[.slice e0 d0 i0,.slice g0 f0 h0,.slice b0 a0 c0,.slice k0 j0 l0]),.int .i64 x_A,.int .i64 x_B,.int .i64 x_C] σ10 (fun v12 σ13=>
  ∃ t14:Bool,(v12=(.bool t14)/\rt σ13 R (.bool t14)))) (rt σ10 R (.bool false)))))) (bc (decide (v0=2)) (cl Tryz.prog (.func (.func 243) #[] #[]) #[(.agg #[.slice e0 d0 i0,.slice g0 f0 h0,.slice b0 a0 c0,.slice k0 j0 l0]),.int .i64 x_A] σ6 (fun v15 σ16=>
  ∃ t17:Bool,(v15=(.bool t17)/\bc t17 (cl Tryz.prog (.func (.func 185) #[] #[]) #[.int .i64 x_B,.int .i64 1,.int .i64 3] σ16 (fun v18 σ19=>
  ∃ t20:Bool,(v18=(.bool t20)/\bc t20 (rt σ19 R (.bool (decide (x_C=0)))) (rt σ19 R (.bool false))))) (rt σ16 R (.bool false))))) (bc (decide (v0=3)) (wk .i64 (((j0:Nat):Int)-1) (fun n21=>
  cl Tryz.prog (.func (.func 185) #[] #[]) #[.int .i64 x_A,.int .i64 0,.int .i64 n21] σ6 (fun v22 σ23=>
  ∃ t24:Bool,(v22=(.bool t24)/\bc t24 (ix k0 j0 x_A 5 (fun b25 a26=>ldI σ23 .i64 b25 (a26+1) (fun n27=>
  bc (decide (n27=2)) (cl Tryz.prog (.func (.func 244) #[] #[]) #[(.agg #[.slice e0 d0 i0,.slice g0 f0 h0,.slice b0 a0 c0,.slice k0 j0 l0]),.int .i64 x_A] σ23 (fun v28 σ29=>
  ∃ t30:Bool,(v28=(.bool t30)/\bc (!t30) (cl Tryz.prog (.func (.func 245) #[] #[]) #[(.agg #[.slice e0 d0 i0,.slice g0 f0 h0,.slice b0 a0 c0,.slice k0 j0 l0]),.int .i64 x_B] σ29 (fun v31 σ32=>
  ∃ t33:Bool,(v31=(.bool t33)/\bc t33 (rt σ32 R (.bool (decide (x_C=0)))) (rt σ32 R (.bool false))))) (rt σ29 R (.bool false))))) (rt σ23 R (.bool false))))) (rt σ23 R (.bool false)))))) (bc (decide (v0=4)) (cl Tryz.prog (.func (.func 243) #[] #[]) #[(.agg #[.slice e0 d0 i0,.slice g0 f0 h0,.slice b0 a0 c0,.slice k0 j0 l0]),.int .i64 x_A] σ6 (fun v34 σ35=>
  ∃ t36:Bool,(v34=(.bool t36)/\bc t36 (cl Tryz.prog (.func (.func 245) #[] #[]) #[(.agg #[.slice e0 d0 i0,.slice g0 f0 h0,.slice b0 a0 c0,.slice k0 j0 l0]),.int .i64 x_B] σ35 (fun v37 σ38=>
  ∃ t39:Bool,(v37=(.bool t39)/\bc t39 (rt σ38 R (.bool (decide (x_C=0)))) (rt σ38 R (.bool false))))) (rt σ35 R (.bool false))))) (bc (decide (v0=5)) (cl Tryz.prog (.func (.func 243) #[] #[]) #[(.agg #[.slice e0 d0 i0,.slice g0 f0 h0,.slice b0 a0 c0,.slice k0 j0 l0]),.int .i64 x_A] σ6 (fun v40 σ41=>
  ∃ t42:Bool,(v40=(.bool t42)/\bc t42 (cl Tryz.prog (.func (.func 185) #[] #[]) #[.int .i64 x_B,.int .i64 0,.int .i64 10000] σ41 (fun v43 σ44=>
  ∃ t45:Bool,(v43=(.bool t45)/\bc t45 (rt σ44 R (.bool (decide (x_C=0)))) (rt σ44 R (.bool false))))) (rt σ41 R (.bool false))))) (bc (decide (v0=6)) (cl Tryz.prog (.func (.func 243) #[] #[]) #[(.agg #[.slice e0 d0 i0,.slice g0 f0 h0,.slice b0 a0 c0,.slice k0 j0 l0]),.int .i64 x_A] σ6 (fun v46 σ47=>
  ∃ t48:Bool,(v46=(.bool t48)/\bc t48 (bc (decide (x_B=0)) (rt σ47 R (.bool (decide (x_C=0)))) (rt σ47 R (.bool false))) (rt σ47 R (.bool false))))) (rt σ6 R (.bool false))))))))))) (fun J3=>
  bc (decide ((0:Int)<((j0:Nat):Int))) (wk .i64 (((j0:Nat):Int)-1) (fun n49=>
  ix k0 j0 n49 5 (fun b50 a51=>ldI σ .i64 b50 a51 (fun n52=>J3 n52 σ)))) (J3 0 σ))
def Ac:OA:=⟨[],false,[]⟩
def Cg:MAn:=(.seq (.txt [Ac,Ac,Ac,Ac,⟨[],true,[]⟩,Ac,Ac,Ac,Ac,⟨[],true,[]⟩]) .leaf)
def Jl:MAn:=(.seq (.txt []) (.seq (.txt []) (.cut ⟨[true,true],2,[.slot 2 (.hb 0 0),.slot 3 (.hb 1 0),.slot 5 (.sc (.int .i64))],[]⟩ (.seq (.txt []) (.seq (.txt []) (.cond (.txt []) .leaf))) (.seq (.seq (.txt []) (.cond (.seq (.txt []) .leaf) .leaf)) (.seq (.seq (.txt []) (.block (.seq (.txt []) (.cond (.seq (.txt [Ac,Ac,Ac,Ac,Ac,Ac,Ac,Ac,⟨[],true,[]⟩]) .leaf) (.seq (.txt []) (.cond Cg (.seq (.txt []) (.cond (.seq (.txt [Ac,Ac,Ac,Ac,Ac,Ac,Ac,⟨[],true,[]⟩,Ac,Ac,Ac,Ac,Ac,Ac,Ac,Ac,Ac,⟨[],true,[]⟩,Ac,Ac,Ac,Ac,Ac,Ac,⟨[],true,[]⟩,Ac,Ac,Ac,Ac,Ac,⟨[],true,[]⟩]) .leaf) (.seq (.txt []) (.cond (.seq (.txt [Ac,Ac,Ac,Ac,⟨[],true,[]⟩,Ac,Ac,Ac,Ac,Ac,⟨[],true,[]⟩]) .leaf) (.seq (.txt []) (.cond Cg (.seq (.txt []) (.cond Cg .leaf)))))))))))))) (.seq (.txt []) .leaf))))))
theorem IV (σ:Hp) (e0:Option Addr) (d0 i0:Nat) (g0:Option Addr) (f0 h0:Nat) (b0:Option Addr) (a0 c0:Nat) (k0:Option Addr) (j0 l0:Nat) (z0 v0 x_A x_B x_C:Int) (R:Value->Hp->Prop) (h:Di σ e0 d0 i0 g0 f0 h0 b0 a0 c0 k0 j0 l0 z0 v0 x_A x_B x_C R):Ae Tryz.prog 184 #[(.agg #[.slice e0 d0 i0,.slice g0 f0 h0,.slice b0 a0 c0,.slice k0 j0 l0]),(.agg #[.int .i64 z0,.int .i64 v0,.int .i64 x_A,.int .i64 x_B,.int .i64 x_C])] σ R:=
 Ad AL Jl Tryz.func184 rfl (by kernel_rfl) (by kernel_rfl) (by kernel_rfl) h
theorem GR:Ao Tryz.prog 184=true:=by kernel_rfl
abbrev Ow:FuncId:=128
def EV (σ:Hp) (s0:Option Addr) (p0 q0:Nat) (t0:Option Addr) (r0 u0:Nat) (o0:Option Addr) (m0 n0:Nat) (x0:Option Addr) (w0 _:Nat) (R:Value->Hp->Prop):Prop:=
 cl Tryz.prog (.func (.func 183) #[] #[]) #[(.agg #[.slice s0 p0 q0,.slice t0 r0 u0,.slice o0 m0 n0])] σ (fun v1 σ2=>
  ∃ n3:Int,(v1=(.int .i64 n3)/\bc (!decide (n3=0)) (rt σ2 R (.tuple #[(.agg #[.slice none 0 0,.slice none 0 0,.slice none 0 0,.slice none 0 0]),.int .i64 0,.int .i64 n3])) (bc (decide ((100:Int)<((w0:Nat):Int))) (rt σ2 R (.tuple #[(.agg #[.slice none 0 0,.slice none 0 0,.slice none 0 0,.slice none 0 0]),.int .i64 0,.int .i64 2])) (cut (α:=Option Addr->Nat->Nat->Option Addr->Nat->Nat->Option Addr->Nat->Nat->List (Int×Int×Int×Int×Int)->Hp->Prop) (fun A7 l7 c7 A8 l8 c8 A9 l9 c9 xs10 σ5=>
  ∀ _:Nat->Value,exl 136 [.int .i64,.int .i64,.int .i64,.int .i64,.int .i64] xs10 σ5 (fun A11 l11 c11 σ12=>
  rt σ12 R (.tuple #[(.agg #[.slice A7 l7 c7,.slice A8 l8 c8,.slice A9 l9 c9,.slice A11 l11 c11]),.int .i64 0,.int .i64 0]))) (fun J6=>
  ∃ I15:Nat->Int->Option Addr->Nat->Nat->Option Addr->Nat->Nat->Option Addr->Nat->Nat->List (Int×Int×Int×Int×Int)->Hp->Prop,(∃ n160,adp 136 [.int .i64,.int .i64,.int .i64,.int .i64,.int .i64] none 0 0 σ2 (fun (xs17:List (Int×Int×Int×Int×Int)) σ18=>
  I15 n160 0 s0 p0 q0 t0 r0 u0 o0 m0 n0 xs17 σ18)) /\
  ∀ n16:Nat,∀ n19:Int,∀ A20:Option Addr,∀ l20 c20:Nat,∀ A21:Option Addr,∀ l21 c21:Nat,∀ A22:Option Addr,∀ l22 c22:Nat,∀ xs23:List (Int×Int×Int×Int×Int),∀ σ14:Hp,I15 n16 n19 A20 l20 c20 A21 l21 c21 A22 l22 c22 xs23 σ14->∀ _:Nat->Value,bc (decide (n19<((w0:Nat):Int))) (ix x0 w0 n19 5 (fun b24 a25=>
  ldI σ14 .i64 b24 a25 (fun n26=>ldI σ14 .i64 b24 (a25+1) (fun n27=>ldI σ14 .i64 b24 (a25+2) (fun n28=>
  ldI σ14 .i64 b24 (a25+3) (fun n29=>ldI σ14 .i64 b24 (a25+4) (fun n30=>exl 136 [.int .i64,.int .i64,.int .i64,.int .i64,.int .i64] xs23 σ14 (fun A31 l31 c31 σ32=>
  cl Tryz.prog (.func (.func 184) #[] #[]) #[(.agg #[.slice A20 l20 c20,.slice A21 l21 c21,.slice A22 l22 c22,.slice A31 l31 c31]),(.agg #[.int .i64 n26,.int .i64 n27,.int .i64 n28,.int .i64 n29,.int .i64 n30])] σ32 (fun v33 σ34=>
  ∃ t35:Bool,(v33=(.bool t35)/\bc (!t35) (rt σ34 R (.tuple #[(.agg #[.slice A20 l20 c20,.slice A21 l21 c21,.slice A22 l22 c22,.slice A31 l31 c31]),.int .i64 n19,.int .i64 101])) (adp 136 [.int .i64,.int .i64,.int .i64,.int .i64,.int .i64] A31 l31 c31 σ34 (fun (xs36:List (Int×Int×Int×Int×Int)) σ37=>
  B0 (List.length xs36+List.length ([(n26,n27,n28,n29,n30)]:List (Int×Int×Int×Int×Int))) (wk .i64 (n19+1) (fun n38=>
  bk σ37 n16 (fun m39 σ40=>I15 m39 n38 A20 l20 c20 A21 l21 c21 A22 l22 c22 (xs36++([(n26,n27,n28,n29,n30)]:List (Int×Int×Int×Int×Int))) σ40))))))))))))))) (J6 A20 l20 c20 A21 l21 c21 A22 l22 c22 xs23 σ14))))))
def LI:MAn:=(.seq (.txt []) (.seq (.seq (.txt []) (.seq (.txt []) (.cond (.seq (.txt []) .leaf) .leaf))) (.seq (.seq (.txt []) (.cond (.seq (.txt []) .leaf) .leaf)) (.seq (.txt []) (.cut ⟨[true,false],3,[.slot 4 (.hb 1 0),.modb 1 208 [.sc (.slc),.sc (.slc),.sc (.slc),.lst 2 136 [.int .i64,.int .i64,.int .i64,.int .i64,.int .i64]]],[]⟩ (.seq (.txt []) (.block (.loop ⟨[true,false],3,[.slot 4 (.hb 1 0),.slot 24 (.sc (.int .i64)),.modb 1 208 [.sc (.slc),.sc (.slc),.sc (.slc),.lst 2 136 [.int .i64,.int .i64,.int .i64,.int .i64,.int .i64]]],[(22,true),(23,true)]⟩ (.seq (.txt []) (.seq (.cond .leaf .leaf) (.seq (.block (.seq (.txt []) (.seq (.seq (.txt []) (.cond (.seq (.txt []) .leaf) .leaf)) (.txt [])))) (.txt []))))))) (.seq (.txt []) .leaf))))))
theorem Lq (σ:Hp) (s0:Option Addr) (p0 q0:Nat) (t0:Option Addr) (r0 u0:Nat) (o0:Option Addr) (m0 n0:Nat) (x0:Option Addr) (w0 y0:Nat) (R:Value->Hp->Prop) (h:EV σ s0 p0 q0 t0 r0 u0 o0 m0 n0 x0 w0 y0 R):Ae Tryz.prog 128 #[(.agg #[.slice s0 p0 q0,.slice t0 r0 u0,.slice o0 m0 n0]),.slice x0 w0 y0] σ R:=
 Ad AL LI Tryz.func128 rfl (by kernel_rfl) (by kernel_rfl) (by kernel_rfl) h
theorem Ef:Ao Tryz.prog 128=true:=by kernel_rfl
abbrev Pj:FuncId:=69
def FC (σ:Hp) (s0:Option Addr) (p0 q0:Nat) (t0:Option Addr) (r0 u0:Nat) (o0:Option Addr) (m0 n0:Nat) (l_A:Option Addr) (l_n l_c:Nat) (R:Value->Hp->Prop):Prop:=
 cl Tryz.prog (.func (.func 128) #[] #[]) #[(.agg #[.slice s0 p0 q0,.slice t0 r0 u0,.slice o0 m0 n0]),.slice l_A l_n l_c] σ (fun v1 σ2=>
  ∃ A3:Option Addr,∃ l3 c3:Nat,∃ A4:Option Addr,∃ l4 c4:Nat,∃ A5:Option Addr,∃ l5 c5:Nat,∃ A6:Option Addr,∃ l6 c6:Nat,∃ n7 n8:Int,(v1=(.tuple #[(.agg #[.slice A3 l3 c3,.slice A4 l4 c4,.slice A5 l5 c5,.slice A6 l6 c6]),.int .i64 n7,.int .i64 n8]) /\
  rt σ2 R (.tuple #[.int .i64 n7,.int .i64 n8])))
def L4:MAn:=(.seq (.txt []) (.seq (.txt []) (.seq (.txt []) .leaf)))
theorem Ml (σ:Hp) (s0:Option Addr) (p0 q0:Nat) (t0:Option Addr) (r0 u0:Nat) (o0:Option Addr) (m0 n0:Nat) (l_A:Option Addr) (l_n l_c:Nat) (R:Value->Hp->Prop) (h:FC σ s0 p0 q0 t0 r0 u0 o0 m0 n0 l_A l_n l_c R):Ae Tryz.prog 69 #[(.agg #[.slice s0 p0 q0,.slice t0 r0 u0,.slice o0 m0 n0]),.slice l_A l_n l_c] σ R:=
 Ad AL L4 Tryz.func69 rfl (by kernel_rfl) (by kernel_rfl) (by kernel_rfl) h
theorem Kc:Ao Tryz.prog 69=true:=by kernel_rfl
abbrev Oz:FuncId:=186
def EX (σ:Hp) (e0:Option Addr) (d0 i0:Nat) (g0:Option Addr) (f0 h0:Nat) (b0:Option Addr) (a0 c0:Nat) (k0:Option Addr) (j0 l0:Nat) (day:Int) (R:Value->Hp->Prop):Prop:=
 bx σ (.cells #[.int .i64 day] 3) (fun b1 σ2=>cl Tryz.prog (.func (.func 246) #[] #[]) #[.slice k0 j0 l0,(.func (.func 247) #[] #[(.pointer (some ⟨b1,0,none⟩))])] σ2 (fun v3 σ4=>
  ∃ n5:Int,(v3=(.int .i64 n5)/\cut (α:=Option Addr->Nat->Nat->Option Addr->Nat->Nat->Option Addr->Nat->Nat->Option Addr->Nat->Nat->Hp->Prop) (fun A9 l9 c9 A10 l10 c10 A11 l11 c11 A12 l12 c12 σ7=>
  ∀ _:Nat->Value,rt σ7 R (.agg #[.slice A9 l9 c9,.slice A10 l10 c10,.slice A11 l11 c11,.slice A12 l12 c12])) (fun J8=>
  bc (decide ((0:Int)<=n5)) ((0<=n5/\n5<=((l0:Nat):Int)/\J8 e0 d0 i0 g0 f0 h0 b0 a0 c0 k0 ((n5:Int).toNat) l0 σ4)) (J8 e0 d0 i0 g0 f0 h0 b0 a0 c0 k0 j0 l0 σ4)))))
def LJ:MAn:=(.seq (.txt []) (.seq (.txt []) (.cut ⟨[false,false,true],3,[.slot 2 (.hb 0 0),.slot 4 (.hb 2 0),.modb 0 208 [.sc (.slc),.sc (.slc),.sc (.slc),.sc (.slc)]],[]⟩ (.seq (.txt []) (.cond (.txt []) .leaf)) (.seq (.txt []) .leaf))))
theorem Lx (σ:Hp) (e0:Option Addr) (d0 i0:Nat) (g0:Option Addr) (f0 h0:Nat) (b0:Option Addr) (a0 c0:Nat) (k0:Option Addr) (j0 l0:Nat) (day:Int) (R:Value->Hp->Prop) (h:EX σ e0 d0 i0 g0 f0 h0 b0 a0 c0 k0 j0 l0 day R):Ae Tryz.prog 186 #[(.agg #[.slice e0 d0 i0,.slice g0 f0 h0,.slice b0 a0 c0,.slice k0 j0 l0]),.int .i64 day] σ R:=
 Ad AL LJ Tryz.func186 rfl (by kernel_rfl) (by kernel_rfl) (by kernel_rfl) h
theorem IU:Ao Tryz.prog 186=true:=by kernel_rfl
def DG (σ:Hp) (z0 _ _ _ _:Int) (cap0:Option Addr) (R:Value->Hp->Prop):Prop:=
 dr cap0 (fun b1 o2=>ldI σ .i64 b1 o2 (fun n3=>rt σ R (.bool (decide (n3<z0)))))
def JZ:MAn:=(.seq (.txt []) (.seq (.txt []) .leaf))
theorem Kf (σ:Hp) (z0 v0 x_A x_B x_C:Int) (cap0:Option Addr) (R:Value->Hp->Prop) (h:DG σ z0 v0 x_A x_B x_C cap0 R):Ae Tryz.prog 247 #[(.agg #[.int .i64 z0,.int .i64 v0,.int .i64 x_A,.int .i64 x_B,.int .i64 x_C]),.pointer cap0] σ R:=
 Ad AL JZ Tryz.func247 rfl (by kernel_rfl) (by kernel_rfl) (by kernel_rfl) h
theorem HE:Ao Tryz.prog 247=true:=by kernel_rfl
abbrev Me:FuncId:=250
def GE (σ:Hp) (e0:Option Addr) (d0 i0:Nat) (g0:Option Addr) (f0 h0:Nat) (b0:Option Addr) (a0 c0:Nat) (k0:Option Addr) (j0 l0:Nat) (R:Value->Hp->Prop):Prop:=
 bx σ (.cells #[.slice e0 d0 i0,.slice g0 f0 h0,.slice b0 a0 c0,.slice k0 j0 l0] 208) (fun b1 σ2=>
  rt σ2 R (.func (.func 275) #[] #[(.pointer (some ⟨b1,0,none⟩))]))
def JR:MAn:=(.seq (.txt []) (.seq (.txt []) .leaf))
theorem Ki (σ:Hp) (e0:Option Addr) (d0 i0:Nat) (g0:Option Addr) (f0 h0:Nat) (b0:Option Addr) (a0 c0:Nat) (k0:Option Addr) (j0 l0:Nat) (R:Value->Hp->Prop) (h:GE σ e0 d0 i0 g0 f0 h0 b0 a0 c0 k0 j0 l0 R):Ae Tryz.prog 250 #[(.agg #[.slice e0 d0 i0,.slice g0 f0 h0,.slice b0 a0 c0,.slice k0 j0 l0])] σ R:=
 Ad AL JR Tryz.func250 rfl (by kernel_rfl) (by kernel_rfl) (by kernel_rfl) h
theorem Dr:Ao Tryz.prog 250=true:=by kernel_rfl
abbrev Fa:FuncId:=275
def CO (σ:Hp) (yield:Value) (cap0:Option Addr) (R:Value->Hp->Prop):Prop:=
 one yield (dr cap0 (fun b1 o2=>ldS σ b1 (o2+3) (fun A3 l3 c3=>cl Tryz.prog (.func (.func 276) #[] #[]) #[.slice A3 l3 c3] σ (fun v4 σ5=>
  ∃ v6:Value,(v4=v6/\bx σ5 (.cells #[yield] 257) (fun b7 σ8=>Xi Tryz.prog v6 σ8 (fun l9 Rec10 ag11 σ12 R13=>
  ∃ n17 n18:Int,∃ n19 n20:Int,∃ n21 n22:Int,(ag11=#[.int .i64 n17,(.agg #[.int .i64 n18,.int .i64 n19,.int .i64 n20,.int .i64 n21,.int .i64 n22])] /\
  ∀ _:Nat->Value,rgb l9 Rec10 σ12 (fun σ23=>ldV σ23 b7 0 (fun v24=>cl Tryz.prog v24 #[(.agg #[.int .i64 n18,.int .i64 n19,.int .i64 n20,.int .i64 n21,.int .i64 n22])] σ23 (fun v25 σ26=>
  ∃ t27:Bool,(v25=(.bool t27)/\bc (!t27) (rgx l9 Rec10 R13 σ26 .ret) (rgo l9 Rec10 R13 σ26))))))) (fun p14 σ15=>
  aft p14 (rt σ15 R (.tuple #[])) (rt σ15 R (.tuple #[])) (fun i=>exb i 0 (rt σ15 R (.tuple #[])) (False)))))))))
def Ia:MAn:=(.seq (.txt []) (.seq (.txt []) (.block (.rng [.exp 2] [(2,true)] [3,136] (.txt []) (.block (.seq (.txt []) (.cond .leaf .leaf)))))))
theorem Iw (σ:Hp) (yield:Value) (cap0:Option Addr) (R:Value->Hp->Prop) (h:CO σ yield cap0 R):Ae Tryz.prog 275 #[yield,.pointer cap0] σ R:=
 Ad AL Ia Tryz.func275 rfl (by kernel_rfl) (by kernel_rfl) (by kernel_rfl) h
theorem CU:Ao Tryz.prog 275=true:=by kernel_rfl
abbrev Mu:FuncId:=190
def DH (σ:Hp) (e0:Option Addr) (d0 i0:Nat) (g0:Option Addr) (f0 h0:Nat) (b0:Option Addr) (a0 c0:Nat) (k0:Option Addr) (j0 l0:Nat) (ride:Int) (wanted:Value) (R:Value->Hp->Prop):Prop:=
 one wanted (cut (α:=Option Addr->Hp->Prop) (fun p4 σ2=>∀ _:Nat->Value,dr p4 (fun b5 o6=>
  st σ2 b5 o6 (.int .i64 (-1)) (fun σ7=>dr p4 (fun b8 o9=>ldI σ7 .i64 b8 o9 (fun n10=>rt σ7 R (.int .i64 n10)))))) (fun J3=>
  cl Tryz.prog (.func (.func 250) #[] #[]) #[(.agg #[.slice e0 d0 i0,.slice g0 f0 h0,.slice b0 a0 c0,.slice k0 j0 l0])] σ (fun v11 σ12=>
  ∃ v13:Value,(v11=v13/\bx σ12 (.cells #[.int .i64 ride] 3) (fun b14 σ15=>bx σ15 (.cells #[wanted] 257) (fun b16 σ17=>
  bx σ17 (.cells #[.int .i64 0] 3) (fun b18 σ19=>Xi Tryz.prog v13 σ19 (fun l20 Rec21 ag22 σ23 R24=>
  ∃ n28 n29:Int,∃ n30 n31 n32:Int,(ag22=#[(.agg #[.int .i64 n28,.int .i64 n29,.int .i64 n30,.int .i64 n31,.int .i64 n32])] /\
  ∀ _:Nat->Value,rgb l20 Rec21 σ23 (fun σ33=>ldV σ33 b16 0 (fun v34=>cl Tryz.prog v34 #[(.agg #[.int .i64 n28,.int .i64 n29,.int .i64 n30,.int .i64 n31,.int .i64 n32])] σ33 (fun v35 σ36=>
  ∃ t37:Bool,(v35=(.bool t37)/\bc t37 (st σ36 b18 0 (.int .i64 n28) (fun σ38=>rgx l20 Rec21 R24 σ38 .ret)) (cut (α:=Bool->Hp->Prop) (fun t42 σ40=>
  ∀ _:Nat->Value,bc t42 (st σ40 b18 0 (.int .i64 (-1)) (fun σ43=>rgx l20 Rec21 R24 σ43 .ret)) (rgo l20 Rec21 R24 σ40)) (fun J41=>
  bc (decide (n29=6)) (ldI σ36 .i64 b14 0 (fun n44=>J41 (decide (n30=n44)) σ36)) (J41 false σ36))))))))) (fun p25 σ26=>
  aft p25 (J3 (some ⟨b18,0,none⟩) σ26) (ldI σ26 .i64 b18 0 (fun n45=>rt σ26 R (.int .i64 n45))) (fun i=>
  exb i 0 (J3 (some ⟨b18,0,none⟩) σ26) (False))))))))))
def JE:MAn:=(.seq (.txt []) (.cut ⟨[true,false,false,false],4,[.slot 6 (.sc (.ptr))],[]⟩ (.seq (.txt []) (.block (.rng [.exp 4,.exp 5,.exp 6] [(4,true),(5,true),(6,true)] [136] (.txt []) (.block (.block (.seq (.txt []) (.cond (.seq (.txt []) .leaf) (.cut ⟨[true],1,[.slot 17 (.sc (.bool))],[(6,true)]⟩ (.txt [⟨[],false,[]⟩,⟨[],false,[]⟩,⟨[],false,[]⟩,⟨[],true,[]⟩]) (.cond (.seq (.txt []) .leaf) .leaf))))))))) (.seq (.txt []) .leaf)))
theorem JH (σ:Hp) (e0:Option Addr) (d0 i0:Nat) (g0:Option Addr) (f0 h0:Nat) (b0:Option Addr) (a0 c0:Nat) (k0:Option Addr) (j0 l0:Nat) (ride:Int) (wanted:Value) (R:Value->Hp->Prop) (h:DH σ e0 d0 i0 g0 f0 h0 b0 a0 c0 k0 j0 l0 ride wanted R):Ae Tryz.prog 190 #[(.agg #[.slice e0 d0 i0,.slice g0 f0 h0,.slice b0 a0 c0,.slice k0 j0 l0]),.int .i64 ride,wanted] σ R:=
 Ad AL JE Tryz.func190 rfl (by kernel_rfl) (by kernel_rfl) (by kernel_rfl) h
theorem Dt:Ao Tryz.prog 190=true:=by kernel_rfl
abbrev Ls:FuncId:=248
def Dd (σ:Hp) (e0:Option Addr) (d0 i0:Nat) (g0:Option Addr) (f0 h0:Nat) (b0:Option Addr) (a0 c0:Nat) (k0:Option Addr) (j0 l0:Nat) (rule:Int) (R:Value->Hp->Prop):Prop:=
 ix e0 d0 rule 4 (fun b1 a2=>ldI σ .i64 b1 a2 (fun n3=>bx σ (.cells #[.int .i64 rule] 3) (fun b4 σ5=>
  cl Tryz.prog (.func (.func 190) #[] #[]) #[(.agg #[.slice e0 d0 i0,.slice g0 f0 h0,.slice b0 a0 c0,.slice k0 j0 l0]),.int .i64 n3,(.func (.func 274) #[] #[(.pointer (some ⟨b4,0,none⟩))])] σ5 (fun v6 σ7=>
  ∃ n8:Int,(v6=(.int .i64 n8)/\bc (decide (n8<0)) (rt σ7 R (.int .i64 (-1))) (ldI σ7 .i64 b4 0 (fun n9=>
  ix e0 d0 n9 4 (fun b10 a11=>ldI σ7 .i64 b10 (a11+1) (fun n12=>wk .i64 (n8+n12) (fun n13=>
  wk .i64 (n13-1) (fun n14=>rt σ7 R (.int .i64 n14))))))))))))
def AJ:OA:=⟨[],false,[]⟩
def IN:MAn:=(.seq (.txt []) (.seq (.plan [9] (tkVN1 9 0 AJ (.alt 9 false AJ (.take 10 AJ .done) .done))) (.seq (.seq (.txt []) (.cond (.seq (.txt []) .leaf) .leaf)) (.seq (.txt []) .leaf))))
theorem Jf (σ:Hp) (e0:Option Addr) (d0 i0:Nat) (g0:Option Addr) (f0 h0:Nat) (b0:Option Addr) (a0 c0:Nat) (k0:Option Addr) (j0 l0:Nat) (rule:Int) (R:Value->Hp->Prop) (h:Dd σ e0 d0 i0 g0 f0 h0 b0 a0 c0 k0 j0 l0 rule R):Ae Tryz.prog 248 #[(.agg #[.slice e0 d0 i0,.slice g0 f0 h0,.slice b0 a0 c0,.slice k0 j0 l0]),.int .i64 rule] σ R:=
 Ad AL IN Tryz.func248 rfl (by kernel_rfl) (by kernel_rfl) (by kernel_rfl) h
theorem GJ:Ao Tryz.prog 248=true:=by kernel_rfl
def Cw (σ:Hp) (_ v0 x_A _ _:Int) (cap0:Option Addr) (R:Value->Hp->Prop):Prop:=
 bc (decide (v0=1)) (dr cap0 (fun b1 o2=>ldI σ .i64 b1 o2 (fun n3=>rt σ R (.bool (decide (x_A=n3)))))) (rt σ R (.bool false))
def HT:MAn:=(.seq (.txt []) (.seq (.txt [⟨[],false,[]⟩,⟨[],false,[]⟩,⟨[],false,[]⟩,⟨[],true,[]⟩]) .leaf))
theorem HM (σ:Hp) (z0 v0 x_A x_B x_C:Int) (cap0:Option Addr) (R:Value->Hp->Prop) (h:Cw σ z0 v0 x_A x_B x_C cap0 R):Ae Tryz.prog 274 #[(.agg #[.int .i64 z0,.int .i64 v0,.int .i64 x_A,.int .i64 x_B,.int .i64 x_C]),.pointer cap0] σ R:=
 Ad AL HT Tryz.func274 rfl (by kernel_rfl) (by kernel_rfl) (by kernel_rfl) h
theorem FS:Ao Tryz.prog 274=true:=by kernel_rfl
abbrev N8:FuncId:=130
def EN (σ:Hp) (s0:Option Addr) (p0 q0:Nat) (t0:Option Addr) (r0 u0:Nat) (o0:Option Addr) (m0 n0:Nat) (x0:Option Addr) (w0 y0:Nat) (day:Int) (R:Value->Hp->Prop):Prop:=
 cl Tryz.prog (.func (.func 128) #[] #[]) #[(.agg #[.slice s0 p0 q0,.slice t0 r0 u0,.slice o0 m0 n0]),.slice x0 w0 y0] σ (fun v1 σ2=>
  ∃ A3:Option Addr,∃ l3 c3:Nat,∃ A4:Option Addr,∃ l4 c4:Nat,∃ A5:Option Addr,∃ l5 c5:Nat,∃ A6:Option Addr,∃ l6 c6:Nat,∃ n7 n8:Int,(v1=(.tuple #[(.agg #[.slice A3 l3 c3,.slice A4 l4 c4,.slice A5 l5 c5,.slice A6 l6 c6]),.int .i64 n7,.int .i64 n8]) /\
  bc (!decide (n8=0)) (rt σ2 R (.tuple #[(.agg #[.slice A3 l3 c3,.slice A4 l4 c4,.slice A5 l5 c5,.slice A6 l6 c6]),.int .i64 n8])) (cl Tryz.prog (.func (.func 185) #[] #[]) #[.int .i64 day,.int .i64 0,.int .i64 10000] σ2 (fun v9 σ10=>
  ∃ t11:Bool,(v9=(.bool t11)/\bc (!t11) (rt σ10 R (.tuple #[(.agg #[.slice A3 l3 c3,.slice A4 l4 c4,.slice A5 l5 c5,.slice A6 l6 c6]),.int .i64 1])) (cl Tryz.prog (.func (.func 186) #[] #[]) #[(.agg #[.slice A3 l3 c3,.slice A4 l4 c4,.slice A5 l5 c5,.slice A6 l6 c6]),.int .i64 day] σ10 (fun v12 σ13=>
  ∃ A14:Option Addr,∃ l14 c14:Nat,∃ A15:Option Addr,∃ l15 c15:Nat,∃ A16:Option Addr,∃ l16 c16:Nat,∃ A17:Option Addr,∃ l17 c17:Nat,(v12=(.agg #[.slice A14 l14 c14,.slice A15 l15 c15,.slice A16 l16 c16,.slice A17 l17 c17]) /\
  rt σ13 R (.tuple #[(.agg #[.slice A14 l14 c14,.slice A15 l15 c15,.slice A16 l16 c16,.slice A17 l17 c17]),.int .i64 0])))))))))
def Lm:MAn:=(.seq (.txt []) (.seq (.txt []) (.seq (.block (.seq (.txt []) (.cond (.seq (.txt []) .leaf) (.seq (.txt []) (.cond (.seq (.txt []) .leaf) .leaf))))) (.seq (.txt []) .leaf))))
theorem Lw (σ:Hp) (s0:Option Addr) (p0 q0:Nat) (t0:Option Addr) (r0 u0:Nat) (o0:Option Addr) (m0 n0:Nat) (x0:Option Addr) (w0 y0:Nat) (day:Int) (R:Value->Hp->Prop) (h:EN σ s0 p0 q0 t0 r0 u0 o0 m0 n0 x0 w0 y0 day R):Ae Tryz.prog 130 #[(.agg #[.slice s0 p0 q0,.slice t0 r0 u0,.slice o0 m0 n0]),.slice x0 w0 y0,.int .i64 day] σ R:=
 Ad AL Lm Tryz.func130 rfl (by kernel_rfl) (by kernel_rfl) (by kernel_rfl) h
theorem IW:Ao Tryz.prog 130=true:=by kernel_rfl
abbrev Mr:FuncId:=249
def DW (σ:Hp) (e0:Option Addr) (d0 i0:Nat) (g0:Option Addr) (f0 h0:Nat) (b0:Option Addr) (a0 c0:Nat) (k0:Option Addr) (j0 l0:Nat) (R:Value->Hp->Prop):Prop:=
 cut (α:=Option Addr->Nat->Nat->Hp->Prop) (fun A4 l4 c4 σ2=>∀ _:Nat->Value,rt σ2 R (.slice A4 l4 c4)) (fun J3=>
  ∃ I7:Nat->Option Addr->Nat->Nat->Int->Hp->Prop,(∃ n80,I7 n80 none 0 0 0 σ)/\∀ n8:Nat,∀ A9:Option Addr,∀ l9 c9:Nat,∀ n10:Int,∀ σ6:Hp,I7 n8 A9 l9 c9 n10 σ6->∀ _:Nat->Value,bc (decide (n10<((j0:Nat):Int))) (cut (α:=Option Addr->Nat->Nat->Hp->Prop) (fun A14 l14 c14 σ12=>
  ∀ _:Nat->Value,wk .i64 (n10+1) (fun n15=>bk σ12 n8 (fun m16 σ17=>I7 m16 A14 l14 c14 n15 σ17))) (fun J13=>
  ix k0 j0 n10 5 (fun b18 a19=>ldI σ6 .i64 b18 a19 (fun _=>ldI σ6 .i64 b18 (a19+1) (fun n21=>
  ldI σ6 .i64 b18 (a19+2) (fun _=>ldI σ6 .i64 b18 (a19+3) (fun _=>ldI σ6 .i64 b18 (a19+4) (fun _=>
  cut (α:=Bool->Hp->Prop) (fun t28 σ26=>∀ _:Nat->Value,bc t28 (adp 3 [.int .i64] A9 l9 c9 σ26 (fun (xs29:List Int) σ30=>
  B0 (List.length xs29+List.length ([n10]:List Int)) (exl 3 [.int .i64] (xs29++([n10]:List Int)) σ30 (fun A31 l31 c31 σ32=>
  J13 A31 l31 c31 σ32)))) (J13 A9 l9 c9 σ26)) (fun J27=>bc (decide (n21=2)) (cl Tryz.prog (.func (.func 244) #[] #[]) #[(.agg #[.slice e0 d0 i0,.slice g0 f0 h0,.slice b0 a0 c0,.slice k0 j0 l0]),.int .i64 n10] σ6 (fun v33 σ34=>
  ∃ t35:Bool,(v33=(.bool t35)/\J27 (!t35) σ34))) (J27 false σ6)))))))))) (J3 A9 l9 c9 σ6))
def JM:MAn:=(.seq (.txt []) (.cut ⟨[true],1,[.slot 2 (.sc (.slc))],[]⟩ (.seq (.txt []) (.block (.loop ⟨[true],1,[.slot 1 (.hb 0 0),.slot 2 (.sc (.slc)),.slot 8 (.sc (.int .i64))],[(6,true),(7,true)]⟩ (.seq (.txt []) (.seq (.cond .leaf .leaf) (.cut ⟨[true],1,[.slot 1 (.hb 0 0),.slot 2 (.sc (.slc))],[(6,true),(7,true),(8,true)]⟩ (.block (.seq (.txt []) (.cut ⟨[true,true],2,[.slot 1 (.hb 0 0),.slot 21 (.sc (.bool))],[(2,true),(3,true),(6,true),(7,true),(8,true)]⟩ (.txt [⟨[],false,[]⟩,⟨[],false,[]⟩,⟨[],false,[]⟩,⟨[],true,[]⟩]) (.cond (.txt []) .leaf)))) (.txt []))))))) (.seq (.txt []) .leaf)))
theorem Kb (σ:Hp) (e0:Option Addr) (d0 i0:Nat) (g0:Option Addr) (f0 h0:Nat) (b0:Option Addr) (a0 c0:Nat) (k0:Option Addr) (j0 l0:Nat) (R:Value->Hp->Prop) (h:DW σ e0 d0 i0 g0 f0 h0 b0 a0 c0 k0 j0 l0 R):Ae Tryz.prog 249 #[(.agg #[.slice e0 d0 i0,.slice g0 f0 h0,.slice b0 a0 c0,.slice k0 j0 l0])] σ R:=
 Ad AL JM Tryz.func249 rfl (by kernel_rfl) (by kernel_rfl) (by kernel_rfl) h
theorem Ha:Ao Tryz.prog 249=true:=by kernel_rfl
abbrev J1:FuncId:=188
def Cm (σ:Hp) (e0:Option Addr) (d0 i0:Nat) (g0:Option Addr) (f0 h0:Nat) (b0:Option Addr) (a0 c0:Nat) (k0:Option Addr) (j0 l0:Nat) (ride:Int) (R:Value->Hp->Prop):Prop:=
 cut (α:=Int->Hp->Prop) (fun n4 σ2=>∀ _:Nat->Value,rt σ2 R (.int .i64 n4)) (fun J3=>∃ I7:Nat->Int->Int->Hp->Prop,(∃ n80,I7 n80 10000 0 σ) /\
  ∀ n8:Nat,∀ n9 n10:Int,∀ σ6:Hp,I7 n8 n9 n10 σ6->∀ _:Nat->Value,bc (decide (n10<((d0:Nat):Int))) (cut (α:=Int->Hp->Prop) (fun n14 σ12=>
  ∀ _:Nat->Value,wk .i64 (n10+1) (fun n15=>bk σ12 n8 (fun m16 σ17=>I7 m16 n14 n15 σ17))) (fun J13=>
  ix e0 d0 n10 4 (fun b18 a19=>ldI σ6 .i64 b18 a19 (fun n20=>ldI σ6 .i64 b18 (a19+1) (fun _=>
  ldI σ6 .i64 b18 (a19+2) (fun _=>ldB σ6 b18 (a19+3) (fun _=>bc (decide (n20=ride)) (cl Tryz.prog (.func (.func 248) #[] #[]) #[(.agg #[.slice e0 d0 i0,.slice g0 f0 h0,.slice b0 a0 c0,.slice k0 j0 l0]),.int .i64 n10] σ6 (fun v24 σ25=>
  ∃ n26:Int,(v24=(.int .i64 n26)/\J13 (if n26<n9 then n26 else n9) σ25))) (J13 n9 σ6)))))))) (J3 n9 σ6))
def Hv:MAn:=(.seq (.txt []) (.seq (.txt []) (.cut ⟨[true],1,[.slot 5 (.sc (.int .i64))],[]⟩ (.seq (.txt []) (.block (.loop ⟨[true],1,[.slot 2 (.hb 0 0),.slot 5 (.sc (.int .i64)),.slot 12 (.sc (.int .i64))],[(1,true),(10,true),(11,true)]⟩ (.seq (.txt []) (.seq (.cond .leaf .leaf) (.cut ⟨[true],1,[.slot 2 (.hb 0 0),.slot 5 (.sc (.int .i64))],[(1,true),(10,true),(11,true),(12,true)]⟩ (.block (.seq (.txt []) (.seq (.txt []) (.cond (.txt []) .leaf)))) (.txt []))))))) (.seq (.txt []) .leaf))))
theorem Hs (σ:Hp) (e0:Option Addr) (d0 i0:Nat) (g0:Option Addr) (f0 h0:Nat) (b0:Option Addr) (a0 c0:Nat) (k0:Option Addr) (j0 l0:Nat) (ride:Int) (R:Value->Hp->Prop) (h:Cm σ e0 d0 i0 g0 f0 h0 b0 a0 c0 k0 j0 l0 ride R):Ae Tryz.prog 188 #[(.agg #[.slice e0 d0 i0,.slice g0 f0 h0,.slice b0 a0 c0,.slice k0 j0 l0]),.int .i64 ride] σ R:=
 Ad AL Hv Tryz.func188 rfl (by kernel_rfl) (by kernel_rfl) (by kernel_rfl) h
theorem FX:Ao Tryz.prog 188=true:=by kernel_rfl
abbrev LB:FuncId:=189
def Dm (σ:Hp) (e0:Option Addr) (d0 i0:Nat) (g0:Option Addr) (f0 h0:Nat) (b0:Option Addr) (a0 c0:Nat) (k0:Option Addr) (j0 l0:Nat) (ride:Int) (R:Value->Hp->Prop):Prop:=
 bx σ (.cells #[.int .i64 0,.int .i64 0,.int .i64 0,.int .i64 0] 299) (fun b1 σ2=>cut (α:=Hp->Prop) (fun  σ4=>
  ∀ _:Nat->Value,ix (some ⟨b1,0,none⟩) 4 3 1 (fun b6 a7=>ldI σ4 .i64 b6 a7 (fun n8=>bc (decide (n8=0)) (ix (some ⟨b1,0,none⟩) 4 2 1 (fun b9 a10=>
  ldI σ4 .i64 b9 a10 (fun n11=>rt σ4 R (.bool (decide (n11<=1)))))) (rt σ4 R (.bool false))))) (fun J5=>
  cl Tryz.prog (.func (.func 249) #[] #[]) #[(.agg #[.slice e0 d0 i0,.slice g0 f0 h0,.slice b0 a0 c0,.slice k0 j0 l0])] σ2 (fun v12 σ13=>
  ∃ A14:Option Addr,∃ l14 c14:Nat,(v12=(.slice A14 l14 c14)/\∃ I17:Nat->Int->Hp->Prop,(∃ n180,I17 n180 0 σ13) /\
  ∀ n18:Nat,∀ n19:Int,∀ σ16:Hp,I17 n18 n19 σ16->∀ _:Nat->Value,bc (decide (n19<((l14:Nat):Int))) (cut (α:=Hp->Prop) (fun  σ21=>
  ∀ _:Nat->Value,wk .i64 (n19+1) (fun n23=>bk σ21 n18 (fun m24 σ25=>I17 m24 n23 σ25))) (fun J22=>
  ix A14 l14 n19 1 (fun b26 a27=>ldI σ16 .i64 b26 a27 (fun n28=>ix k0 j0 n28 5 (fun b29 a30=>
  ldI σ16 .i64 b29 a30 (fun _=>ldI σ16 .i64 b29 (a30+1) (fun _=>ldI σ16 .i64 b29 (a30+2) (fun n33=>
  ldI σ16 .i64 b29 (a30+3) (fun n34=>ldI σ16 .i64 b29 (a30+4) (fun _=>bc (decide (n33=ride)) (ix (some ⟨b1,0,none⟩) 4 n34 1 (fun b36 a37=>
  ldI σ16 .i64 b36 a37 (fun n38=>wk .i64 (n38+1) (fun n39=>ix (some ⟨b1,0,none⟩) 4 n34 1 (fun b40 a41=>
  st σ16 b40 a41 (.int .i64 n39) (fun σ42=>J22 σ42)))))) (J22 σ16))))))))))) (J5 σ16)))))
def Jd:MAn:=(.seq (.txt []) (.seq (.txt [⟨[.raw],false,[]⟩]) (.cut ⟨[true],1,[],[(5,true)]⟩ (.seq (.txt []) (.block (.loop ⟨[true],1,[.slot 2 (.hb 0 0),.slot 12 (.sc (.int .i64))],[(1,true),(5,true),(10,true),(11,true)]⟩ (.seq (.txt []) (.seq (.cond .leaf .leaf) (.cut ⟨[true],1,[.slot 2 (.hb 0 0)],[(1,true),(5,true),(10,true),(11,true),(12,true)]⟩ (.block (.seq (.txt []) (.seq (.txt []) (.seq (.txt []) (.cond (.txt []) .leaf))))) (.txt []))))))) (.seq (.txt [⟨[],false,[]⟩,⟨[],false,[]⟩,⟨[],false,[]⟩,⟨[],true,[]⟩]) .leaf))))
theorem IP (σ:Hp) (e0:Option Addr) (d0 i0:Nat) (g0:Option Addr) (f0 h0:Nat) (b0:Option Addr) (a0 c0:Nat) (k0:Option Addr) (j0 l0:Nat) (ride:Int) (R:Value->Hp->Prop) (h:Dm σ e0 d0 i0 g0 f0 h0 b0 a0 c0 k0 j0 l0 ride R):Ae Tryz.prog 189 #[(.agg #[.slice e0 d0 i0,.slice g0 f0 h0,.slice b0 a0 c0,.slice k0 j0 l0]),.int .i64 ride] σ R:=
 Ad AL Jd Tryz.func189 rfl (by kernel_rfl) (by kernel_rfl) (by kernel_rfl) h
theorem GU:Ao Tryz.prog 189=true:=by kernel_rfl
abbrev JS:FuncId:=192
def Cz (σ:Hp) (e0:Option Addr) (d0 i0:Nat) (g0:Option Addr) (f0 h0:Nat) (b0:Option Addr) (a0 c0:Nat) (k0:Option Addr) (j0 l0:Nat) (ride:Int) (R:Value->Hp->Prop):Prop:=
 cut (α:=Option Addr->Option Addr->Hp->Prop) (fun p4 p5 σ2=>∀ _:Nat->Value,dr p4 (fun b6 o7=>
  ldI σ2 .i64 b6 o7 (fun n8=>ix b0 a0 n8 1 (fun b9 a10=>ldI σ2 .i64 b9 a10 (fun n11=>
  dr p5 (fun b12 o13=>st σ2 b12 o13 (.int .i64 n11) (fun σ14=>dr p5 (fun b15 o16=>ldI σ14 .i64 b15 o16 (fun n17=>
  rt σ14 R (.int .i64 n17)))))))))) (fun J3=>cl Tryz.prog (.func (.func 250) #[] #[]) #[(.agg #[.slice e0 d0 i0,.slice g0 f0 h0,.slice b0 a0 c0,.slice k0 j0 l0])] σ (fun v18 σ19=>
  ∃ v20:Value,(v18=v20/\bx σ19 (.cells #[.int .i64 ride] 3) (fun b21 σ22=>bx σ22 (.cells #[.int .i64 0] 3) (fun b23 σ24=>
  Xi Tryz.prog v20 σ24 (fun l25 Rec26 ag27 σ28 R29=>∃ n33 n34:Int,∃ n35 n36 n37:Int,(ag27=#[(.agg #[.int .i64 n33,.int .i64 n34,.int .i64 n35,.int .i64 n36,.int .i64 n37])] /\
  ∀ _:Nat->Value,rgb l25 Rec26 σ28 (fun σ38=>cut (α:=Bool->Hp->Prop) (fun t42 σ40=>∀ _:Nat->Value,
  bc t42 (st σ40 b23 0 (.int .i64 n36) (fun σ43=>rgx l25 Rec26 R29 σ43 .ret)) (rgo l25 Rec26 R29 σ40)) (fun J41=>
  bc (decide (n34=5)) (ldI σ38 .i64 b21 0 (fun n44=>J41 (decide (n35=n44)) σ38)) (J41 false σ38))))) (fun p30 σ31=>
  aft p30 (J3 (some ⟨b21,0,none⟩) (some ⟨b23,0,none⟩) σ31) (ldI σ31 .i64 b23 0 (fun n45=>rt σ31 R (.int .i64 n45))) (fun i=>
  exb i 0 (J3 (some ⟨b21,0,none⟩) (some ⟨b23,0,none⟩) σ31) (False))))))))
def HO:MAn:=(.seq (.txt []) (.cut ⟨[true,false,false],3,[.slot 2 (.hb 0 0),.slot 3 (.sc (.ptr)),.slot 4 (.sc (.ptr))],[]⟩ (.seq (.txt []) (.block (.rng [.exp 3,.exp 4] [(3,true),(4,true)] [136] (.txt []) (.block (.cut ⟨[true],1,[.slot 5 (.hb 0 0),.slot 17 (.sc (.bool))],[(4,true)]⟩ (.txt [⟨[],false,[]⟩,⟨[],false,[]⟩,⟨[],false,[]⟩,⟨[],true,[]⟩]) (.cond (.seq (.txt []) .leaf) .leaf)))))) (.seq (.txt []) .leaf)))
theorem Hj (σ:Hp) (e0:Option Addr) (d0 i0:Nat) (g0:Option Addr) (f0 h0:Nat) (b0:Option Addr) (a0 c0:Nat) (k0:Option Addr) (j0 l0:Nat) (ride:Int) (R:Value->Hp->Prop) (h:Cz σ e0 d0 i0 g0 f0 h0 b0 a0 c0 k0 j0 l0 ride R):Ae Tryz.prog 192 #[(.agg #[.slice e0 d0 i0,.slice g0 f0 h0,.slice b0 a0 c0,.slice k0 j0 l0]),.int .i64 ride] σ R:=
 Ad AL HO Tryz.func192 rfl (by kernel_rfl) (by kernel_rfl) (by kernel_rfl) h
theorem FM:Ao Tryz.prog 192=true:=by kernel_rfl
abbrev MH:FuncId:=131
def Eb (σ:Hp) (e0:Option Addr) (d0 i0:Nat) (g0:Option Addr) (f0 h0:Nat) (b0:Option Addr) (a0 c0:Nat) (k0:Option Addr) (j0 l0:Nat) (ride day:Int) (R:Value->Hp->Prop):Prop:=
 bx σ (.cells #[.slice none 0 0] 26) (fun b1 σ2=>cl Tryz.prog (.func (.func 188) #[] #[]) #[(.agg #[.slice e0 d0 i0,.slice g0 f0 h0,.slice b0 a0 c0,.slice k0 j0 l0]),.int .i64 ride] σ2 (fun v3 σ4=>
  ∃ n5:Int,(v3=(.int .i64 n5)/\cl Tryz.prog (.func (.func 187) #[] #[(.pointer (some ⟨b1,0,none⟩))]) #[.int .i64 1,(.bool (decide (n5<day)))] σ4 (fun _ σ7=>
  cl Tryz.prog (.func (.func 189) #[] #[]) #[(.agg #[.slice e0 d0 i0,.slice g0 f0 h0,.slice b0 a0 c0,.slice k0 j0 l0]),.int .i64 ride] σ7 (fun v8 σ9=>
  ∃ t10:Bool,(v8=(.bool t10)/\cl Tryz.prog (.func (.func 187) #[] #[(.pointer (some ⟨b1,0,none⟩))]) #[.int .i64 2,(.bool (!t10))] σ9 (fun _ σ12=>
  bx σ12 (.cells #[.int .i64 ride] 3) (fun b13 σ14=>cl Tryz.prog (.func (.func 190) #[] #[]) #[(.agg #[.slice e0 d0 i0,.slice g0 f0 h0,.slice b0 a0 c0,.slice k0 j0 l0]),.int .i64 ride,(.func (.func 191) #[] #[(.pointer (some ⟨b13,0,none⟩))])] σ14 (fun v15 σ16=>
  ∃ n17:Int,(v15=(.int .i64 n17)/\cl Tryz.prog (.func (.func 187) #[] #[(.pointer (some ⟨b1,0,none⟩))]) #[.int .i64 3,(.bool (!decide (n17=day)))] σ16 (fun _ σ19=>
  ldI σ19 .i64 b13 0 (fun n20=>cl Tryz.prog (.func (.func 192) #[] #[]) #[(.agg #[.slice e0 d0 i0,.slice g0 f0 h0,.slice b0 a0 c0,.slice k0 j0 l0]),.int .i64 n20] σ19 (fun v21 σ22=>
  ∃ n23:Int,(v21=(.int .i64 n23)/\cl Tryz.prog (.func (.func 187) #[] #[(.pointer (some ⟨b1,0,none⟩))]) #[.int .i64 4,(.bool (decide (n23<day)))] σ22 (fun _ σ25=>
  ldS σ25 b1 0 (fun A26 l26 c26=>st σ25 b1 0 (.slice A26 l26 c26) (fun σ27=>ldS σ27 b1 0 (fun A28 l28 c28=>
  rt σ27 R (.slice A28 l28 c28)))))))))))))))))))
def Kw:MAn:=(.seq (.txt []) (.seq (.txt []) (.seq (.txt []) (.seq (.txt []) (.seq (.txt []) (.seq (.txt []) (.seq (.txt []) .leaf)))))))
theorem KU (σ:Hp) (e0:Option Addr) (d0 i0:Nat) (g0:Option Addr) (f0 h0:Nat) (b0:Option Addr) (a0 c0:Nat) (k0:Option Addr) (j0 l0:Nat) (ride day:Int) (R:Value->Hp->Prop) (h:Eb σ e0 d0 i0 g0 f0 h0 b0 a0 c0 k0 j0 l0 ride day R):Ae Tryz.prog 131 #[(.agg #[.slice e0 d0 i0,.slice g0 f0 h0,.slice b0 a0 c0,.slice k0 j0 l0]),.int .i64 ride,.int .i64 day] σ R:=
 Ad AL Kw Tryz.func131 rfl (by kernel_rfl) (by kernel_rfl) (by kernel_rfl) h
theorem HZ:Ao Tryz.prog 131=true:=by kernel_rfl
abbrev FK:FuncId:=187
def De (σ:Hp) (reason:Int) (is:Bool) (cap0:Option Addr) (R:Value->Hp->Prop):Prop:=
 bc is (dr cap0 (fun b1 o2=>ldS σ b1 o2 (fun A3 l3 c3=>adp 3 [.int .i64] A3 l3 c3 σ (fun (xs4:List Int) σ5=>
  B0 (List.length xs4+List.length ([reason]:List Int)) (exl 3 [.int .i64] (xs4++([reason]:List Int)) σ5 (fun A6 l6 c6 σ7=>
  dr cap0 (fun b8 o9=>st σ7 b8 o9 (.slice A6 l6 c6) (fun σ10=>rt σ10 R (.tuple #[]))))))))) (rt σ R (.tuple #[]))
def Jv:MAn:=(.seq (.txt []) (.cond (.txt []) .leaf))
theorem Jg (σ:Hp) (reason:Int) (is:Bool) (cap0:Option Addr) (R:Value->Hp->Prop) (h:De σ reason is cap0 R):Ae Tryz.prog 187 #[.int .i64 reason,.bool is,.pointer cap0] σ R:=
 Ad AL Jv Tryz.func187 rfl (by kernel_rfl) (by kernel_rfl) (by kernel_rfl) h
theorem GK:Ao Tryz.prog 187=true:=by kernel_rfl
def Db (σ:Hp) (_ v0 x_A _ _:Int) (cap0:Option Addr) (R:Value->Hp->Prop):Prop:=
 bc (decide (v0=4)) (dr cap0 (fun b1 o2=>ldI σ .i64 b1 o2 (fun n3=>rt σ R (.bool (decide (x_A=n3)))))) (rt σ R (.bool false))
def Ja:MAn:=(.seq (.txt []) (.seq (.txt [⟨[],false,[]⟩,⟨[],false,[]⟩,⟨[],false,[]⟩,⟨[],true,[]⟩]) .leaf))
theorem I3 (σ:Hp) (z0 v0 x_A x_B x_C:Int) (cap0:Option Addr) (R:Value->Hp->Prop) (h:Db σ z0 v0 x_A x_B x_C cap0 R):Ae Tryz.prog 191 #[(.agg #[.int .i64 z0,.int .i64 v0,.int .i64 x_A,.int .i64 x_B,.int .i64 x_C]),.pointer cap0] σ R:=
 Ad AL Ja Tryz.func191 rfl (by kernel_rfl) (by kernel_rfl) (by kernel_rfl) h
theorem GQ:Ao Tryz.prog 191=true:=by kernel_rfl
abbrev MD:FuncId:=74
def DF (σ:Hp) (s0:Option Addr) (p0 q0:Nat) (t0:Option Addr) (r0 u0:Nat) (o0:Option Addr) (m0 n0:Nat) (x0:Option Addr) (w0 y0:Nat) (day:Int) (R:Value->Hp->Prop):Prop:=
 cl Tryz.prog (.func (.func 130) #[] #[]) #[(.agg #[.slice s0 p0 q0,.slice t0 r0 u0,.slice o0 m0 n0]),.slice x0 w0 y0,.int .i64 day] σ (fun v1 σ2=>
  ∃ A3:Option Addr,∃ l3 c3:Nat,∃ A4:Option Addr,∃ l4 c4:Nat,∃ A5:Option Addr,∃ l5 c5:Nat,∃ A6:Option Addr,∃ l6 c6:Nat,∃ n7:Int,(v1=(.tuple #[(.agg #[.slice A3 l3 c3,.slice A4 l4 c4,.slice A5 l5 c5,.slice A6 l6 c6]),.int .i64 n7]) /\
  bc (!decide (n7=0)) (rt σ2 R (.tuple #[.slice none 0 0,.int .i64 n7])) (cut (α:=Option Addr->Nat->Nat->Hp->Prop) (fun A11 l11 c11 σ9=>
  ∀ _:Nat->Value,rt σ9 R (.tuple #[.slice A11 l11 c11,.int .i64 0])) (fun J10=>∃ I14:Nat->Option Addr->Nat->Nat->Int->Hp->Prop,(∃ n150,I14 n150 none 0 0 0 σ2) /\
  ∀ n15:Nat,∀ A16:Option Addr,∀ l16 c16:Nat,∀ n17:Int,∀ σ13:Hp,I14 n15 A16 l16 c16 n17 σ13->∀ _:Nat->Value,bc (decide (n17<((l5:Nat):Int))) (cut (α:=Option Addr->Nat->Nat->Hp->Prop) (fun A21 l21 c21 σ19=>
  ∀ _:Nat->Value,wk .i64 (n17+1) (fun n22=>bk σ19 n15 (fun m23 σ24=>I14 m23 A21 l21 c21 n22 σ24))) (fun J20=>
  cl Tryz.prog (.func (.func 131) #[] #[]) #[(.agg #[.slice A3 l3 c3,.slice A4 l4 c4,.slice A5 l5 c5,.slice A6 l6 c6]),.int .i64 n17,.int .i64 day] σ13 (fun v25 σ26=>
  ∃ A27:Option Addr,∃ l27 c27:Nat,(v25=(.slice A27 l27 c27)/\bc (decide (((l27:Nat):Int)=0)) (adp 3 [.int .i64] A16 l16 c16 σ26 (fun (xs28:List Int) σ29=>
  B0 (List.length xs28+List.length ([n17]:List Int)) (exl 3 [.int .i64] (xs28++([n17]:List Int)) σ29 (fun A30 l30 c30 σ31=>
  J20 A30 l30 c30 σ31)))) (J20 A16 l16 c16 σ26))))) (J10 A16 l16 c16 σ13)))))
def JQ:MAn:=(.seq (.txt []) (.seq (.txt []) (.seq (.seq (.txt []) (.cond (.seq (.txt []) .leaf) .leaf)) (.cut ⟨[true,true],2,[.slot 6 (.sc (.slc))],[]⟩ (.seq (.txt []) (.block (.loop ⟨[true,true],2,[.slot 6 (.sc (.slc)),.slot 8 (.hb 1 0),.slot 24 (.sc (.int .i64))],[(2,true),(23,true)]⟩ (.seq (.txt []) (.seq (.cond .leaf .leaf) (.cut ⟨[true,true],2,[.slot 6 (.sc (.slc)),.slot 8 (.hb 1 0)],[(2,true),(23,true),(24,true)]⟩ (.block (.seq (.txt []) (.seq (.txt []) (.cond (.txt []) .leaf)))) (.txt []))))))) (.seq (.txt []) .leaf)))))
theorem JK (σ:Hp) (s0:Option Addr) (p0 q0:Nat) (t0:Option Addr) (r0 u0:Nat) (o0:Option Addr) (m0 n0:Nat) (x0:Option Addr) (w0 y0:Nat) (day:Int) (R:Value->Hp->Prop) (h:DF σ s0 p0 q0 t0 r0 u0 o0 m0 n0 x0 w0 y0 day R):Ae Tryz.prog 74 #[(.agg #[.slice s0 p0 q0,.slice t0 r0 u0,.slice o0 m0 n0]),.slice x0 w0 y0,.int .i64 day] σ R:=
 Ad AL JQ Tryz.func74 rfl (by kernel_rfl) (by kernel_rfl) (by kernel_rfl) h
theorem HL:Ao Tryz.prog 74=true:=by kernel_rfl
abbrev EY:FuncId:=238
def BA (σ:Hp) (s_A:Option Addr) (s_n s_c:Nat) (f:Value) (R:Value->Hp->Prop):Prop:=
 cl Tryz.prog (.func (.func 270) #[] #[]) #[.slice s_A s_n s_c,f] σ (fun v1 σ2=>∃ n3:Int,(v1=(.int .i64 n3) /\
  rt σ2 R (.bool (decide ((0:Int)<=n3)))))
def D6:MAn:=(.seq (.txt []) (.seq (.txt []) .leaf))
theorem D7 (σ:Hp) (s_A:Option Addr) (s_n s_c:Nat) (f:Value) (R:Value->Hp->Prop) (h:BA σ s_A s_n s_c f R):Ae Tryz.prog 238 #[.slice s_A s_n s_c,f] σ R:=
 Ad AL D6 Tryz.func238 rfl (by kernel_rfl) (by kernel_rfl) (by kernel_rfl) h
theorem Dj:Ao Tryz.prog 238=true:=by kernel_rfl
abbrev F2:FuncId:=270
def BP (σ:Hp) (s_A:Option Addr) (s_n _:Nat) (f:Value) (R:Value->Hp->Prop):Prop:=
 cut (α:=Hp->Prop) (fun  σ2=>∀ _:Nat->Value,rt σ2 R (.int .i64 (-1))) (fun J3=>∃ I6:Nat->Int->Hp->Prop,(∃ n70,I6 n70 0 σ) /\
  ∀ n7:Nat,∀ n8:Int,∀ σ5:Hp,I6 n7 n8 σ5->∀ _:Nat->Value,bc (decide (n8<((s_n:Nat):Int))) (ix s_A s_n n8 4 (fun b9 a10=>
  ldI σ5 .i64 b9 a10 (fun n11=>ldI σ5 .i64 b9 (a10+1) (fun n12=>ldI σ5 .i64 b9 (a10+2) (fun n13=>
  ldB σ5 b9 (a10+3) (fun t14=>cl Tryz.prog f #[(.agg #[.int .i64 n11,.int .i64 n12,.int .i64 n13,.bool t14])] σ5 (fun v15 σ16=>
  ∃ t17:Bool,(v15=(.bool t17)/\bc t17 (rt σ16 R (.int .i64 n8)) (wk .i64 (n8+1) (fun n18=>bk σ16 n7 (fun m19 σ20=>
  I6 m19 n18 σ20))))))))))) (J3 σ5))
def E1:MAn:=(.seq (.txt []) (.cut ⟨[],0,[],[]⟩ (.seq (.txt []) (.block (.loop ⟨[],0,[.slot 8 (.sc (.int .i64))],[(0,true),(1,false),(7,true)]⟩ (.seq (.txt []) (.seq (.cond .leaf .leaf) (.seq (.block (.seq (.txt []) (.seq (.txt []) (.cond (.seq (.txt []) .leaf) .leaf)))) (.txt []))))))) (.seq (.txt []) .leaf)))
theorem E5 (σ:Hp) (s_A:Option Addr) (s_n s_c:Nat) (f:Value) (R:Value->Hp->Prop) (h:BP σ s_A s_n s_c f R):Ae Tryz.prog 270 #[.slice s_A s_n s_c,f] σ R:=
 Ad AL E1 Tryz.func270 rfl (by kernel_rfl) (by kernel_rfl) (by kernel_rfl) h
theorem Ea:Ao Tryz.prog 270=true:=by kernel_rfl
abbrev EB:FuncId:=272
def Bu (σ:Hp) (s_A:Option Addr) (s_n s_c:Nat) (f:Value) (R:Value->Hp->Prop):Prop:=
 cl Tryz.prog (.func (.func 246) #[] #[]) #[.slice s_A s_n s_c,f] σ (fun v1 σ2=>∃ n3:Int,(v1=(.int .i64 n3) /\
  rt σ2 R (.bool (decide ((0:Int)<=n3)))))
def DL:MAn:=(.seq (.txt []) (.seq (.txt []) .leaf))
theorem DS (σ:Hp) (s_A:Option Addr) (s_n s_c:Nat) (f:Value) (R:Value->Hp->Prop) (h:Bu σ s_A s_n s_c f R):Ae Tryz.prog 272 #[.slice s_A s_n s_c,f] σ R:=
 Ad AL DL Tryz.func272 rfl (by kernel_rfl) (by kernel_rfl) (by kernel_rfl) h
theorem CZ:Ao Tryz.prog 272=true:=by kernel_rfl
abbrev Fo:FuncId:=246
def BM (σ:Hp) (s_A:Option Addr) (s_n _:Nat) (f:Value) (R:Value->Hp->Prop):Prop:=
 cut (α:=Hp->Prop) (fun  σ2=>∀ _:Nat->Value,rt σ2 R (.int .i64 (-1))) (fun J3=>∃ I6:Nat->Int->Hp->Prop,(∃ n70,I6 n70 0 σ) /\
  ∀ n7:Nat,∀ n8:Int,∀ σ5:Hp,I6 n7 n8 σ5->∀ _:Nat->Value,bc (decide (n8<((s_n:Nat):Int))) (ix s_A s_n n8 5 (fun b9 a10=>
  ldI σ5 .i64 b9 a10 (fun n11=>ldI σ5 .i64 b9 (a10+1) (fun n12=>ldI σ5 .i64 b9 (a10+2) (fun n13=>
  ldI σ5 .i64 b9 (a10+3) (fun n14=>ldI σ5 .i64 b9 (a10+4) (fun n15=>cl Tryz.prog f #[(.agg #[.int .i64 n11,.int .i64 n12,.int .i64 n13,.int .i64 n14,.int .i64 n15])] σ5 (fun v16 σ17=>
  ∃ t18:Bool,(v16=(.bool t18)/\bc t18 (rt σ17 R (.int .i64 n8)) (wk .i64 (n8+1) (fun n19=>bk σ17 n7 (fun m20 σ21=>
  I6 m20 n19 σ21)))))))))))) (J3 σ5))
def EH:MAn:=(.seq (.txt []) (.cut ⟨[],0,[],[]⟩ (.seq (.txt []) (.block (.loop ⟨[],0,[.slot 8 (.sc (.int .i64))],[(0,true),(1,false),(7,true)]⟩ (.seq (.txt []) (.seq (.cond .leaf .leaf) (.seq (.block (.seq (.txt []) (.seq (.txt []) (.cond (.seq (.txt []) .leaf) .leaf)))) (.txt []))))))) (.seq (.txt []) .leaf)))
theorem Ez (σ:Hp) (s_A:Option Addr) (s_n s_c:Nat) (f:Value) (R:Value->Hp->Prop) (h:BM σ s_A s_n s_c f R):Ae Tryz.prog 246 #[.slice s_A s_n s_c,f] σ R:=
 Ad AL EH Tryz.func246 rfl (by kernel_rfl) (by kernel_rfl) (by kernel_rfl) h
theorem BS:Ao Tryz.prog 246=true:=by kernel_rfl
abbrev FR:FuncId:=276
def CD (σ:Hp) (s_A:Option Addr) (s_n s_c:Nat) (R:Value->Hp->Prop):Prop:=
 bx σ (.cells #[.slice s_A s_n s_c] 29) (fun b1 σ2=>rt σ2 R (.func (.func 291) #[] #[(.pointer (some ⟨b1,0,none⟩))]))
def E0:MAn:=(.seq (.txt []) (.seq (.txt []) .leaf))
theorem ES (σ:Hp) (s_A:Option Addr) (s_n s_c:Nat) (R:Value->Hp->Prop) (h:CD σ s_A s_n s_c R):Ae Tryz.prog 276 #[.slice s_A s_n s_c] σ R:=
 Ad AL E0 Tryz.func276 rfl (by kernel_rfl) (by kernel_rfl) (by kernel_rfl) h
theorem D8:Ao Tryz.prog 276=true:=by kernel_rfl
abbrev Cb:FuncId:=291
def BG (σ:Hp) (yield:Value) (cap0:Option Addr) (R:Value->Hp->Prop):Prop:=
 dr cap0 (fun b1 o2=>ldS σ b1 o2 (fun _ l3 _=>wk .i64 (((l3:Nat):Int)-1) (fun n4=>∃ I8:Nat->Int->Hp->Prop,(∃ n90,I8 n90 n4 σ) /\
  ∀ n9:Nat,∀ n10:Int,∀ σ7:Hp,I8 n9 n10 σ7->∀ _:Nat->Value,bc (decide ((0:Int)<=n10)) (dr cap0 (fun b11 o12=>
  ldS σ7 b11 o12 (fun A13 l13 _=>ix A13 l13 n10 5 (fun b14 a15=>ldI σ7 .i64 b14 a15 (fun n16=>ldI σ7 .i64 b14 (a15+1) (fun n17=>
  ldI σ7 .i64 b14 (a15+2) (fun n18=>ldI σ7 .i64 b14 (a15+3) (fun n19=>ldI σ7 .i64 b14 (a15+4) (fun n20=>
  cl Tryz.prog yield #[.int .i64 n10,(.agg #[.int .i64 n16,.int .i64 n17,.int .i64 n18,.int .i64 n19,.int .i64 n20])] σ7 (fun v21 σ22=>
  ∃ t23:Bool,(v21=(.bool t23)/\bc (!t23) (rt σ22 R (.tuple #[])) (wk .i64 (n10-1) (fun n24=>bk σ22 n9 (fun m25 σ26=>
  I8 m25 n24 σ26)))))))))))))) (rt σ7 R (.tuple #[])))))
def Ee:MAn:=(.seq (.txt []) (.block (.loop ⟨[],0,[.slot 3 (.sc (.int .i64))],[(0,false),(1,true)]⟩ (.seq (.seq (.txt []) (.cond .leaf .leaf)) (.seq (.block (.seq (.txt []) (.cond .leaf .leaf))) (.txt []))))))
theorem Eo (σ:Hp) (yield:Value) (cap0:Option Addr) (R:Value->Hp->Prop) (h:BG σ yield cap0 R):Ae Tryz.prog 291 #[yield,.pointer cap0] σ R:=
 Ad AL Ee Tryz.func291 rfl (by kernel_rfl) (by kernel_rfl) (by kernel_rfl) h
theorem Dw:Ao Tryz.prog 291=true:=by kernel_rfl
end Go.Proofs.YtoelhdjloaknbaaGreat
