/- Trimmed by wip/trim.py to what this claim rests on. -/
import Derived.Test.YtoelhdjloaknbaaGreatVB11
namespace Go.Proofs.YtoelhdjloaknbaaGreat
set_option maxRecDepth 100000
open Go.RowKit
def tkVN3:Nat->Nat->OA->MPlan->MPlan
 |0,_,_,x=>x
 |n+1,i,a,x=>.take i a (tkVN3 n (i+1) a x)
theorem CL:Tryz.prog.follows .mixedOrders=true:=by kernel_rfl
abbrev Kk:FuncId:=35
def GA (σ:Hp) (n low high:Int) (R:Value->Hp->Prop):Prop:=
 bc (decide (low<=n)) (rt σ R (.bool (decide (n<=high)))) (rt σ R (.bool false))
def Nr:MAn:=(.seq (.txt []) (.seq (.txt [⟨[],false,[]⟩,⟨[],false,[]⟩,⟨[],false,[]⟩,⟨[],true,[]⟩]) .leaf))
theorem Nz (σ:Hp) (n low high:Int) (R:Value->Hp->Prop) (h:GA σ n low high R):Ae Tryz.prog 35 #[.int .i64 n,.int .i64 low,.int .i64 high] σ R:=
 Ad CL Nr Tryz.func35 rfl (by kernel_rfl) (by kernel_rfl) (by kernel_rfl) h
theorem KY:Ao Tryz.prog 35=true:=by kernel_rfl
abbrev QG:FuncId:=32
def Hi (σ:Hp) (e0:Option Addr) (a0 d0:Nat) (u0:Int) (m0:Option Addr) (o0 r0:Nat) (q0:Option Addr) (p0 t0:Nat) (l0:Option Addr) (g0 k0:Nat) (x0:Option Addr) (w0 y0:Nat) (g1:Int) (f0:Option Addr) (h0 c0:Nat) (i0:Option Addr) (b0 j0:Nat) (s0 v0 n0:Int) (a1:Option Addr) (z0 c1:Nat) (e1:Option Addr) (d1 f1:Nat) (R:Value->Hp->Prop):Prop:=
 cl Tryz.prog (.func (.func 68) #[] #[]) #[(.agg #[.slice e0 a0 d0,.int .i64 u0]),.slice none 0 0] σ (fun v1 σ2=>
  ∃ n3:Int,(v1=(.int .i64 n3)/\bc (!decide (n3=0)) (rt σ2 R (.int .i64 n3)) (cl Tryz.prog (.func (.func 69) #[] #[]) #[(.agg #[.slice m0 o0 r0,.slice q0 p0 t0,.slice l0 g0 k0]),.slice x0 w0 y0] σ2 (fun v4 σ5=>
  ∃ n6 n7:Int,(v4=(.tuple #[.int .i64 n6,.int .i64 n7])/\bc (!decide (n7=0)) (rt σ5 R (.int .i64 n7)) (cl Tryz.prog (.func (.func 70) #[] #[]) #[(.agg #[.slice f0 h0 c0,.slice i0 b0 j0,.int .i64 s0,.int .i64 v0,.int .i64 n0])] σ5 (fun v8 σ9=>
  ∃ n10:Int,(v8=(.int .i64 n10)/\bc (!decide (n10=0)) (rt σ9 R (.int .i64 n10)) (cut (α:=Hp->Prop) (fun  σ12=>
  ∀ _:Nat->Value,rt σ12 R (.int .i64 0)) (fun J13=>cut (α:=Bool->Hp->Prop) (fun t17 σ15=>
  ∀ _:Nat->Value,bc t17 (rt σ15 R (.int .i64 120)) (cut (α:=Bool->Hp->Prop) (fun t21 σ19=>∀ _:Nat->Value,
  bc t21 (rt σ19 R (.int .i64 120)) (J13 σ19)) (fun J20=>cl Tryz.prog (.func (.func 71) #[] #[]) #[.int .i64 200] σ15 (fun v22 σ23=>
  ∃ v24:Value,(v22=v24/\(Hp.Sub σ15 σ23/\cl Tryz.prog (.func (.func 33) #[] #[]) #[.slice a1 z0 c1,v24] σ23 (fun v25 σ26=>
  ∃ t27:Bool,(v25=(.bool t27)/\bc t27 (J20 t27 σ26) (cl Tryz.prog (.func (.func 71) #[] #[]) #[.int .i64 100] σ26 (fun v28 σ29=>
  ∃ v30:Value,(v28=v30/\(Hp.Sub σ26 σ29/\cl Tryz.prog (.func (.func 33) #[] #[]) #[.slice e1 d1 f1,v30] σ29 (fun v31 σ32=>
  ∃ t33:Bool,(v31=(.bool t33)/\J20 t33 σ32)))))))))))))) (fun J16=>bc (!decide (((g0:Nat):Int)=((a0:Nat):Int))) (J16 (!decide (((g0:Nat):Int)=((a0:Nat):Int))) σ9) (bc (!decide (((b0:Nat):Int)=((a0:Nat):Int))) (J16 (!decide (((b0:Nat):Int)=((a0:Nat):Int))) σ9) (bc (!decide (((z0:Nat):Int)=((a0:Nat):Int))) (J16 (!decide (((z0:Nat):Int)=((a0:Nat):Int))) σ9) (bc (!decide (((d1:Nat):Int)=((a0:Nat):Int))) (J16 (!decide (((d1:Nat):Int)=((a0:Nat):Int))) σ9) (cl Tryz.prog (.func (.func 35) #[] #[]) #[.int .i64 g1,.int .i64 0,.int .i64 10000] σ9 (fun v34 σ35=>
  ∃ t36:Bool,(v34=(.bool t36)/\J16 (!t36) σ35)))))))))))))))))
def BY:OA:=⟨[],false,[]⟩
def Ib:MAn:=(.plan [4] (.take 0 BY (.take 1 BY (.take 2 BY (.alt 3 true BY (.alt 4 false BY (.take 5 BY .done) .done) .done)))))
def Ot:MAn:=(.seq (.txt []) (.seq (.seq (.txt []) (.seq (.txt []) (.cond (.seq (.txt []) .leaf) .leaf))) (.seq (.seq (.txt []) (.seq (.txt []) (.cond (.seq (.txt []) .leaf) .leaf))) (.seq (.seq (.txt []) (.seq (.txt []) (.cond (.seq (.txt []) .leaf) .leaf))) (.seq (.txt []) (.seq (.txt []) (.cut ⟨[true],1,[],[]⟩ (.block (.cut ⟨[true],1,[.slot 1 (.hb 0 0),.slot 36 (.sc (.bool))],[(8,true)]⟩ (.seq (.txt []) (.cond .leaf (.seq (.txt []) (.cond .leaf (.seq (.txt []) (.cond .leaf (.seq (.txt []) (.cond .leaf (.txt []))))))))) (.cond (.seq (.txt []) .leaf) (.cut ⟨[true],1,[.slot 63 (.sc (.bool))],[]⟩ (.seq Ib (.cond .leaf Ib)) (.cond (.seq (.txt []) .leaf) .leaf))))) (.seq (.txt []) .leaf))))))))
theorem OC (σ:Hp) (e0:Option Addr) (a0 d0:Nat) (u0:Int) (m0:Option Addr) (o0 r0:Nat) (q0:Option Addr) (p0 t0:Nat) (l0:Option Addr) (g0 k0:Nat) (x0:Option Addr) (w0 y0:Nat) (g1:Int) (f0:Option Addr) (h0 c0:Nat) (i0:Option Addr) (b0 j0:Nat) (s0 v0 n0:Int) (a1:Option Addr) (z0 c1:Nat) (e1:Option Addr) (d1 f1:Nat) (R:Value->Hp->Prop) (h:Hi σ e0 a0 d0 u0 m0 o0 r0 q0 p0 t0 l0 g0 k0 x0 w0 y0 g1 f0 h0 c0 i0 b0 j0 s0 v0 n0 a1 z0 c1 e1 d1 f1 R):Ae Tryz.prog 32 #[(.agg #[.slice e0 a0 d0,.int .i64 u0,.slice m0 o0 r0,.slice q0 p0 t0,.slice l0 g0 k0,.slice x0 w0 y0,.int .i64 g1,.slice f0 h0 c0,.slice i0 b0 j0,.int .i64 s0,.int .i64 v0,.int .i64 n0,.slice a1 z0 c1,.slice e1 d1 f1])] σ R:=
 Ad CL Ot Tryz.func32 rfl (by kernel_rfl) (by kernel_rfl) (by kernel_rfl) h
theorem FF:Ao Tryz.prog 32=true:=by kernel_rfl
abbrev Pc:FuncId:=71
def JC (σ:Hp) (most:Int) (R:Value->Hp->Prop):Prop:=
 bx σ (.cells #[.int .i64 most] 3) (fun b1 σ2=>rt σ2 R (.func (.func 72) #[] #[(.pointer (some ⟨b1,0,none⟩))]))
def Mb:MAn:=(.seq (.txt []) (.seq (.txt []) .leaf))
theorem Mz (σ:Hp) (most:Int) (R:Value->Hp->Prop) (h:JC σ most R):Ae Tryz.prog 71 #[.int .i64 most] σ R:=
 Ad CL Mb Tryz.func71 rfl (by kernel_rfl) (by kernel_rfl) (by kernel_rfl) h
theorem EL:Ao Tryz.prog 71=true:=by kernel_rfl
abbrev G7:FuncId:=72
def Eh (σ:Hp) (x:Int) (cap0:Option Addr) (R:Value->Hp->Prop):Prop:=
 dr cap0 (fun b1 o2=>ldI σ .i64 b1 o2 (fun n3=>cl Tryz.prog (.func (.func 35) #[] #[]) #[.int .i64 x,.int .i64 0,.int .i64 n3] σ (fun v4 σ5=>
  ∃ t6:Bool,(v4=(.bool t6)/\rt σ5 R (.bool (!t6))))))
def KX:MAn:=(.seq (.txt []) (.seq (.txt []) .leaf))
theorem KF (σ:Hp) (x:Int) (cap0:Option Addr) (R:Value->Hp->Prop) (h:Eh σ x cap0 R):Ae Tryz.prog 72 #[.int .i64 x,.pointer cap0] σ R:=
 Ad CL KX Tryz.func72 rfl (by kernel_rfl) (by kernel_rfl) (by kernel_rfl) h
theorem HY:Ao Tryz.prog 72=true:=by kernel_rfl
abbrev QD:FuncId:=36
def Hq (σ:Hp) (_:Option Addr) (_ _:Nat) (_:Int) (m0:Option Addr) (o0 r0:Nat) (q0:Option Addr) (p0 t0:Nat) (l0:Option Addr) (g0 k0:Nat) (x0:Option Addr) (w0 y0:Nat) (g1:Int) (f0:Option Addr) (h0 c0:Nat) (i0:Option Addr) (b0 j0:Nat) (s0 v0 n0:Int) (_:Option Addr) (_ _:Nat) (_:Option Addr) (_ _:Nat) (R:Value->Hp->Prop):Prop:=
 cl Tryz.prog (.func (.func 74) #[] #[]) #[(.agg #[.slice m0 o0 r0,.slice q0 p0 t0,.slice l0 g0 k0]),.slice x0 w0 y0,.int .i64 g1] σ (fun v1 σ2=>
  ∃ A3:Option Addr,∃ l3 c3:Nat,∃ n4:Int,(v1=(.tuple #[.slice A3 l3 c3,.int .i64 n4]) /\
  bc (!decide (n4=0)) (rt σ2 R (.slice none 0 0)) (cut (α:=Option Addr->Nat->Nat->Hp->Prop) (fun A8 l8 c8 σ6=>
  ∀ _:Nat->Value,rt σ6 R (.slice A8 l8 c8)) (fun J7=>∃ I11:Nat->Option Addr->Nat->Nat->Int->Int->Hp->Prop,(∃ n120,I11 n120 none 0 0 0 0 σ2) /\
  ∀ n12:Nat,∀ A13:Option Addr,∀ l13 c13:Nat,∀ n14 n15:Int,∀ σ10:Hp,I11 n12 A13 l13 c13 n14 n15 σ10->∀ _:Nat->Value,bc (decide (n15<((l3:Nat):Int))) (cut (α:=Option Addr->Nat->Nat->Int->Hp->Prop) (fun A19 l19 c19 n20 σ17=>
  ∀ _:Nat->Value,wk .i64 (n15+1) (fun n21=>bk σ17 n12 (fun m22 σ23=>I11 m22 A19 l19 c19 n20 n21 σ23))) (fun J18=>
  ix A3 l3 n15 1 (fun b24 a25=>ldI σ10 .i64 b24 a25 (fun n26=>(0<=n26/\wk .i64 (1*2^(min (n26:Int).toNat (IntKind.bits .i64))) (fun n27=>
  wk .i64 (((BitVec.ofInt (IntKind.bits .i64) n14 ||| BitVec.ofInt (IntKind.bits .i64) n27).toNat:Int)) (fun n28=>
  cl Tryz.prog (.func (.func 75) #[] #[]) #[(.agg #[.slice f0 h0 c0,.slice i0 b0 j0,.int .i64 s0,.int .i64 v0,.int .i64 n0]),.int .i64 n28] σ10 (fun v29 σ30=>
  ∃ n31:Int,∃ t32:Bool,∃ n33:Int,(v29=(.tuple #[.int .i64 n31,.bool t32,.int .i64 n33]) /\
  cut (α:=Bool->Hp->Prop) (fun t37 σ35=>∀ _:Nat->Value,bc t37 ((0<=n26/\wk .i64 (1*2^(min (n26:Int).toNat (IntKind.bits .i64))) (fun n38=>
  wk .i64 (((BitVec.ofInt (IntKind.bits .i64) n14 ||| BitVec.ofInt (IntKind.bits .i64) n38).toNat:Int)) (fun n39=>
  adp 3 [.int .i64] A13 l13 c13 σ35 (fun (xs40:List Int) σ41=>B0 (List.length xs40+List.length ([n26]:List Int)) (exl 3 [.int .i64] (xs40++([n26]:List Int)) σ41 (fun A42 l42 c42 σ43=>
  J18 A42 l42 c42 n39 σ43))))))) (J18 A13 l13 c13 n14 σ35)) (fun J36=>bc (decide (n33=0)) (J36 t32 σ30) (J36 false σ30))))))))))) (J7 A13 l13 c13 σ10)))))
def AN:OA:=⟨[],false,[]⟩
def OF:MAn:=(.seq (.txt []) (.seq (.txt []) (.seq (.seq (.txt []) (.cond (.seq (.txt []) .leaf) .leaf)) (.seq (.txt []) (.cut ⟨[true],1,[.slot 2 (.sc (.slc))],[]⟩ (.seq (.txt []) (.block (.loop ⟨[true],1,[.slot 1 (.hb 0 0),.slot 2 (.sc (.slc)),.slot 5 (.sc (.int .i64)),.slot 25 (.sc (.int .i64))],[(23,true),(24,true)]⟩ (.seq (.txt []) (.seq (.cond .leaf .leaf) (.cut ⟨[true],1,[.slot 1 (.hb 0 0),.slot 2 (.sc (.slc)),.slot 5 (.sc (.int .i64))],[(23,true),(24,true),(25,true)]⟩ (.block (.seq (.txt []) (.seq (.plan [6] (tkVN3 6 0 AN (.alt 6 false AN (tkVN3 7 7 AN .done) .done))) (.cut ⟨[true],1,[.slot 1 (.hb 0 0),.slot 44 (.sc (.bool))],[(2,true),(5,true),(7,true),(23,true),(24,true),(25,true)]⟩ (.txt [AN,AN,⟨[],true,[]⟩]) (.cond (.seq (.txt []) (.txt [])) .leaf))))) (.txt []))))))) (.seq (.txt []) .leaf))))))
theorem Om (σ:Hp) (e0:Option Addr) (a0 d0:Nat) (u0:Int) (m0:Option Addr) (o0 r0:Nat) (q0:Option Addr) (p0 t0:Nat) (l0:Option Addr) (g0 k0:Nat) (x0:Option Addr) (w0 y0:Nat) (g1:Int) (f0:Option Addr) (h0 c0:Nat) (i0:Option Addr) (b0 j0:Nat) (s0 v0 n0:Int) (a1:Option Addr) (z0 c1:Nat) (e1:Option Addr) (d1 f1:Nat) (R:Value->Hp->Prop) (h:Hq σ e0 a0 d0 u0 m0 o0 r0 q0 p0 t0 l0 g0 k0 x0 w0 y0 g1 f0 h0 c0 i0 b0 j0 s0 v0 n0 a1 z0 c1 e1 d1 f1 R):Ae Tryz.prog 36 #[(.agg #[.slice e0 a0 d0,.int .i64 u0,.slice m0 o0 r0,.slice q0 p0 t0,.slice l0 g0 k0,.slice x0 w0 y0,.int .i64 g1,.slice f0 h0 c0,.slice i0 b0 j0,.int .i64 s0,.int .i64 v0,.int .i64 n0,.slice a1 z0 c1,.slice e1 d1 f1])] σ R:=
 Ad CL OF Tryz.func36 rfl (by kernel_rfl) (by kernel_rfl) (by kernel_rfl) h
theorem FG:Ao Tryz.prog 36=true:=by kernel_rfl
abbrev QC:FuncId:=31
def HJ (σ:Hp) (e0:Option Addr) (a0 d0:Nat) (u0:Int) (m0:Option Addr) (o0 r0:Nat) (q0:Option Addr) (p0 t0:Nat) (l0:Option Addr) (g0 k0:Nat) (x0:Option Addr) (w0 y0:Nat) (g1:Int) (f0:Option Addr) (h0 c0:Nat) (i0:Option Addr) (b0 j0:Nat) (s0 v0 n0:Int) (a1:Option Addr) (z0 c1:Nat) (e1:Option Addr) (d1 f1:Nat) (R:Value->Hp->Prop):Prop:=
 cl Tryz.prog (.func (.func 32) #[] #[]) #[(.agg #[.slice e0 a0 d0,.int .i64 u0,.slice m0 o0 r0,.slice q0 p0 t0,.slice l0 g0 k0,.slice x0 w0 y0,.int .i64 g1,.slice f0 h0 c0,.slice i0 b0 j0,.int .i64 s0,.int .i64 v0,.int .i64 n0,.slice a1 z0 c1,.slice e1 d1 f1])] σ (fun v1 σ2=>
  ∃ n3:Int,(v1=(.int .i64 n3)/\bc (!decide (n3=0)) (rt σ2 R (.tuple #[.slice none 0 0,.int .i64 n3])) (cl Tryz.prog (.func (.func 36) #[] #[]) #[(.agg #[.slice e0 a0 d0,.int .i64 u0,.slice m0 o0 r0,.slice q0 p0 t0,.slice l0 g0 k0,.slice x0 w0 y0,.int .i64 g1,.slice f0 h0 c0,.slice i0 b0 j0,.int .i64 s0,.int .i64 v0,.int .i64 n0,.slice a1 z0 c1,.slice e1 d1 f1])] σ2 (fun v4 σ5=>
  ∃ A6:Option Addr,∃ l6 c6:Nat,(v4=(.slice A6 l6 c6)/\rt σ5 R (.tuple #[.slice A6 l6 c6,.int .i64 0]))))))
def N5:MAn:=(.seq (.txt []) (.seq (.seq (.txt []) (.seq (.txt []) (.cond (.seq (.txt []) .leaf) .leaf))) (.seq (.txt []) .leaf)))
theorem NO (σ:Hp) (e0:Option Addr) (a0 d0:Nat) (u0:Int) (m0:Option Addr) (o0 r0:Nat) (q0:Option Addr) (p0 t0:Nat) (l0:Option Addr) (g0 k0:Nat) (x0:Option Addr) (w0 y0:Nat) (g1:Int) (f0:Option Addr) (h0 c0:Nat) (i0:Option Addr) (b0 j0:Nat) (s0 v0 n0:Int) (a1:Option Addr) (z0 c1:Nat) (e1:Option Addr) (d1 f1:Nat) (R:Value->Hp->Prop) (h:HJ σ e0 a0 d0 u0 m0 o0 r0 q0 p0 t0 l0 g0 k0 x0 w0 y0 g1 f0 h0 c0 i0 b0 j0 s0 v0 n0 a1 z0 c1 e1 d1 f1 R):Ae Tryz.prog 31 #[(.agg #[.slice e0 a0 d0,.int .i64 u0,.slice m0 o0 r0,.slice q0 p0 t0,.slice l0 g0 k0,.slice x0 w0 y0,.int .i64 g1,.slice f0 h0 c0,.slice i0 b0 j0,.int .i64 s0,.int .i64 v0,.int .i64 n0,.slice a1 z0 c1,.slice e1 d1 f1])] σ R:=
 Ad CL N5 Tryz.func31 rfl (by kernel_rfl) (by kernel_rfl) (by kernel_rfl) h
theorem LH:Ao Tryz.prog 31=true:=by kernel_rfl
abbrev QB:FuncId:=46
def HV (σ:Hp) (e0:Option Addr) (a0 d0:Nat) (u0:Int) (m0:Option Addr) (o0 r0:Nat) (q0:Option Addr) (p0 t0:Nat) (l0:Option Addr) (g0 k0:Nat) (x0:Option Addr) (w0 y0:Nat) (g1:Int) (f0:Option Addr) (h0 c0:Nat) (i0:Option Addr) (b0 j0:Nat) (s0 v0 n0:Int) (a1:Option Addr) (z0 c1:Nat) (e1:Option Addr) (d1 f1:Nat) (l_A:Option Addr) (l_n l_c:Nat) (R:Value->Hp->Prop):Prop:=
 cl Tryz.prog (.func (.func 32) #[] #[]) #[(.agg #[.slice e0 a0 d0,.int .i64 u0,.slice m0 o0 r0,.slice q0 p0 t0,.slice l0 g0 k0,.slice x0 w0 y0,.int .i64 g1,.slice f0 h0 c0,.slice i0 b0 j0,.int .i64 s0,.int .i64 v0,.int .i64 n0,.slice a1 z0 c1,.slice e1 d1 f1])] σ (fun v1 σ2=>
  ∃ n3:Int,(v1=(.int .i64 n3)/\bc (!decide (n3=0)) (rt σ2 R (.tuple #[.pointer none,.int .i64 n3])) (cl Tryz.prog (.func (.func 68) #[] #[]) #[(.agg #[.slice e0 a0 d0,.int .i64 u0]),.slice l_A l_n l_c] σ2 (fun v4 σ5=>
  ∃ n6:Int,(v4=(.int .i64 n6)/\bc (!decide (n6=0)) (rt σ5 R (.tuple #[.pointer none,.int .i64 n6])) (cl Tryz.prog (.func (.func 36) #[] #[]) #[(.agg #[.slice e0 a0 d0,.int .i64 u0,.slice m0 o0 r0,.slice q0 p0 t0,.slice l0 g0 k0,.slice x0 w0 y0,.int .i64 g1,.slice f0 h0 c0,.slice i0 b0 j0,.int .i64 s0,.int .i64 v0,.int .i64 n0,.slice a1 z0 c1,.slice e1 d1 f1])] σ5 (fun v7 σ8=>
  ∃ A9:Option Addr,∃ l9 c9:Nat,(v7=(.slice A9 l9 c9)/\cut (α:=Option Addr->Nat->Nat->Int->List (Int×Int×Int×(Option Addr×Nat×Nat)×Int×(Option Addr×Nat×Nat))->Hp->Prop) (fun A13 l13 c13 n14 xs15 σ11=>
  ∀ _:Nat->Value,exl 115 [.int .i64,.int .i64,.int .i64,.slc,.int .i64,.slc] xs15 σ11 (fun A16 l16 c16 σ17=>
  bx σ17 (.cells #[.slice A13 l13 c13,.int .i64 n14,.slice A16 l16 c16] 118) (fun b18 σ19=>rt σ19 R (.tuple #[(.pointer (some ⟨b18,0,none⟩)),.int .i64 0])))) (fun J12=>
  ∃ I22:Nat->Int->Option Addr->Nat->Nat->Int->List (Int×Int×Int×(Option Addr×Nat×Nat)×Int×(Option Addr×Nat×Nat))->Hp->Prop,(∃ n230,adp 115 [.int .i64,.int .i64,.int .i64,.slc,.int .i64,.slc] none 0 0 σ8 (fun (xs24:List (Int×Int×Int×(Option Addr×Nat×Nat)×Int×(Option Addr×Nat×Nat))) σ25=>
  I22 n230 0 e0 a0 d0 u0 xs24 σ25))/\∀ n23:Nat,∀ n26:Int,∀ A27:Option Addr,∀ l27 c27:Nat,∀ n28:Int,∀ xs29:List (Int×Int×Int×(Option Addr×Nat×Nat)×Int×(Option Addr×Nat×Nat)),∀ σ21:Hp,I22 n23 n26 A27 l27 c27 n28 xs29 σ21->∀ _:Nat->Value,bc (decide (n26<((l_n:Nat):Int))) (cut (α:=Option Addr->Nat->Nat->Int->List (Int×Int×Int×(Option Addr×Nat×Nat)×Int×(Option Addr×Nat×Nat))->Hp->Prop) (fun A33 l33 c33 n34 xs35 σ31=>
  ∀ _:Nat->Value,wk .i64 (n26+1) (fun n36=>bk σ31 n23 (fun m37 σ38=>I22 m37 n36 A33 l33 c33 n34 xs35 σ38))) (fun J32=>
  ix l_A l_n n26 5 (fun b39 a40=>ldI σ21 .i64 b39 a40 (fun n41=>ldI σ21 .i64 b39 (a40+1) (fun n42=>
  ldI σ21 .i64 b39 (a40+2) (fun n43=>ldS σ21 b39 (a40+3) (fun A44 l44 _=>ldI σ21 .i64 b39 (a40+4) (fun n45=>
  cut (α:=Int->Int->Int->List Int->Int->List Int->Hp->Prop) (fun n49 n50 n51 xs52 n53 xs54 σ47=>
  ∀ _:Nat->Value,exl 3 [.int .i64] xs52 σ47 (fun A55 l55 c55 σ56=>exl 3 [.int .i64] xs54 σ56 (fun A57 l57 c57 σ58=>
  bx σ58 (.cells #[.int .i64 n49,.int .i64 n50,.int .i64 n51,.slice A55 l55 c55,.int .i64 n53,.slice A57 l57 c57] 115) (fun b59 σ60=>
  (Hp.Sub σ58 σ60/\∃ ys61:List (Int×Int×Int×(Option Addr×Nat×Nat)×Int×(Option Addr×Nat×Nat)),RdS [.int .i64,.int .i64,.int .i64,.slc,.int .i64,.slc] σ60 (some ⟨b59,0,none⟩) 1 ys61 /\
  B0 (List.length xs29+List.length ys61) (J32 A27 l27 c27 n28 (xs29++ys61) σ60)))))) (fun J48=>
  ∃ I64:Nat->Int->Int->Int->Int->List Int->Int->List Int->Hp->Prop,(∃ n650,adp 3 [.int .i64] none 0 0 σ21 (fun (xs66:List Int) σ67=>
  adp 3 [.int .i64] none 0 0 σ67 (fun (xs68:List Int) σ69=>I64 n650 0 n41 n42 n43 xs66 n45 xs68 σ69))) /\
  ∀ n65:Nat,∀ n70 n71:Int,∀ n72 n73:Int,∀ xs74:List Int,∀ n75:Int,∀ xs76:List Int,∀ σ63:Hp,I64 n65 n70 n71 n72 n73 xs74 n75 xs76 σ63->∀ _:Nat->Value,bc (decide (n70<((l44:Nat):Int))) (cut (α:=Int->Int->Int->List Int->Int->List Int->Hp->Prop) (fun n80 n81 n82 xs83 n84 xs85 σ78=>
  ∀ _:Nat->Value,wk .i64 (n70+1) (fun n86=>bk σ78 n65 (fun m87 σ88=>I64 m87 n86 n80 n81 n82 xs83 n84 xs85 σ88))) (fun J79=>
  ix A44 l44 n70 1 (fun b89 a90=>ldI σ63 .i64 b89 a90 (fun n91=>cl Tryz.prog (.func (.func 89) #[] #[]) #[.slice A9 l9 c9,.int .i64 n91] σ63 (fun v92 σ93=>
  ∃ t94:Bool,(v92=(.bool t94)/\bc t94 (B0 (List.length xs74+List.length ([n91]:List Int)) (B0 (List.length xs76+List.length ([n70]:List Int)) (J79 n71 n72 n73 (xs74++([n91]:List Int)) n75 (xs76++([n70]:List Int)) σ93))) (J79 n71 n72 n73 xs74 n75 xs76 σ93))))))) (J48 n71 n72 n73 xs74 n75 xs76 σ63)))))))))) (J12 A27 l27 c27 n28 xs29 σ21))))))))))
def AX:OA:=⟨[],false,[]⟩
def Oj:MAn:=(.seq (.txt []) (.seq (.seq (.txt []) (.seq (.txt []) (.cond (.seq (.txt []) .leaf) .leaf))) (.seq (.seq (.txt []) (.seq (.txt []) (.cond (.seq (.txt []) .leaf) .leaf))) (.seq (.txt []) (.seq (.txt []) (.cut ⟨[true,false],3,[.slot 9 (.hb 1 0),.modb 1 118 [.sc (.slc),.sc (.int .i64),.lst 2 115 [.int .i64,.int .i64,.int .i64,.slc,.int .i64,.slc]]],[]⟩ (.seq (.txt []) (.block (.loop ⟨[true,false],3,[.slot 9 (.hb 1 0),.slot 35 (.sc (.int .i64)),.modb 1 118 [.sc (.slc),.sc (.int .i64),.lst 2 115 [.int .i64,.int .i64,.int .i64,.slc,.int .i64,.slc]]],[(8,true),(33,true),(34,true)]⟩ (.seq (.txt []) (.seq (.cond .leaf .leaf) (.cut ⟨[true,false,false],3,[.slot 9 (.hb 1 0),.modb 1 118 [.sc (.slc),.sc (.int .i64),.lst 2 115 [.int .i64,.int .i64,.int .i64,.slc,.int .i64,.slc]]],[(8,true),(33,true),(34,true),(35,true)]⟩ (.block (.seq (.txt []) (.seq (.txt []) (.seq (.txt []) (.cut ⟨[true,true,true,true,false],7,[.slot 9 (.hb 1 0),.slot 12 (.hb 4 0),.modb 4 115 [.sc (.int .i64),.sc (.int .i64),.sc (.int .i64),.lst 5 3 [.int .i64],.sc (.int .i64),.lst 6 3 [.int .i64]]],[(8,true),(33,true),(34,true),(35,true)]⟩ (.seq (.txt []) (.block (.loop ⟨[true,true,true,true,false],7,[.slot 9 (.hb 1 0),.slot 12 (.hb 4 0),.slot 46 (.sc (.int .i64)),.modb 4 115 [.sc (.int .i64),.sc (.int .i64),.sc (.int .i64),.lst 5 3 [.int .i64],.sc (.int .i64),.lst 6 3 [.int .i64]]],[(8,true),(33,true),(34,true),(35,true),(44,true),(45,true)]⟩ (.seq (.txt []) (.seq (.cond .leaf .leaf) (.cut ⟨[true,true,true,true,false,false,false],7,[.slot 9 (.hb 1 0),.slot 12 (.hb 4 0),.modb 4 115 [.sc (.int .i64),.sc (.int .i64),.sc (.int .i64),.lst 5 3 [.int .i64],.sc (.int .i64),.lst 6 3 [.int .i64]]],[(8,true),(33,true),(34,true),(35,true),(44,true),(45,true),(46,true)]⟩ (.block (.seq (.txt []) (.seq (.txt []) (.cond (.seq (.txt []) (.txt [])) .leaf)))) (.txt []))))))) (.plan [7,10] (tkVN3 6 0 AX (.alt 6 true AX (.alt 7 false AX (.take 8 AX (.take 9 AX (.alt 10 false AX .done .done))) .done) .done)))))))) (.txt []))))))) (.seq (.txt []) .leaf)))))))
theorem OH (σ:Hp) (e0:Option Addr) (a0 d0:Nat) (u0:Int) (m0:Option Addr) (o0 r0:Nat) (q0:Option Addr) (p0 t0:Nat) (l0:Option Addr) (g0 k0:Nat) (x0:Option Addr) (w0 y0:Nat) (g1:Int) (f0:Option Addr) (h0 c0:Nat) (i0:Option Addr) (b0 j0:Nat) (s0 v0 n0:Int) (a1:Option Addr) (z0 c1:Nat) (e1:Option Addr) (d1 f1:Nat) (l_A:Option Addr) (l_n l_c:Nat) (R:Value->Hp->Prop) (h:HV σ e0 a0 d0 u0 m0 o0 r0 q0 p0 t0 l0 g0 k0 x0 w0 y0 g1 f0 h0 c0 i0 b0 j0 s0 v0 n0 a1 z0 c1 e1 d1 f1 l_A l_n l_c R):Ae Tryz.prog 46 #[(.agg #[.slice e0 a0 d0,.int .i64 u0,.slice m0 o0 r0,.slice q0 p0 t0,.slice l0 g0 k0,.slice x0 w0 y0,.int .i64 g1,.slice f0 h0 c0,.slice i0 b0 j0,.int .i64 s0,.int .i64 v0,.int .i64 n0,.slice a1 z0 c1,.slice e1 d1 f1]),.slice l_A l_n l_c] σ R:=
 Ad CL Oj Tryz.func46 rfl (by kernel_rfl) (by kernel_rfl) (by kernel_rfl) h
theorem LC:Ao Tryz.prog 46=true:=by kernel_rfl
abbrev Jq:FuncId:=54
def Cc (σ:Hp) (n:Option Addr) (R:Value->Hp->Prop):Prop:=
 cut (α:=List (Int×Int×Int×(Option Addr×Nat×Nat)×Int)->Hp->Prop) (fun xs4 σ2=>∀ _:Nat->Value,
  exl 65 [.int .i64,.int .i64,.int .i64,.slc,.int .i64] xs4 σ2 (fun A5 l5 c5 σ6=>rt σ6 R (.slice A5 l5 c5))) (fun J3=>
  dr n (fun b7 o8=>ldS σ b7 (o8+2) (fun A9 l9 _=>∃ I12:Nat->List (Int×Int×Int×(Option Addr×Nat×Nat)×Int)->Int->Hp->Prop,(∃ n130,adp 65 [.int .i64,.int .i64,.int .i64,.slc,.int .i64] none 0 0 σ (fun (xs14:List (Int×Int×Int×(Option Addr×Nat×Nat)×Int)) σ15=>
  I12 n130 xs14 0 σ15))/\∀ n13:Nat,∀ xs16:List (Int×Int×Int×(Option Addr×Nat×Nat)×Int),∀ n17:Int,∀ σ11:Hp,I12 n13 xs16 n17 σ11->∀ _:Nat->Value,bc (decide (n17<((l9:Nat):Int))) (ix A9 l9 n17 6 (fun b18 a19=>
  ldI σ11 .i64 b18 a19 (fun n20=>ldI σ11 .i64 b18 (a19+1) (fun n21=>ldI σ11 .i64 b18 (a19+2) (fun n22=>
  ldS σ11 b18 (a19+3) (fun A23 l23 c23=>ldI σ11 .i64 b18 (a19+4) (fun n24=>ldS σ11 b18 (a19+5) (fun _ _ _=>
  B0 (List.length xs16+List.length ([(n20,n21,n22,(A23,l23,c23),n24)]:List (Int×Int×Int×(Option Addr×Nat×Nat)×Int))) (wk .i64 (n17+1) (fun n26=>
  bk σ11 n13 (fun m27 σ28=>I12 m27 (xs16++([(n20,n21,n22,(A23,l23,c23),n24)]:List (Int×Int×Int×(Option Addr×Nat×Nat)×Int))) n26 σ28))))))))))) (J3 xs16 σ11))))
def GV:MAn:=(.seq (.txt []) (.cut ⟨[],1,[.slot 2 (.lst 0 65 [.int .i64,.int .i64,.int .i64,.slc,.int .i64])],[]⟩ (.seq (.txt []) (.block (.loop ⟨[],1,[.slot 2 (.lst 0 65 [.int .i64,.int .i64,.int .i64,.slc,.int .i64]),.slot 10 (.sc (.int .i64))],[(8,true),(9,true)]⟩ (.seq (.txt []) (.seq (.cond .leaf .leaf) (.seq (.block (.seq (.txt []) (.txt []))) (.txt []))))))) (.seq (.txt []) .leaf)))
theorem GH (σ:Hp) (n:Option Addr) (R:Value->Hp->Prop) (h:Cc σ n R):Ae Tryz.prog 54 #[.pointer n] σ R:=
 Ad CL GV Tryz.func54 rfl (by kernel_rfl) (by kernel_rfl) (by kernel_rfl) h
theorem Fi:Ao Tryz.prog 54=true:=by kernel_rfl
abbrev Pe:FuncId:=23
def Fw (σ:Hp) (e0:Option Addr) (a0 d0:Nat) (u0:Int) (m0:Option Addr) (o0 r0:Nat) (q0:Option Addr) (p0 t0:Nat) (l0:Option Addr) (g0 k0:Nat) (x0:Option Addr) (w0 y0:Nat) (g1:Int) (f0:Option Addr) (h0 c0:Nat) (i0:Option Addr) (b0 j0:Nat) (s0 v0 n0:Int) (a1:Option Addr) (z0 c1:Nat) (e1:Option Addr) (d1 f1:Nat) (l_A:Option Addr) (l_n l_c:Nat) (R:Value->Hp->Prop):Prop:=
 cl Tryz.prog (.func (.func 46) #[] #[]) #[(.agg #[.slice e0 a0 d0,.int .i64 u0,.slice m0 o0 r0,.slice q0 p0 t0,.slice l0 g0 k0,.slice x0 w0 y0,.int .i64 g1,.slice f0 h0 c0,.slice i0 b0 j0,.int .i64 s0,.int .i64 v0,.int .i64 n0,.slice a1 z0 c1,.slice e1 d1 f1]),.slice l_A l_n l_c] σ (fun v1 σ2=>
  ∃ p3:Option Addr,∃ n4:Int,(v1=(.tuple #[.pointer p3,.int .i64 n4])/\bc (!decide (n4=0)) (rt σ2 R (.tuple #[.int .i64 0,.int .i64 n4])) (dr p3 (fun b5 o6=>
  ldS σ2 b5 o6 (fun A7 l7 c7=>ldI σ2 .i64 b5 (o6+1) (fun n8=>cl Tryz.prog (.func (.func 54) #[] #[]) #[.pointer p3] σ2 (fun v9 σ10=>
  ∃ A11:Option Addr,∃ l11 c11:Nat,(v9=(.slice A11 l11 c11)/\(Hp.Sub σ2 σ10/\cl Tryz.prog (.func (.func 50) #[] #[]) #[(.agg #[.slice A7 l7 c7,.int .i64 n8]),.slice A11 l11 c11] σ10 (fun v12 σ13=>
  ∃ A14:Option Addr,∃ l14 c14:Nat,∃ n15:Int,(v12=(.tuple #[.slice A14 l14 c14,.int .i64 n15]) /\
  bc (!decide (n15=0)) (rt σ13 R (.tuple #[.int .i64 0,.int .i64 n15])) (cut (α:=Int->Hp->Prop) (fun n19 σ17=>
  ∀ _:Nat->Value,rt σ17 R (.tuple #[.int .i64 n19,.int .i64 0])) (fun J18=>dr p3 (fun b20 o21=>
  ldS σ13 b20 (o21+2) (fun A22 l22 _=>∃ I25:Nat->Int->Int->Hp->Prop,(∃ n260,I25 n260 0 0 σ13) /\
  ∀ n26:Nat,∀ n27 n28:Int,∀ σ24:Hp,I25 n26 n27 n28 σ24->∀ _:Nat->Value,bc (decide (n28<((l22:Nat):Int))) (cut (α:=Int->Hp->Prop) (fun n32 σ30=>
  ∀ _:Nat->Value,wk .i64 (n28+1) (fun n33=>bk σ30 n26 (fun m34 σ35=>I25 m34 n32 n33 σ35))) (fun J31=>
  ix A22 l22 n28 6 (fun b36 a37=>ldI σ24 .i64 b36 a37 (fun n38=>ldI σ24 .i64 b36 (a37+1) (fun _=>
  ldI σ24 .i64 b36 (a37+2) (fun _=>ldS σ24 b36 (a37+3) (fun _ _ _=>ldI σ24 .i64 b36 (a37+4) (fun _=>
  ldS σ24 b36 (a37+5) (fun _ _ _=>cut (α:=Int->Hp->Prop) (fun n47 σ45=>∀ _:Nat->Value,
  J31 (if n47>n27 then n47 else n27) σ45) (fun J46=>dr p3 (fun b48 o49=>ldS σ24 b48 (o49+2) (fun A50 l50 _=>
  ∃ I53:Nat->Int->Int->Hp->Prop,(∃ n540,I53 n540 0 0 σ24)/\∀ n54:Nat,∀ n55 n56:Int,∀ σ52:Hp,I53 n54 n55 n56 σ52->∀ _:Nat->Value,bc (decide (n56<((l50:Nat):Int))) (cut (α:=Int->Hp->Prop) (fun n60 σ58=>
  ∀ _:Nat->Value,wk .i64 (n56+1) (fun n61=>bk σ58 n54 (fun m62 σ63=>I53 m62 n60 n61 σ63))) (fun J59=>
  ix A50 l50 n56 6 (fun b64 a65=>ldI σ52 .i64 b64 a65 (fun n66=>ldI σ52 .i64 b64 (a65+1) (fun n67=>
  ldI σ52 .i64 b64 (a65+2) (fun _=>ldS σ52 b64 (a65+3) (fun _ _ _=>ldI σ52 .i64 b64 (a65+4) (fun _=>
  ldS σ52 b64 (a65+5) (fun _ _ _=>cut (α:=Bool->Hp->Prop) (fun t75 σ73=>∀ _:Nat->Value,
  bc t75 (wk .i64 (n55+n67) (fun n76=>J59 n76 σ73)) (J59 n55 σ73)) (fun J74=>bc (decide (n66<=n38)) (ix A14 l14 n56 1 (fun b77 a78=>
  ldI σ52 .i64 b77 a78 (fun n79=>bc (decide (n79<0)) (J74 true σ52) (ix A14 l14 n56 1 (fun b80 a81=>
  ldI σ52 .i64 b80 a81 (fun n82=>J74 (decide (n38<n82)) σ52)))))) (J74 false σ52))))))))))) (J46 n55 σ52))))))))))))) (J18 n27 σ24))))))))))))))))
def An:OA:=⟨[],false,[]⟩
def LW:MAn:=(.seq (.txt []) (.seq (.txt []) (.seq (.seq (.txt []) (.cond (.seq (.txt []) .leaf) .leaf)) (.seq (.plan [6] (tkVN3 5 0 An (.alt 5 true An (.alt 6 false An (tkVN3 5 7 An .done) .done) .done))) (.seq (.seq (.txt []) (.cond (.seq (.txt []) .leaf) .leaf)) (.cut ⟨[true],1,[.slot 4 (.sc (.int .i64))],[]⟩ (.seq (.txt []) (.block (.loop ⟨[true],1,[.slot 4 (.sc (.int .i64)),.slot 40 (.sc (.int .i64))],[(6,true),(7,true),(38,true),(39,true)]⟩ (.seq (.txt []) (.seq (.cond .leaf .leaf) (.cut ⟨[true],1,[.slot 4 (.sc (.int .i64))],[(6,true),(7,true),(38,true),(39,true),(40,true)]⟩ (.block (.seq (.txt []) (.seq (.txt []) (.cut ⟨[true,true],2,[.slot 10 (.sc (.int .i64))],[(4,true),(6,true),(7,true),(38,true),(39,true),(40,true)]⟩ (.seq (.txt []) (.block (.loop ⟨[true,true],2,[.slot 9 (.hb 1 0),.slot 10 (.sc (.int .i64)),.slot 49 (.sc (.int .i64))],[(4,true),(6,true),(7,true),(38,true),(39,true),(40,true),(47,true),(48,true)]⟩ (.seq (.txt []) (.seq (.cond .leaf .leaf) (.cut ⟨[true,true],2,[.slot 9 (.hb 1 0),.slot 10 (.sc (.int .i64))],[(4,true),(6,true),(7,true),(38,true),(39,true),(40,true),(47,true),(48,true),(49,true)]⟩ (.block (.seq (.txt []) (.cut ⟨[true,true,true],3,[.slot 9 (.hb 1 0),.slot 12 (.hb 2 0),.slot 77 (.sc (.bool))],[(4,true),(6,true),(7,true),(10,true),(38,true),(39,true),(40,true),(47,true),(48,true),(49,true)]⟩ (.plan [] (tkVN3 7 0 An (.take 7 ⟨[],true,[]⟩ (tkVN3 5 8 An (.take 13 ⟨[],true,[]⟩ (tkVN3 10 14 An .done)))))) (.cond (.txt []) .leaf)))) (.txt []))))))) (.txt []))))) (.txt []))))))) (.seq (.txt []) .leaf)))))))
theorem L5 (σ:Hp) (e0:Option Addr) (a0 d0:Nat) (u0:Int) (m0:Option Addr) (o0 r0:Nat) (q0:Option Addr) (p0 t0:Nat) (l0:Option Addr) (g0 k0:Nat) (x0:Option Addr) (w0 y0:Nat) (g1:Int) (f0:Option Addr) (h0 c0:Nat) (i0:Option Addr) (b0 j0:Nat) (s0 v0 n0:Int) (a1:Option Addr) (z0 c1:Nat) (e1:Option Addr) (d1 f1:Nat) (l_A:Option Addr) (l_n l_c:Nat) (R:Value->Hp->Prop) (h:Fw σ e0 a0 d0 u0 m0 o0 r0 q0 p0 t0 l0 g0 k0 x0 w0 y0 g1 f0 h0 c0 i0 b0 j0 s0 v0 n0 a1 z0 c1 e1 d1 f1 l_A l_n l_c R):Ae Tryz.prog 23 #[(.agg #[.slice e0 a0 d0,.int .i64 u0,.slice m0 o0 r0,.slice q0 p0 t0,.slice l0 g0 k0,.slice x0 w0 y0,.int .i64 g1,.slice f0 h0 c0,.slice i0 b0 j0,.int .i64 s0,.int .i64 v0,.int .i64 n0,.slice a1 z0 c1,.slice e1 d1 f1]),.slice l_A l_n l_c] σ R:=
 Ad CL LW Tryz.func23 rfl (by kernel_rfl) (by kernel_rfl) (by kernel_rfl) h
theorem Kg:Ao Tryz.prog 23=true:=by kernel_rfl
abbrev JP:FuncId:=89
def CC (σ:Hp) (s_A:Option Addr) (s_n s_c:Nat) (v:Int) (R:Value->Hp->Prop):Prop:=
 cl Tryz.prog (.func (.func 146) #[] #[]) #[.slice s_A s_n s_c,.int .i64 v] σ (fun v1 σ2=>∃ n3:Int,(v1=(.int .i64 n3) /\
  rt σ2 R (.bool (decide ((0:Int)<=n3)))))
def Hk:MAn:=(.seq (.txt []) (.seq (.txt []) .leaf))
theorem He (σ:Hp) (s_A:Option Addr) (s_n s_c:Nat) (v:Int) (R:Value->Hp->Prop) (h:CC σ s_A s_n s_c v R):Ae Tryz.prog 89 #[.slice s_A s_n s_c,.int .i64 v] σ R:=
 Ad CL Hk Tryz.func89 rfl (by kernel_rfl) (by kernel_rfl) (by kernel_rfl) h
theorem F1:Ao Tryz.prog 89=true:=by kernel_rfl
abbrev Mi:FuncId:=146
def DD (σ:Hp) (s_A:Option Addr) (s_n _:Nat) (v:Int) (R:Value->Hp->Prop):Prop:=
 cut (α:=Hp->Prop) (fun  σ2=>∀ _:Nat->Value,rt σ2 R (.int .i64 (-1))) (fun J3=>∃ I6:Nat->Int->Hp->Prop,(∃ n70,I6 n70 0 σ) /\
  ∀ n7:Nat,∀ n8:Int,∀ σ5:Hp,I6 n7 n8 σ5->∀ _:Nat->Value,bc (decide (n8<((s_n:Nat):Int))) (ix s_A s_n n8 1 (fun b9 a10=>
  ldI σ5 .i64 b9 a10 (fun n11=>bc (decide (v=n11)) (rt σ5 R (.int .i64 n8)) (wk .i64 (n8+1) (fun n12=>
  bk σ5 n7 (fun m13 σ14=>I6 m13 n12 σ14)))))) (J3 σ5))
def JN:MAn:=(.seq (.txt []) (.cut ⟨[],0,[],[]⟩ (.seq (.txt []) (.block (.loop ⟨[],0,[.slot 8 (.sc (.int .i64))],[(0,true),(1,true),(7,true)]⟩ (.seq (.txt []) (.seq (.cond .leaf .leaf) (.seq (.block (.seq (.txt []) (.seq (.txt []) (.cond (.seq (.txt []) .leaf) .leaf)))) (.txt []))))))) (.seq (.txt []) .leaf)))
theorem J0 (σ:Hp) (s_A:Option Addr) (s_n s_c:Nat) (v:Int) (R:Value->Hp->Prop) (h:DD σ s_A s_n s_c v R):Ae Tryz.prog 146 #[.slice s_A s_n s_c,.int .i64 v] σ R:=
 Ad CL JN Tryz.func146 rfl (by kernel_rfl) (by kernel_rfl) (by kernel_rfl) h
theorem HS:Ao Tryz.prog 146=true:=by kernel_rfl
end Go.Proofs.YtoelhdjloaknbaaGreat
