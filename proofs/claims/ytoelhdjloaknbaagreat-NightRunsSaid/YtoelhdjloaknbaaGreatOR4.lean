/- Trimmed by wip/trim.py to what this claim rests on. -/
import Derived.Test.YtoelhdjloaknbaaGreatOB11
namespace Go.Proofs.YtoelhdjloaknbaaGreat
set_option maxRecDepth 100000
open Go.RowKit
def tkOR4:Nat->Nat->OA->MPlan->MPlan
 |0,_,_,x=>x
 |n+1,i,a,x=>.take i a (tkOR4 n (i+1) a x)
theorem IR:Tryz.prog.follows .mixedOrders=true:=by kernel_rfl
abbrev Ow:FuncId:=40
def I4 (σ:Hp) (n low high:Int) (R:Value->Hp->Prop):Prop:=
 bc (decide (low<=n)) (rt σ R (.bool (decide (n<=high)))) (rt σ R (.bool false))
def Rq:MAn:=(.seq (.txt []) (.seq (.txt [⟨[],false,[]⟩,⟨[],false,[]⟩,⟨[],false,[]⟩,⟨[],true,[]⟩]) .leaf))
theorem QN (σ:Hp) (n low high:Int) (R:Value->Hp->Prop) (h:I4 σ n low high R):Ad Tryz.prog 40 #[.int .i64 n,.int .i64 low,.int .i64 high] σ R:=
 Ac IR Rq Tryz.func40 rfl (by kernel_rfl) (by kernel_rfl) (by kernel_rfl) h
theorem M0:Al Tryz.prog 40=true:=by kernel_rfl
abbrev SR:FuncId:=39
def Ia (σ:Hp) (p0:Option Addr) (a0 q0:Nat) (x0:Int) (n0:Option Addr) (o0 w0:Nat) (m0:Option Addr) (l0 y0:Nat) (i0:Option Addr) (f0 s0:Nat) (t0:Option Addr) (u0 v0:Nat) (f1:Int) (c0:Option Addr) (b0 d0:Nat) (g0:Option Addr) (e0 h0:Nat) (j0 r0 k0:Int) (a1:Option Addr) (z0 _:Nat) (c1:Option Addr) (b1 _:Nat) (R:Value->Hp->Prop):Prop:=
 cl Tryz.prog (.func (.func 77) #[] #[]) #[(.agg #[.slice p0 a0 q0,.int .i64 x0]),.slice none 0 0] σ (fun v1 σ2=>
  ∃ n3:Int,(v1=(.int .i64 n3)/\bc (!decide (n3=0)) (rt σ2 R (.int .i64 n3)) (cl Tryz.prog (.func (.func 78) #[] #[]) #[(.agg #[.slice n0 o0 w0,.slice m0 l0 y0,.slice i0 f0 s0]),.slice t0 u0 v0] σ2 (fun v4 σ5=>
  ∃ n6 n7:Int,(v4=(.tuple #[.int .i64 n6,.int .i64 n7])/\bc (!decide (n7=0)) (rt σ5 R (.int .i64 n7)) (cl Tryz.prog (.func (.func 79) #[] #[]) #[(.agg #[.slice c0 b0 d0,.slice g0 e0 h0,.int .i64 j0,.int .i64 r0,.int .i64 k0])] σ5 (fun v8 σ9=>
  ∃ n10:Int,(v8=(.int .i64 n10)/\bc (!decide (n10=0)) (rt σ9 R (.int .i64 n10)) (cut (α:=Hp->Prop) (fun  σ12=>
  ∀ _:Nat->Value,cut (α:=Hp->Prop) (fun  σ15=>∀ _:Nat->Value,rt σ15 R (.int .i64 0)) (fun J16=>
  ∃ I19:Nat->Int->Hp->Prop,(∃ n200,I19 n200 0 σ12)/\∀ n20:Nat,∀ n21:Int,∀ σ18:Hp,I19 n20 n21 σ18->∀ _:Nat->Value,bc (decide (n21<((a0:Nat):Int))) (cut (α:=Hp->Prop) (fun  σ23=>
  ∀ _:Nat->Value,wk .i64 (n21+1) (fun n25=>bk σ23 n20 (fun m26 σ27=>I19 m26 n25 σ27))) (fun J24=>
  cut (α:=Bool->Hp->Prop) (fun t31 σ29=>∀ _:Nat->Value,bc t31 (rt σ29 R (.int .i64 120)) (J24 σ29)) (fun J30=>
  ix a1 z0 n21 1 (fun b32 a33=>ldI σ18 .i64 b32 a33 (fun n34=>cl Tryz.prog (.func (.func 40) #[] #[]) #[.int .i64 n34,.int .i64 0,.int .i64 200] σ18 (fun v35 σ36=>
  ∃ t37:Bool,(v35=(.bool t37)/\bc (!t37) (J30 true σ36) (ix c1 b1 n21 1 (fun b38 a39=>
  ldI σ36 .i64 b38 a39 (fun n40=>cl Tryz.prog (.func (.func 40) #[] #[]) #[.int .i64 n40,.int .i64 0,.int .i64 100] σ36 (fun v41 σ42=>
  ∃ t43:Bool,(v41=(.bool t43)/\J30 (!t43) σ42)))))))))))) (J16 σ18))) (fun J13=>cut (α:=Bool->Hp->Prop) (fun t47 σ45=>
  ∀ _:Nat->Value,bc t47 (rt σ45 R (.int .i64 120)) (J13 σ45)) (fun J46=>bc (!decide (((f0:Nat):Int)=((a0:Nat):Int))) (J46 true σ9) (bc (!decide (((e0:Nat):Int)=((a0:Nat):Int))) (J46 true σ9) (bc (!decide (((z0:Nat):Int)=((a0:Nat):Int))) (J46 true σ9) (bc (!decide (((b1:Nat):Int)=((a0:Nat):Int))) (J46 true σ9) (cl Tryz.prog (.func (.func 40) #[] #[]) #[.int .i64 f1,.int .i64 0,.int .i64 10000] σ9 (fun v48 σ49=>
  ∃ t50:Bool,(v48=(.bool t50)/\J46 (!t50) σ49)))))))))))))))))
def Aw:OA:=⟨[],false,[]⟩
def Pd:MAn:=(.seq (.txt []) (.seq (.txt []) (.seq (.seq (.txt []) (.cond (.seq (.txt []) .leaf) .leaf)) (.seq (.txt []) (.seq (.seq (.txt []) (.cond (.seq (.txt []) .leaf) .leaf)) (.seq (.txt []) (.seq (.seq (.txt []) (.cond (.seq (.txt []) .leaf) .leaf)) (.seq (.txt []) (.cut ⟨[true],1,[.slot 1 (.hb 0 0)],[(4,true)]⟩ (.cut ⟨[true],1,[.slot 1 (.hb 0 0),.slot 66 (.sc (.bool))],[(4,true)]⟩ (.txt [Aw,Aw,Aw,Aw,Aw,Aw,⟨[],true,[]⟩,Aw,Aw,Aw,Aw,Aw,Aw,Aw,⟨[],true,[]⟩,Aw,Aw,Aw,Aw,Aw,Aw,⟨[],true,[]⟩,Aw,Aw,Aw,Aw,Aw,Aw,⟨[],true,[]⟩]) (.cond (.seq (.txt []) .leaf) .leaf)) (.cut ⟨[true],1,[],[]⟩ (.seq (.txt []) (.block (.loop ⟨[true],1,[.slot 1 (.hb 0 0),.slot 5 (.sc (.int .i64))],[(4,true)]⟩ (.seq (.seq (.txt []) (.cond .leaf .leaf)) (.cut ⟨[true],1,[.slot 1 (.hb 0 0)],[(4,true),(5,true)]⟩ (.block (.cut ⟨[true],1,[.slot 1 (.hb 0 0),.slot 87 (.sc (.bool))],[(4,true),(5,true)]⟩ (.txt [Aw,Aw,Aw,Aw,Aw,Aw,Aw,⟨[],true,[]⟩]) (.cond (.seq (.txt []) .leaf) .leaf))) (.txt [])))))) (.seq (.txt []) .leaf)))))))))))
theorem Pp (σ:Hp) (p0:Option Addr) (a0 q0:Nat) (x0:Int) (n0:Option Addr) (o0 w0:Nat) (m0:Option Addr) (l0 y0:Nat) (i0:Option Addr) (f0 s0:Nat) (t0:Option Addr) (u0 v0:Nat) (f1:Int) (c0:Option Addr) (b0 d0:Nat) (g0:Option Addr) (e0 h0:Nat) (j0 r0 k0:Int) (a1:Option Addr) (z0 d1:Nat) (c1:Option Addr) (b1 e1:Nat) (R:Value->Hp->Prop) (h:Ia σ p0 a0 q0 x0 n0 o0 w0 m0 l0 y0 i0 f0 s0 t0 u0 v0 f1 c0 b0 d0 g0 e0 h0 j0 r0 k0 a1 z0 d1 c1 b1 e1 R):Ad Tryz.prog 39 #[(.agg #[.slice p0 a0 q0,.int .i64 x0,.slice n0 o0 w0,.slice m0 l0 y0,.slice i0 f0 s0,.slice t0 u0 v0,.int .i64 f1,.slice c0 b0 d0,.slice g0 e0 h0,.int .i64 j0,.int .i64 r0,.int .i64 k0,.slice a1 z0 d1,.slice c1 b1 e1])] σ R:=
 Ac IR Pd Tryz.func39 rfl (by kernel_rfl) (by kernel_rfl) (by kernel_rfl) h
theorem MJ:Al Tryz.prog 39=true:=by kernel_rfl
abbrev Uh:FuncId:=41
def Jg (σ:Hp) (_:Option Addr) (a0 _:Nat) (_:Int) (n0:Option Addr) (o0 w0:Nat) (m0:Option Addr) (l0 y0:Nat) (i0:Option Addr) (f0 s0:Nat) (t0:Option Addr) (u0 v0:Nat) (f1:Int) (c0:Option Addr) (b0 d0:Nat) (g0:Option Addr) (e0 h0:Nat) (j0 r0 k0:Int) (_:Option Addr) (_ _:Nat) (_:Option Addr) (_ _:Nat) (R:Value->Hp->Prop):Prop:=
 (0<=((a0:Nat):Int)/\((a0:Nat):Int)<=((a0:Nat):Int) /\
  ((a0:Nat):Int)<=(1000000000:Int)/\cl Tryz.prog (.func (.func 80) #[] #[]) #[(.agg #[.slice n0 o0 w0,.slice m0 l0 y0,.slice i0 f0 s0]),.slice t0 u0 v0,.int .i64 f1] σ (fun v1 σ2=>
  ∃ A3:Option Addr,∃ l3 c3:Nat,∃ n4:Int,(v1=(.tuple #[.slice A3 l3 c3,.int .i64 n4]) /\
  cut (α:=List Bool->Hp->Prop) (fun xs8 σ6=>∀ _:Nat->Value,exl 4 [.bool] xs8 σ6 (fun A9 l9 c9 σ10=>
  rt σ10 R (.slice A9 l9 c9))) (fun J7=>∃ I13:Nat->Int->Int->List Bool->Hp->Prop,(∃ n140,I13 n140 0 0 (List.replicate (((a0:Nat):Int):Int).toNat false:List Bool) σ2) /\
  ∀ n14:Nat,∀ n15 n16:Int,∀ xs17:List Bool,∀ σ12:Hp,I13 n14 n15 n16 xs17 σ12->∀ _:Nat->Value,bc (decide (n16<((l3:Nat):Int))) (cut (α:=Int->List Bool->Hp->Prop) (fun n21 xs22 σ19=>
  ∀ _:Nat->Value,wk .i64 (n16+1) (fun n23=>bk σ19 n14 (fun m24 σ25=>I13 m24 n21 n23 xs22 σ25))) (fun J20=>
  ix A3 l3 n16 1 (fun b26 a27=>ldI σ12 .i64 b26 a27 (fun n28=>wk .u64 (n28) (fun n29=>(0<=n29 /\
  wk .i64 (1*2^(min (n29:Int).toNat (IntKind.bits .i64))) (fun n30=>wk .i64 (((BitVec.ofInt (IntKind.bits .i64) n15 ||| BitVec.ofInt (IntKind.bits .i64) n30).toNat:Int)) (fun n31=>
  cl Tryz.prog (.func (.func 81) #[] #[]) #[(.agg #[.slice c0 b0 d0,.slice g0 e0 h0,.int .i64 j0,.int .i64 r0,.int .i64 k0]),.int .i64 n31] σ12 (fun v32 σ33=>
  ∃ n34:Int,∃ t35:Bool,∃ n36:Int,(v32=(.tuple #[.int .i64 n34,.bool t35,.int .i64 n36]) /\
  bc t35 (wk .u64 (n28) (fun n37=>(0<=n37/\wk .i64 (1*2^(min (n37:Int).toNat (IntKind.bits .i64))) (fun n38=>
  wk .i64 (((BitVec.ofInt (IntKind.bits .i64) n15 ||| BitVec.ofInt (IntKind.bits .i64) n38).toNat:Int)) (fun n39=>
  (0<=n28/\n28<((List.length xs17:Nat):Int)/\lat xs17 ((n28:Int).toNat) (fun _=>J20 n39 (List.set xs17 ((n28:Int).toNat) true) σ33))))))) (J20 n15 xs17 σ33))))))))))) (J7 xs17 σ12)))))
def Q9:MAn:=(.seq (.txt []) (.seq (.txt []) (.seq (.txt []) (.seq (.txt []) (.cut ⟨[true,false],2,[.slot 3 (.hl 1 0),.modl 1 0 4 [.bool]],[]⟩ (.seq (.txt []) (.block (.loop ⟨[true,false],2,[.slot 1 (.hb 0 0),.slot 3 (.hl 1 0),.slot 6 (.sc (.int .i64)),.slot 7 (.sc (.int .i64)),.modl 1 0 4 [.bool]],[(4,true)]⟩ (.seq (.seq (.txt []) (.cond .leaf .leaf)) (.cut ⟨[true,false],2,[.slot 1 (.hb 0 0),.slot 3 (.hl 1 0),.slot 6 (.sc (.int .i64)),.modl 1 0 4 [.bool]],[(4,true),(7,true)]⟩ (.block (.seq (.txt []) (.seq (.txt []) (.seq (.txt []) (.cond (.seq (.txt []) (.txt [])) .leaf))))) (.txt [])))))) (.seq (.txt []) .leaf))))))
theorem Q2 (σ:Hp) (p0:Option Addr) (a0 q0:Nat) (x0:Int) (n0:Option Addr) (o0 w0:Nat) (m0:Option Addr) (l0 y0:Nat) (i0:Option Addr) (f0 s0:Nat) (t0:Option Addr) (u0 v0:Nat) (f1:Int) (c0:Option Addr) (b0 d0:Nat) (g0:Option Addr) (e0 h0:Nat) (j0 r0 k0:Int) (a1:Option Addr) (z0 d1:Nat) (c1:Option Addr) (b1 e1:Nat) (R:Value->Hp->Prop) (h:Jg σ p0 a0 q0 x0 n0 o0 w0 m0 l0 y0 i0 f0 s0 t0 u0 v0 f1 c0 b0 d0 g0 e0 h0 j0 r0 k0 a1 z0 d1 c1 b1 e1 R):Ad Tryz.prog 41 #[(.agg #[.slice p0 a0 q0,.int .i64 x0,.slice n0 o0 w0,.slice m0 l0 y0,.slice i0 f0 s0,.slice t0 u0 v0,.int .i64 f1,.slice c0 b0 d0,.slice g0 e0 h0,.int .i64 j0,.int .i64 r0,.int .i64 k0,.slice a1 z0 d1,.slice c1 b1 e1])] σ R:=
 Ac IR Q9 Tryz.func41 rfl (by kernel_rfl) (by kernel_rfl) (by kernel_rfl) h
theorem Nf:Al Tryz.prog 41=true:=by kernel_rfl
abbrev UC:FuncId:=42
def K0 (σ:Hp) (_:Option Addr) (_ _:Nat) (_:Int) (_:Option Addr) (_ _:Nat) (_:Option Addr) (_ _:Nat) (_:Option Addr) (_ _:Nat) (_:Option Addr) (_ _:Nat) (_:Int) (_:Option Addr) (_ _:Nat) (_:Option Addr) (_ _:Nat) (_ _ _:Int) (a1:Option Addr) (z0 _:Nat) (c1:Option Addr) (b1 _:Nat) (h1:Option Addr) (g1 _:Nat) (ride tick:Int) (R:Value->Hp->Prop):Prop:=
 cut (α:=Hp->Prop) (fun  σ2=>∀ _:Nat->Value,rt σ2 R (.bool true)) (fun J3=>∃ I6:Nat->Int->Hp->Prop,(∃ n70,I6 n70 tick σ) /\
  ∀ n7:Nat,∀ n8:Int,∀ σ5:Hp,I6 n7 n8 σ5->∀ _:Nat->Value,cut (α:=Hp->Prop) (fun  σ10=>
  ∀ _:Nat->Value,ix h1 g1 n8 1 (fun b12 a13=>ldI σ10 .i64 b12 a13 (fun n14=>ix a1 z0 ride 1 (fun b15 a16=>
  ldI σ10 .i64 b15 a16 (fun n17=>bc (decide (n17<n14)) (rt σ10 R (.bool false)) (wk .i64 (n8+1) (fun n18=>
  bk σ10 n7 (fun m19 σ20=>I6 m19 n18 σ20)))))))) (fun J11=>cut (α:=Bool->Hp->Prop) (fun t24 σ22=>
  ∀ _:Nat->Value,bc t24 (J11 σ22) (J3 σ22)) (fun J23=>ix c1 b1 ride 1 (fun b25 a26=>
  ldI σ5 .i64 b25 a26 (fun n27=>wk .i64 (tick+n27) (fun n28=>bc (decide (n8<=n28)) (J23 (decide (n8<((g1:Nat):Int))) σ5) (J23 false σ5)))))))
def AZ:OA:=⟨[],false,[]⟩
def Sa:MAn:=(.seq (.txt []) (.cut ⟨[true],1,[],[]⟩ (.seq (.txt []) (.block (.loop ⟨[true],1,[.slot 4 (.hb 0 0),.slot 9 (.sc (.int .i64))],[(1,true),(2,true),(3,true)]⟩ (.cut ⟨[true],1,[.slot 4 (.hb 0 0)],[(1,true),(2,true),(3,true),(9,true)]⟩ (.cut ⟨[true],1,[.slot 4 (.hb 0 0),.slot 25 (.sc (.bool))],[(1,true),(2,true),(3,true),(9,true)]⟩ (.txt [AZ,AZ,AZ,AZ,AZ,AZ,AZ,AZ,AZ,⟨[],true,[]⟩]) (.cond .leaf .leaf)) (.seq (.block (.seq (.plan [] (tkOR4 10 0 AZ .done)) (.cond (.seq (.txt []) .leaf) .leaf))) (.txt [])))))) (.seq (.txt []) .leaf)))
theorem RH (σ:Hp) (p0:Option Addr) (a0 q0:Nat) (x0:Int) (n0:Option Addr) (o0 w0:Nat) (m0:Option Addr) (l0 y0:Nat) (i0:Option Addr) (f0 s0:Nat) (t0:Option Addr) (u0 v0:Nat) (f1:Int) (c0:Option Addr) (b0 d0:Nat) (g0:Option Addr) (e0 h0:Nat) (j0 r0 k0:Int) (a1:Option Addr) (z0 d1:Nat) (c1:Option Addr) (b1 e1:Nat) (h1:Option Addr) (g1 i1:Nat) (ride tick:Int) (R:Value->Hp->Prop) (h:K0 σ p0 a0 q0 x0 n0 o0 w0 m0 l0 y0 i0 f0 s0 t0 u0 v0 f1 c0 b0 d0 g0 e0 h0 j0 r0 k0 a1 z0 d1 c1 b1 e1 h1 g1 i1 ride tick R):Ad Tryz.prog 42 #[(.agg #[.slice p0 a0 q0,.int .i64 x0,.slice n0 o0 w0,.slice m0 l0 y0,.slice i0 f0 s0,.slice t0 u0 v0,.int .i64 f1,.slice c0 b0 d0,.slice g0 e0 h0,.int .i64 j0,.int .i64 r0,.int .i64 k0,.slice a1 z0 d1,.slice c1 b1 e1]),.slice h1 g1 i1,.int .i64 ride,.int .i64 tick] σ R:=
 Ac IR Sa Tryz.func42 rfl (by kernel_rfl) (by kernel_rfl) (by kernel_rfl) h
theorem Oy:Al Tryz.prog 42=true:=by kernel_rfl
abbrev T5:FuncId:=14
def Jv (σ:Hp) (p0:Option Addr) (a0 q0:Nat) (x0:Int) (n0:Option Addr) (o0 w0:Nat) (m0:Option Addr) (l0 y0:Nat) (i0:Option Addr) (f0 s0:Nat) (t0:Option Addr) (u0 v0:Nat) (f1:Int) (c0:Option Addr) (b0 d0:Nat) (g0:Option Addr) (e0 h0:Nat) (j0 r0 k0:Int) (a1:Option Addr) (z0 d1:Nat) (c1:Option Addr) (b1 e1:Nat) (h1:Option Addr) (g1 i1:Nat) (R:Value->Hp->Prop):Prop:=
 cl Tryz.prog (.func (.func 39) #[] #[]) #[(.agg #[.slice p0 a0 q0,.int .i64 x0,.slice n0 o0 w0,.slice m0 l0 y0,.slice i0 f0 s0,.slice t0 u0 v0,.int .i64 f1,.slice c0 b0 d0,.slice g0 e0 h0,.int .i64 j0,.int .i64 r0,.int .i64 k0,.slice a1 z0 d1,.slice c1 b1 e1])] σ (fun v1 σ2=>
  ∃ n3:Int,(v1=(.int .i64 n3)/\bc (!decide (n3=0)) (rt σ2 R (.tuple #[.slice none 0 0,.int .i64 n3])) (bc (decide ((500:Int)<((g1:Nat):Int))) (rt σ2 R (.tuple #[.slice none 0 0,.int .i64 2])) (cut (α:=Hp->Prop) (fun  σ5=>
  ∀ _:Nat->Value,cl Tryz.prog (.func (.func 41) #[] #[]) #[(.agg #[.slice p0 a0 q0,.int .i64 x0,.slice n0 o0 w0,.slice m0 l0 y0,.slice i0 f0 s0,.slice t0 u0 v0,.int .i64 f1,.slice c0 b0 d0,.slice g0 e0 h0,.int .i64 j0,.int .i64 r0,.int .i64 k0,.slice a1 z0 d1,.slice c1 b1 e1])] σ5 (fun v7 σ8=>
  ∃ A9:Option Addr,∃ l9 c9:Nat,(v7=(.slice A9 l9 c9)/\cut (α:=List ((Option Addr×Nat×Nat))->Hp->Prop) (fun xs13 σ11=>
  ∀ _:Nat->Value,exl 43 [.slc] xs13 σ11 (fun A14 l14 c14 σ15=>rt σ15 R (.tuple #[.slice A14 l14 c14,.int .i64 0]))) (fun J12=>
  ∃ I18:Nat->List ((Option Addr×Nat×Nat))->Int->Hp->Prop,(∃ n190,adp 43 [.slc] none 0 0 σ8 (fun (xs20:List ((Option Addr×Nat×Nat))) σ21=>
  I18 n190 xs20 0 σ21))/\∀ n19:Nat,∀ xs22:List ((Option Addr×Nat×Nat)),∀ n23:Int,∀ σ17:Hp,I18 n19 xs22 n23 σ17->∀ _:Nat->Value,bc (decide (n23<((l9:Nat):Int))) (cut (α:=List ((Option Addr×Nat×Nat))->Hp->Prop) (fun xs27 σ25=>
  ∀ _:Nat->Value,wk .i64 (n23+1) (fun n28=>bk σ25 n19 (fun m29 σ30=>I18 m29 xs27 n28 σ30))) (fun J26=>
  cut (α:=Option Addr->Nat->Nat->Hp->Prop) (fun A34 l34 c34 σ32=>∀ _:Nat->Value,Bh (List.length xs22+List.length ([(A34,l34,c34)]:List ((Option Addr×Nat×Nat)))) (J26 (xs22++([(A34,l34,c34)]:List ((Option Addr×Nat×Nat)))) σ32)) (fun J33=>
  ∃ I37:Nat->Option Addr->Nat->Nat->Int->Hp->Prop,(∃ n380,I37 n380 none 0 0 0 σ17)/\∀ n38:Nat,∀ A39:Option Addr,∀ l39 c39:Nat,∀ n40:Int,∀ σ36:Hp,I37 n38 A39 l39 c39 n40 σ36->∀ _:Nat->Value,cut (α:=Hp->Prop) (fun  σ42=>
  ∀ _:Nat->Value,cut (α:=Option Addr->Nat->Nat->Hp->Prop) (fun A47 l47 c47 σ45=>∀ _:Nat->Value,
  wk .i64 (n40+1) (fun n48=>bk σ45 n38 (fun m49 σ50=>I37 m49 A47 l47 c47 n48 σ50))) (fun J46=>cl Tryz.prog (.func (.func 42) #[] #[]) #[(.agg #[.slice p0 a0 q0,.int .i64 x0,.slice n0 o0 w0,.slice m0 l0 y0,.slice i0 f0 s0,.slice t0 u0 v0,.int .i64 f1,.slice c0 b0 d0,.slice g0 e0 h0,.int .i64 j0,.int .i64 r0,.int .i64 k0,.slice a1 z0 d1,.slice c1 b1 e1]),.slice h1 g1 i1,.int .i64 n23,.int .i64 n40] σ42 (fun v51 σ52=>
  ∃ t53:Bool,(v51=(.bool t53)/\bc (!t53) (J46 A39 l39 c39 σ52) (wk .i64 (((l39:Nat):Int)-1) (fun n54=>
  cut (α:=Bool->Hp->Prop) (fun t58 σ56=>∀ _:Nat->Value,bc t58 (wk .i64 (n40+1) (fun n59=>
  ix A39 l39 n54 2 (fun b60 a61=>ix (some ⟨b60,a61,none⟩) 2 1 1 (fun b62 a63=>st σ56 b62 a63 (.int .i64 n59) (fun σ64=>
  J46 A39 l39 c39 σ64))))) (wk .i64 (n40+1) (fun n65=>adp 44 [.int .i64,.int .i64] A39 l39 c39 σ56 (fun (xs66:List (Int×Int)) σ67=>
  Bh (List.length xs66+List.length ([(n40,n65)]:List (Int×Int))) (exl 44 [.int .i64,.int .i64] (xs66++([(n40,n65)]:List (Int×Int))) σ67 (fun A68 l68 c68 σ69=>
  J46 A68 l68 c68 σ69)))))) (fun J57=>bc (decide ((0:Int)<=n54)) (ix A39 l39 n54 2 (fun b70 a71=>
  ix (some ⟨b70,a71,none⟩) 2 1 1 (fun b72 a73=>ldI σ52 .i64 b72 a73 (fun n74=>J57 (decide (n74=n40)) σ52)))) (J57 false σ52)))))))) (fun J43=>
  cut (α:=Bool->Hp->Prop) (fun t78 σ76=>∀ _:Nat->Value,bc t78 (J43 σ76) (J33 A39 l39 c39 σ76)) (fun J77=>
  bc (decide (n40<((g1:Nat):Int))) (ix A9 l9 n23 1 (fun b79 a80=>ldB σ36 b79 a80 (fun t81=>
  J77 t81 σ36))) (J77 false σ36)))))) (J12 xs22 σ17))))) (fun J6=>∃ I84:Nat->Int->Hp->Prop,(∃ n850,I84 n850 0 σ2) /\
  ∀ n85:Nat,∀ n86:Int,∀ σ83:Hp,I84 n85 n86 σ83->∀ _:Nat->Value,bc (decide (n86<((g1:Nat):Int))) (ix h1 g1 n86 1 (fun b87 a88=>
  ldI σ83 .i64 b87 a88 (fun n89=>cl Tryz.prog (.func (.func 40) #[] #[]) #[.int .i64 n89,.int .i64 0,.int .i64 200] σ83 (fun v90 σ91=>
  ∃ t92:Bool,(v90=(.bool t92)/\bc (!t92) (rt σ91 R (.tuple #[.slice none 0 0,.int .i64 1])) (wk .i64 (n86+1) (fun n93=>
  bk σ91 n85 (fun m94 σ95=>I84 m94 n93 σ95)))))))) (J6 σ83))))))
def QD:MAn:=(.seq (.txt []) (.seq (.txt []) (.seq (.seq (.txt []) (.cond (.seq (.txt []) .leaf) .leaf)) (.seq (.seq (.txt []) (.cond (.seq (.txt []) .leaf) .leaf)) (.cut ⟨[true],1,[.slot 2 (.hb 0 0)],[(1,true)]⟩ (.seq (.txt []) (.block (.loop ⟨[true],1,[.slot 2 (.hb 0 0),.slot 7 (.sc (.int .i64))],[(1,true)]⟩ (.seq (.seq (.txt []) (.cond .leaf .leaf)) (.seq (.block (.seq (.txt []) (.cond (.seq (.txt []) .leaf) .leaf))) (.txt [])))))) (.seq (.txt []) (.seq (.txt []) (.cut ⟨[true],2,[.slot 9 (.lst 1 43 [.slc])],[]⟩ (.seq (.txt []) (.block (.loop ⟨[true],2,[.slot 2 (.hb 0 0),.slot 9 (.lst 1 43 [.slc]),.slot 10 (.sc (.int .i64))],[(1,true),(8,true)]⟩ (.seq (.seq (.txt []) (.cond .leaf .leaf)) (.cut ⟨[true,false],2,[.slot 2 (.hb 0 0),.slot 9 (.lst 1 43 [.slc])],[(1,true),(8,true),(10,true)]⟩ (.block (.seq (.txt []) (.cut ⟨[true,true],2,[.slot 2 (.hb 0 0),.slot 9 (.hl 1 0),.slot 11 (.sc (.slc))],[(1,true),(8,true),(10,true)]⟩ (.seq (.txt []) (.block (.loop ⟨[true,true],2,[.slot 2 (.hb 0 0),.slot 9 (.hl 1 0),.slot 11 (.sc (.slc)),.slot 12 (.sc (.int .i64))],[(1,true),(8,true),(10,true)]⟩ (.cut ⟨[true,true],2,[.slot 2 (.hb 0 0),.slot 9 (.hl 1 0)],[(1,true),(8,true),(10,true),(11,true),(12,true)]⟩ (.cut ⟨[true,true],2,[.slot 2 (.hb 0 0),.slot 9 (.hl 1 0),.slot 51 (.sc (.bool))],[(1,true),(8,true),(10,true),(11,true),(12,true)]⟩ (.txt [⟨[],false,[]⟩,⟨[],false,[]⟩,⟨[],false,[]⟩,⟨[],false,[]⟩,⟨[],true,[]⟩]) (.cond .leaf .leaf)) (.cut ⟨[true,true],2,[.slot 2 (.hb 0 0),.slot 9 (.hl 1 0),.slot 11 (.sc (.slc))],[(1,true),(8,true),(10,true),(12,true)]⟩ (.block (.seq (.seq (.txt []) (.cond .leaf .leaf)) (.seq (.txt []) (.cut ⟨[true,true],2,[.slot 2 (.hb 0 0),.slot 9 (.hl 1 0),.slot 73 (.sc (.bool))],[(1,true),(8,true),(10,true),(11,true),(12,true),(13,true)]⟩ (.txt [⟨[],false,[]⟩,⟨[],false,[]⟩,⟨[],true,[]⟩]) (.cond (.txt []) (.txt [])))))) (.txt [])))))) (.txt [])))) (.txt [])))))) (.seq (.txt []) .leaf)))))))))
theorem Rj (σ:Hp) (p0:Option Addr) (a0 q0:Nat) (x0:Int) (n0:Option Addr) (o0 w0:Nat) (m0:Option Addr) (l0 y0:Nat) (i0:Option Addr) (f0 s0:Nat) (t0:Option Addr) (u0 v0:Nat) (f1:Int) (c0:Option Addr) (b0 d0:Nat) (g0:Option Addr) (e0 h0:Nat) (j0 r0 k0:Int) (a1:Option Addr) (z0 d1:Nat) (c1:Option Addr) (b1 e1:Nat) (h1:Option Addr) (g1 i1:Nat) (R:Value->Hp->Prop) (h:Jv σ p0 a0 q0 x0 n0 o0 w0 m0 l0 y0 i0 f0 s0 t0 u0 v0 f1 c0 b0 d0 g0 e0 h0 j0 r0 k0 a1 z0 d1 c1 b1 e1 h1 g1 i1 R):Ad Tryz.prog 14 #[(.agg #[.slice p0 a0 q0,.int .i64 x0,.slice n0 o0 w0,.slice m0 l0 y0,.slice i0 f0 s0,.slice t0 u0 v0,.int .i64 f1,.slice c0 b0 d0,.slice g0 e0 h0,.int .i64 j0,.int .i64 r0,.int .i64 k0,.slice a1 z0 d1,.slice c1 b1 e1]),.slice h1 g1 i1] σ R:=
 Ac IR QD Tryz.func14 rfl (by kernel_rfl) (by kernel_rfl) (by kernel_rfl) h
theorem NE:Al Tryz.prog 14=true:=by kernel_rfl
abbrev Tz:FuncId:=13
def JN (σ:Hp) (p0:Option Addr) (a0 q0:Nat) (x0:Int) (n0:Option Addr) (o0 _:Nat) (m0:Option Addr) (l0 _:Nat) (i0:Option Addr) (f0 _:Nat) (t0:Option Addr) (u0 v0:Nat) (f1:Int) (c0:Option Addr) (b0 d0:Nat) (g0:Option Addr) (e0 h0:Nat) (j0 r0 k0:Int) (a1:Option Addr) (z0 d1:Nat) (c1:Option Addr) (b1 e1:Nat) (R:Value->Hp->Prop):Prop:=
 cl Tryz.prog (.func (.func 38) #[] #[]) #[(.agg #[.slice p0 a0 q0,.int .i64 x0])] σ (fun v1 σ2=>
  ∃ A3:Option Addr,∃ l3 c3:Nat,∃ n4:Int,(v1=(.agg #[.slice A3 l3 c3,.int .i64 n4]) /\
  cut (α:=Option Addr->Nat->Nat->Int->Option Addr->Nat->Nat->Option Addr->Nat->Nat->Option Addr->Nat->Nat->Option Addr->Nat->Nat->Int->Option Addr->Nat->Nat->Option Addr->Nat->Nat->Int->Int->Int->Option Addr->Nat->Nat->Option Addr->Nat->Nat->Hp->Prop) (fun A8 l8 c8 n9 A10 l10 c10 A11 l11 c11 A12 l12 c12 _ _ _ n14 _ _ _ _ _ _ n17 n18 n19 _ _ _ _ _ _ σ6=>
  ∀ _:Nat->Value,∃ ys22:List (Int×Int×Int×Int×Int),RdS [.int .i64,.int .i64,.int .i64,.int .i64,.int .i64] σ6 t0 u0 ys22 /\
  Bh (List.length ([]:List (Int×Int×Int×Int×Int))+List.length ys22) (∃ ys23:List (Int×Int×Int×Int),RdS [.int .i64,.int .i64,.int .i64,.int .i64] σ6 c0 b0 ys23 /\
  Bh (List.length ([]:List (Int×Int×Int×Int))+List.length ys23) (∃ ys24:List (Int×Int×Int×Int),RdS [.int .i64,.int .i64,.int .i64,.int .i64] σ6 g0 e0 ys24 /\
  Bh (List.length ([]:List (Int×Int×Int×Int))+List.length ys24) (∃ ys25:List Int,RdS [.int .i64] σ6 a1 z0 ys25 /\
  Bh (List.length ([]:List Int)+List.length ys25) (∃ ys26:List Int,RdS [.int .i64] σ6 c1 b1 ys26 /\
  Bh (List.length ([]:List Int)+List.length ys26) (exl 136 [.int .i64,.int .i64,.int .i64,.int .i64,.int .i64] (([]:List (Int×Int×Int×Int×Int))++ys22) σ6 (fun A27 l27 c27 σ28=>
  exl 138 [.int .i64,.int .i64,.int .i64,.int .i64] (([]:List (Int×Int×Int×Int))++ys23) σ28 (fun A29 l29 c29 σ30=>
  exl 140 [.int .i64,.int .i64,.int .i64,.int .i64] (([]:List (Int×Int×Int×Int))++ys24) σ30 (fun A31 l31 c31 σ32=>
  exl 3 [.int .i64] (([]:List Int)++ys25) σ32 (fun A33 l33 c33 σ34=>exl 3 [.int .i64] (([]:List Int)++ys26) σ34 (fun A35 l35 c35 σ36=>
  rt σ36 R (.agg #[.slice A8 l8 c8,.int .i64 n9,.slice A10 l10 c10,.slice A11 l11 c11,.slice A12 l12 c12,.slice A27 l27 c27,.int .i64 n14,.slice A29 l29 c29,.slice A31 l31 c31,.int .i64 n17,.int .i64 n18,.int .i64 n19,.slice A33 l33 c33,.slice A35 l35 c35])))))))))))) (fun J7=>
  ((∃ ys37:List (Int×Int×Int×Bool),RdS [.int .i64,.int .i64,.int .i64,.bool] σ2 n0 o0 ys37 /\
  Bh (List.length ([]:List (Int×Int×Int×Bool))+List.length ys37) (((∃ ys38:List Int,RdS [.int .i64] σ2 m0 l0 ys38 /\
  Bh (List.length ([]:List Int)+List.length ys38) (∃ ys39:List Int,RdS [.int .i64] σ2 i0 f0 ys39 /\
  Bh (List.length ([]:List Int)+List.length ys39) (exl 270 [.int .i64,.int .i64,.int .i64,.bool] (([]:List (Int×Int×Int×Bool))++ys37) σ2 (fun A40 l40 c40 σ41=>
  exl 3 [.int .i64] (([]:List Int)++ys38) σ41 (fun A42 l42 c42 σ43=>exl 3 [.int .i64] (([]:List Int)++ys39) σ43 (fun A44 l44 c44 σ45=>
  J7 A3 l3 c3 n4 A40 l40 c40 A42 l42 c42 A44 l44 c44 t0 u0 v0 f1 c0 b0 d0 g0 e0 h0 j0 r0 k0 a1 z0 d1 c1 b1 e1 σ45)))))) /\
  (∃ ys46:List Int,RdS [.int .i64] σ2 m0 l0 ys46/\Bh (List.length ([]:List Int)+List.length ys46) (∃ ys47:List Int,RdS [.int .i64] σ2 i0 f0 ys47 /\
  Bh (List.length ([]:List Int)+List.length ys47) (exl 270 [.int .i64,.int .i64,.int .i64,.bool] (([]:List (Int×Int×Int×Bool))++ys37) σ2 (fun A48 l48 c48 σ49=>
  exl 3 [.int .i64] (([]:List Int)++ys46) σ49 (fun A50 l50 c50 σ51=>exl 3 [.int .i64] (([]:List Int)++ys47) σ51 (fun A52 l52 c52 σ53=>
  J7 A3 l3 c3 n4 A48 l48 c48 A50 l50 c50 A52 l52 c52 t0 u0 v0 f1 c0 b0 d0 g0 e0 h0 j0 r0 k0 a1 z0 d1 c1 b1 e1 σ53))))))))) /\
  ((∃ ys54:List (Int×Int×Int×Bool),RdS [.int .i64,.int .i64,.int .i64,.bool] σ2 n0 o0 ys54 /\
  Bh (List.length ([]:List (Int×Int×Int×Bool))+List.length ys54) (((∃ ys55:List Int,RdS [.int .i64] σ2 m0 l0 ys55 /\
  Bh (List.length ([]:List Int)+List.length ys55) (∃ ys56:List Int,RdS [.int .i64] σ2 i0 f0 ys56 /\
  Bh (List.length ([]:List Int)+List.length ys56) (exl 270 [.int .i64,.int .i64,.int .i64,.bool] (([]:List (Int×Int×Int×Bool))++ys54) σ2 (fun A57 l57 c57 σ58=>
  exl 3 [.int .i64] (([]:List Int)++ys55) σ58 (fun A59 l59 c59 σ60=>exl 3 [.int .i64] (([]:List Int)++ys56) σ60 (fun A61 l61 c61 σ62=>
  J7 A3 l3 c3 n4 A57 l57 c57 A59 l59 c59 A61 l61 c61 t0 u0 v0 f1 c0 b0 d0 g0 e0 h0 j0 r0 k0 a1 z0 d1 c1 b1 e1 σ62)))))) /\
  (∃ ys63:List Int,RdS [.int .i64] σ2 m0 l0 ys63/\Bh (List.length ([]:List Int)+List.length ys63) (∃ ys64:List Int,RdS [.int .i64] σ2 i0 f0 ys64 /\
  Bh (List.length ([]:List Int)+List.length ys64) (exl 270 [.int .i64,.int .i64,.int .i64,.bool] (([]:List (Int×Int×Int×Bool))++ys54) σ2 (fun A65 l65 c65 σ66=>
  exl 3 [.int .i64] (([]:List Int)++ys63) σ66 (fun A67 l67 c67 σ68=>exl 3 [.int .i64] (([]:List Int)++ys64) σ68 (fun A69 l69 c69 σ70=>
  J7 A3 l3 c3 n4 A65 l65 c65 A67 l67 c67 A69 l69 c69 t0 u0 v0 f1 c0 b0 d0 g0 e0 h0 j0 r0 k0 a1 z0 d1 c1 b1 e1 σ70))))))))) /\
  (∃ ys71:List (Int×Int×Int×Bool),RdS [.int .i64,.int .i64,.int .i64,.bool] σ2 n0 o0 ys71 /\
  Bh (List.length ([]:List (Int×Int×Int×Bool))+List.length ys71) (∃ ys72:List Int,RdS [.int .i64] σ2 m0 l0 ys72 /\
  Bh (List.length ([]:List Int)+List.length ys72) (∃ ys73:List Int,RdS [.int .i64] σ2 i0 f0 ys73 /\
  Bh (List.length ([]:List Int)+List.length ys73) (exl 270 [.int .i64,.int .i64,.int .i64,.bool] (([]:List (Int×Int×Int×Bool))++ys71) σ2 (fun A74 l74 c74 σ75=>
  exl 3 [.int .i64] (([]:List Int)++ys72) σ75 (fun A76 l76 c76 σ77=>exl 3 [.int .i64] (([]:List Int)++ys73) σ77 (fun A78 l78 c78 σ79=>
  J7 A3 l3 c3 n4 A74 l74 c74 A76 l76 c76 A78 l78 c78 t0 u0 v0 f1 c0 b0 d0 g0 e0 h0 j0 r0 k0 a1 z0 d1 c1 b1 e1 σ79)))))))) /\
  ((∃ ys80:List (Int×Int×Int×Bool),RdS [.int .i64,.int .i64,.int .i64,.bool] σ2 n0 o0 ys80 /\
  Bh (List.length ([]:List (Int×Int×Int×Bool))+List.length ys80) (∃ ys81:List Int,RdS [.int .i64] σ2 m0 l0 ys81 /\
  Bh (List.length ([]:List Int)+List.length ys81) (∃ ys82:List Int,RdS [.int .i64] σ2 i0 f0 ys82 /\
  Bh (List.length ([]:List Int)+List.length ys82) (exl 270 [.int .i64,.int .i64,.int .i64,.bool] (([]:List (Int×Int×Int×Bool))++ys80) σ2 (fun A83 l83 c83 σ84=>
  exl 3 [.int .i64] (([]:List Int)++ys81) σ84 (fun A85 l85 c85 σ86=>exl 3 [.int .i64] (([]:List Int)++ys82) σ86 (fun A87 l87 c87 σ88=>
  J7 A3 l3 c3 n4 A83 l83 c83 A85 l85 c85 A87 l87 c87 t0 u0 v0 f1 c0 b0 d0 g0 e0 h0 j0 r0 k0 a1 z0 d1 c1 b1 e1 σ88))))))) /\
  (∃ ys89:List (Int×Int×Int×Bool),RdS [.int .i64,.int .i64,.int .i64,.bool] σ2 n0 o0 ys89 /\
  Bh (List.length ([]:List (Int×Int×Int×Bool))+List.length ys89) (∃ ys90:List Int,RdS [.int .i64] σ2 m0 l0 ys90 /\
  Bh (List.length ([]:List Int)+List.length ys90) (∃ ys91:List Int,RdS [.int .i64] σ2 i0 f0 ys91 /\
  Bh (List.length ([]:List Int)+List.length ys91) (exl 270 [.int .i64,.int .i64,.int .i64,.bool] (([]:List (Int×Int×Int×Bool))++ys89) σ2 (fun A92 l92 c92 σ93=>
  exl 3 [.int .i64] (([]:List Int)++ys90) σ93 (fun A94 l94 c94 σ95=>exl 3 [.int .i64] (([]:List Int)++ys91) σ95 (fun A96 l96 c96 σ97=>
  J7 A3 l3 c3 n4 A92 l92 c92 A94 l94 c94 A96 l96 c96 t0 u0 v0 f1 c0 b0 d0 g0 e0 h0 j0 r0 k0 a1 z0 d1 c1 b1 e1 σ97))))))))))))
def Az:OA:=⟨[],false,[]⟩
def Cx:MPlan:=(.alt 14 false Az (.take 15 Az (.take 16 Az (.alt 17 false Az .done .done))) .done)
def Kk:MPlan:=(.alt 9 false Az (.take 13 Az Cx) (.alt 13 true Az (.alt 9 false Az Cx .done) .done))
def Rm:MAn:=(.seq (.txt []) (.seq (.txt []) (.seq (.txt []) (.cut ⟨[true,true,false],3,[.slot 1 (.hb 0 0),.slot 2 (.hb 1 0),.slot 3 (.hb 2 0),.modb 2 35 [.sc (.slc),.sc (.int .i64),.sc (.slc),.sc (.slc),.sc (.slc),.sc (.slc),.sc (.int .i64),.sc (.slc),.sc (.slc),.sc (.int .i64),.sc (.int .i64),.sc (.int .i64),.sc (.slc),.sc (.slc)]],[]⟩ (.plan [4,9,14,17] (.take 1 Az (.take 2 Az (.take 3 Az (.take 6 Az (.take 7 Az (.take 11 Az (.take 12 Az (.new 0 Az (.new 5 Az (.new 10 Az (.alt 4 false Az (.take 8 Az Kk) (.alt 8 true Az (.alt 4 false Az Kk (.alt 13 true Az (.alt 4 false Az (.alt 9 false Az Cx .done) .done) .done)) (.alt 13 true Az (.alt 4 false Az (.take 8 Az (.alt 9 false Az Cx .done)) (.alt 8 true Az (.alt 4 false Az (.alt 9 false Az Cx .done) .done) .done)) .done)))))))))))))) (.seq (.txt []) (.seq (.txt []) (.seq (.txt []) (.seq (.txt []) (.seq (.txt []) (.seq (.txt []) .leaf))))))))))
theorem Rn (σ:Hp) (p0:Option Addr) (a0 q0:Nat) (x0:Int) (n0:Option Addr) (o0 w0:Nat) (m0:Option Addr) (l0 y0:Nat) (i0:Option Addr) (f0 s0:Nat) (t0:Option Addr) (u0 v0:Nat) (f1:Int) (c0:Option Addr) (b0 d0:Nat) (g0:Option Addr) (e0 h0:Nat) (j0 r0 k0:Int) (a1:Option Addr) (z0 d1:Nat) (c1:Option Addr) (b1 e1:Nat) (R:Value->Hp->Prop) (h:JN σ p0 a0 q0 x0 n0 o0 w0 m0 l0 y0 i0 f0 s0 t0 u0 v0 f1 c0 b0 d0 g0 e0 h0 j0 r0 k0 a1 z0 d1 c1 b1 e1 R):Ad Tryz.prog 13 #[(.agg #[.slice p0 a0 q0,.int .i64 x0,.slice n0 o0 w0,.slice m0 l0 y0,.slice i0 f0 s0,.slice t0 u0 v0,.int .i64 f1,.slice c0 b0 d0,.slice g0 e0 h0,.int .i64 j0,.int .i64 r0,.int .i64 k0,.slice a1 z0 d1,.slice c1 b1 e1])] σ R:=
 Ac IR Rm Tryz.func13 rfl (by kernel_rfl) (by kernel_rfl) (by kernel_rfl) h
theorem M6:Al Tryz.prog 13=true:=by kernel_rfl
end Go.Proofs.YtoelhdjloaknbaaGreat
