/- Trimmed by wip/trim.py to what this claim rests on. -/
import Derived.Test.YthhadkggldcolaaGreatVB11
namespace Go.Proofs.YthhadkggldcolaaGreat
set_option maxRecDepth 100000
open Go.RowKit
def tkVR4:Nat->Nat->OA->MPlan->MPlan
 |0,_,_,x=>x
 |n+1,i,a,x=>.take i a (tkVR4 n (i+1) a x)
theorem Ho:Tryz.prog.follows .mixedOrders=true:=by kernel_rfl
abbrev Pp:FuncId:=61
def KO (σ:Hp) (n low high:Int) (R:Value->Hp->Prop):Prop:=
 bc (decide (low<=n)) (rt σ R (.bool (decide (n<=high)))) (rt σ R (.bool false))
def So:MAn:=(.seq (.txt []) (.seq (.txt [⟨[],false,[]⟩,⟨[],false,[]⟩,⟨[],false,[]⟩,⟨[],true,[]⟩]) .leaf))
theorem R8 (σ:Hp) (n low high:Int) (R:Value->Hp->Prop) (h:KO σ n low high R):Af Tryz.prog 61 #[.int .i64 n,.int .i64 low,.int .i64 high] σ R:=
 Ae Ho So Tryz.func61 rfl (by kernel_rfl) (by kernel_rfl) (by kernel_rfl) h
theorem Pc:Ao Tryz.prog 61=true:=by kernel_rfl
abbrev Uv:FuncId:=21
def H9 (σ:Hp) (j0:Option Addr) (a0 k0:Nat) (t0:Int) (p0:Option Addr) (q0 v0:Nat) (o0:Option Addr) (n0 u0:Nat) (h0:Option Addr) (g0 r0:Nat) (x0:Option Addr) (w0 y0:Nat) (f1:Int) (b0:Option Addr) (c0 d0:Nat) (f0:Option Addr) (e0 i0:Nat) (m0 s0 l0:Int) (a1:Option Addr) (z0 _:Nat) (d1:Option Addr) (c1 _:Nat) (R:Value->Hp->Prop):Prop:=
 cl Tryz.prog (.func (.func 58) #[] #[]) #[(.agg #[.slice j0 a0 k0,.int .i64 t0]),.slice none 0 0] σ (fun v1 σ2=>
  ∃ n3:Int,(v1=(.int .i64 n3)/\bc (!decide (n3=0)) (rt σ2 R (.int .i64 n3)) (cl Tryz.prog (.func (.func 59) #[] #[]) #[(.agg #[.slice p0 q0 v0,.slice o0 n0 u0,.slice h0 g0 r0]),.slice x0 w0 y0] σ2 (fun v4 σ5=>
  ∃ n6 n7:Int,(v4=(.tuple #[.int .i64 n6,.int .i64 n7])/\bc (!decide (n7=0)) (rt σ5 R (.int .i64 n7)) (cl Tryz.prog (.func (.func 60) #[] #[]) #[(.agg #[.slice b0 c0 d0,.slice f0 e0 i0,.int .i64 m0,.int .i64 s0,.int .i64 l0])] σ5 (fun v8 σ9=>
  ∃ n10:Int,(v8=(.int .i64 n10)/\bc (!decide (n10=0)) (rt σ9 R (.int .i64 n10)) (cut (α:=Hp->Prop) (fun  σ12=>
  ∀ _:Nat->Value,cut (α:=Hp->Prop) (fun  σ15=>∀ _:Nat->Value,rt σ15 R (.int .i64 0)) (fun J16=>
  ∃ I19:Nat->Int->Hp->Prop,(∃ n200,I19 n200 0 σ12)/\∀ n20:Nat,∀ n21:Int,∀ σ18:Hp,I19 n20 n21 σ18->∀ _:Nat->Value,bc (decide (n21<((a0:Nat):Int))) (cut (α:=Hp->Prop) (fun  σ23=>
  ∀ _:Nat->Value,wk .i64 (n21+1) (fun n25=>bk σ23 n20 (fun m26 σ27=>I19 m26 n25 σ27))) (fun J24=>
  cut (α:=Bool->Hp->Prop) (fun t31 σ29=>∀ _:Nat->Value,bc t31 (rt σ29 R (.int .i64 120)) (J24 σ29)) (fun J30=>
  ix a1 z0 n21 1 (fun b32 a33=>ldI σ18 .i64 b32 a33 (fun n34=>cl Tryz.prog (.func (.func 61) #[] #[]) #[.int .i64 n34,.int .i64 0,.int .i64 200] σ18 (fun v35 σ36=>
  ∃ t37:Bool,(v35=(.bool t37)/\bc (!t37) (J30 true σ36) (ix d1 c1 n21 1 (fun b38 a39=>
  ldI σ36 .i64 b38 a39 (fun n40=>cl Tryz.prog (.func (.func 61) #[] #[]) #[.int .i64 n40,.int .i64 0,.int .i64 100] σ36 (fun v41 σ42=>
  ∃ t43:Bool,(v41=(.bool t43)/\J30 (!t43) σ42)))))))))))) (J16 σ18))) (fun J13=>cut (α:=Bool->Hp->Prop) (fun t47 σ45=>
  ∀ _:Nat->Value,bc t47 (rt σ45 R (.int .i64 120)) (J13 σ45)) (fun J46=>bc (!decide (((g0:Nat):Int)=((a0:Nat):Int))) (J46 true σ9) (bc (!decide (((e0:Nat):Int)=((a0:Nat):Int))) (J46 true σ9) (bc (!decide (((z0:Nat):Int)=((a0:Nat):Int))) (J46 true σ9) (bc (!decide (((c1:Nat):Int)=((a0:Nat):Int))) (J46 true σ9) (cl Tryz.prog (.func (.func 61) #[] #[]) #[.int .i64 f1,.int .i64 0,.int .i64 10000] σ9 (fun v48 σ49=>
  ∃ t50:Bool,(v48=(.bool t50)/\J46 (!t50) σ49)))))))))))))))))
def AB:OA:=⟨[],false,[]⟩
def Rp:MAn:=(.seq (.txt []) (.seq (.txt []) (.seq (.seq (.txt []) (.cond (.seq (.txt []) .leaf) .leaf)) (.seq (.txt []) (.seq (.seq (.txt []) (.cond (.seq (.txt []) .leaf) .leaf)) (.seq (.txt []) (.seq (.seq (.txt []) (.cond (.seq (.txt []) .leaf) .leaf)) (.seq (.txt []) (.cut ⟨[true],1,[.slot 1 (.hb 0 0)],[(4,true)]⟩ (.cut ⟨[true],1,[.slot 1 (.hb 0 0),.slot 66 (.sc (.bool))],[(4,true)]⟩ (.txt [AB,AB,AB,AB,AB,AB,⟨[],true,[]⟩,AB,AB,AB,AB,AB,AB,AB,⟨[],true,[]⟩,AB,AB,AB,AB,AB,AB,⟨[],true,[]⟩,AB,AB,AB,AB,AB,AB,⟨[],true,[]⟩]) (.cond (.seq (.txt []) .leaf) .leaf)) (.cut ⟨[true],1,[],[]⟩ (.seq (.txt []) (.block (.loop ⟨[true],1,[.slot 1 (.hb 0 0),.slot 5 (.sc (.int .i64))],[(4,true)]⟩ (.seq (.seq (.txt []) (.cond .leaf .leaf)) (.cut ⟨[true],1,[.slot 1 (.hb 0 0)],[(4,true),(5,true)]⟩ (.block (.cut ⟨[true],1,[.slot 1 (.hb 0 0),.slot 87 (.sc (.bool))],[(4,true),(5,true)]⟩ (.txt [AB,AB,AB,AB,AB,AB,AB,⟨[],true,[]⟩]) (.cond (.seq (.txt []) .leaf) .leaf))) (.txt [])))))) (.seq (.txt []) .leaf)))))))))))
theorem QP (σ:Hp) (j0:Option Addr) (a0 k0:Nat) (t0:Int) (p0:Option Addr) (q0 v0:Nat) (o0:Option Addr) (n0 u0:Nat) (h0:Option Addr) (g0 r0:Nat) (x0:Option Addr) (w0 y0:Nat) (f1:Int) (b0:Option Addr) (c0 d0:Nat) (f0:Option Addr) (e0 i0:Nat) (m0 s0 l0:Int) (a1:Option Addr) (z0 b1:Nat) (d1:Option Addr) (c1 e1:Nat) (R:Value->Hp->Prop) (h:H9 σ j0 a0 k0 t0 p0 q0 v0 o0 n0 u0 h0 g0 r0 x0 w0 y0 f1 b0 c0 d0 f0 e0 i0 m0 s0 l0 a1 z0 b1 d1 c1 e1 R):Af Tryz.prog 21 #[(.agg #[.slice j0 a0 k0,.int .i64 t0,.slice p0 q0 v0,.slice o0 n0 u0,.slice h0 g0 r0,.slice x0 w0 y0,.int .i64 f1,.slice b0 c0 d0,.slice f0 e0 i0,.int .i64 m0,.int .i64 s0,.int .i64 l0,.slice a1 z0 b1,.slice d1 c1 e1])] σ R:=
 Ae Ho Rp Tryz.func21 rfl (by kernel_rfl) (by kernel_rfl) (by kernel_rfl) h
theorem Nn:Ao Tryz.prog 21=true:=by kernel_rfl
abbrev We:FuncId:=50
def KJ (σ:Hp) (_:Option Addr) (a0 _:Nat) (_:Int) (p0:Option Addr) (q0 v0:Nat) (o0:Option Addr) (n0 u0:Nat) (h0:Option Addr) (g0 r0:Nat) (x0:Option Addr) (w0 y0:Nat) (f1:Int) (b0:Option Addr) (c0 d0:Nat) (f0:Option Addr) (e0 i0:Nat) (m0 s0 l0:Int) (_:Option Addr) (_ _:Nat) (_:Option Addr) (_ _:Nat) (R:Value->Hp->Prop):Prop:=
 (0<=((a0:Nat):Int)/\((a0:Nat):Int)<=((a0:Nat):Int) /\
  ((a0:Nat):Int)<=(1000000000:Int)/\cl Tryz.prog (.func (.func 96) #[] #[]) #[(.agg #[.slice p0 q0 v0,.slice o0 n0 u0,.slice h0 g0 r0]),.slice x0 w0 y0,.int .i64 f1] σ (fun v1 σ2=>
  ∃ A3:Option Addr,∃ l3 c3:Nat,∃ n4:Int,(v1=(.tuple #[.slice A3 l3 c3,.int .i64 n4]) /\
  cut (α:=List Bool->Hp->Prop) (fun xs8 σ6=>∀ _:Nat->Value,exl 4 [.bool] xs8 σ6 (fun A9 l9 c9 σ10=>
  rt σ10 R (.slice A9 l9 c9))) (fun J7=>∃ I13:Nat->Int->Int->List Bool->Hp->Prop,(∃ n140,I13 n140 0 0 (List.replicate (((a0:Nat):Int):Int).toNat false:List Bool) σ2) /\
  ∀ n14:Nat,∀ n15 n16:Int,∀ xs17:List Bool,∀ σ12:Hp,I13 n14 n15 n16 xs17 σ12->∀ _:Nat->Value,bc (decide (n16<((l3:Nat):Int))) (cut (α:=Int->List Bool->Hp->Prop) (fun n21 xs22 σ19=>
  ∀ _:Nat->Value,wk .i64 (n16+1) (fun n23=>bk σ19 n14 (fun m24 σ25=>I13 m24 n21 n23 xs22 σ25))) (fun J20=>
  ix A3 l3 n16 1 (fun b26 a27=>ldI σ12 .i64 b26 a27 (fun n28=>wk .u64 (n28) (fun n29=>(0<=n29 /\
  wk .i64 (1*2^(min (n29:Int).toNat (IntKind.bits .i64))) (fun n30=>wk .i64 (((BitVec.ofInt (IntKind.bits .i64) n15 ||| BitVec.ofInt (IntKind.bits .i64) n30).toNat:Int)) (fun n31=>
  cl Tryz.prog (.func (.func 97) #[] #[]) #[(.agg #[.slice b0 c0 d0,.slice f0 e0 i0,.int .i64 m0,.int .i64 s0,.int .i64 l0]),.int .i64 n31] σ12 (fun v32 σ33=>
  ∃ n34:Int,∃ t35:Bool,∃ n36:Int,(v32=(.tuple #[.int .i64 n34,.bool t35,.int .i64 n36]) /\
  bc t35 (wk .u64 (n28) (fun n37=>(0<=n37/\wk .i64 (1*2^(min (n37:Int).toNat (IntKind.bits .i64))) (fun n38=>
  wk .i64 (((BitVec.ofInt (IntKind.bits .i64) n15 ||| BitVec.ofInt (IntKind.bits .i64) n38).toNat:Int)) (fun n39=>
  (0<=n28/\n28<((List.length xs17:Nat):Int)/\lat xs17 ((n28:Int).toNat) (fun _=>J20 n39 (List.set xs17 ((n28:Int).toNat) true) σ33))))))) (J20 n15 xs17 σ33))))))))))) (J7 xs17 σ12)))))
def SA:MAn:=(.seq (.txt []) (.seq (.txt []) (.seq (.txt []) (.seq (.txt []) (.cut ⟨[true,false],2,[.slot 3 (.hl 1 0),.modl 1 0 4 [.bool]],[]⟩ (.seq (.txt []) (.block (.loop ⟨[true,false],2,[.slot 1 (.hb 0 0),.slot 3 (.hl 1 0),.slot 6 (.sc (.int .i64)),.slot 7 (.sc (.int .i64)),.modl 1 0 4 [.bool]],[(4,true)]⟩ (.seq (.seq (.txt []) (.cond .leaf .leaf)) (.cut ⟨[true,false],2,[.slot 1 (.hb 0 0),.slot 3 (.hl 1 0),.slot 6 (.sc (.int .i64)),.modl 1 0 4 [.bool]],[(4,true),(7,true)]⟩ (.block (.seq (.txt []) (.seq (.txt []) (.seq (.txt []) (.cond (.seq (.txt []) (.txt [])) .leaf))))) (.txt [])))))) (.seq (.txt []) .leaf))))))
theorem SK (σ:Hp) (j0:Option Addr) (a0 k0:Nat) (t0:Int) (p0:Option Addr) (q0 v0:Nat) (o0:Option Addr) (n0 u0:Nat) (h0:Option Addr) (g0 r0:Nat) (x0:Option Addr) (w0 y0:Nat) (f1:Int) (b0:Option Addr) (c0 d0:Nat) (f0:Option Addr) (e0 i0:Nat) (m0 s0 l0:Int) (a1:Option Addr) (z0 b1:Nat) (d1:Option Addr) (c1 e1:Nat) (R:Value->Hp->Prop) (h:KJ σ j0 a0 k0 t0 p0 q0 v0 o0 n0 u0 h0 g0 r0 x0 w0 y0 f1 b0 c0 d0 f0 e0 i0 m0 s0 l0 a1 z0 b1 d1 c1 e1 R):Af Tryz.prog 50 #[(.agg #[.slice j0 a0 k0,.int .i64 t0,.slice p0 q0 v0,.slice o0 n0 u0,.slice h0 g0 r0,.slice x0 w0 y0,.int .i64 f1,.slice b0 c0 d0,.slice f0 e0 i0,.int .i64 m0,.int .i64 s0,.int .i64 l0,.slice a1 z0 b1,.slice d1 c1 e1])] σ R:=
 Ae Ho SA Tryz.func50 rfl (by kernel_rfl) (by kernel_rfl) (by kernel_rfl) h
theorem O3:Ao Tryz.prog 50=true:=by kernel_rfl
abbrev NJ:FuncId:=71
def DC (σ:Hp) (j0:Option Addr) (a0 k0:Nat) (t0:Int) (p0:Option Addr) (q0 v0:Nat) (o0:Option Addr) (n0 u0:Nat) (h0:Option Addr) (g0 r0:Nat) (x0:Option Addr) (w0 y0:Nat) (f1:Int) (b0:Option Addr) (c0 d0:Nat) (f0:Option Addr) (e0 i0:Nat) (m0 s0 l0:Int) (a1:Option Addr) (z0 b1:Nat) (d1:Option Addr) (c1 e1:Nat) (l_A:Option Addr) (l_n l_c:Nat) (R:Value->Hp->Prop):Prop:=
 cl Tryz.prog (.func (.func 21) #[] #[]) #[(.agg #[.slice j0 a0 k0,.int .i64 t0,.slice p0 q0 v0,.slice o0 n0 u0,.slice h0 g0 r0,.slice x0 w0 y0,.int .i64 f1,.slice b0 c0 d0,.slice f0 e0 i0,.int .i64 m0,.int .i64 s0,.int .i64 l0,.slice a1 z0 b1,.slice d1 c1 e1])] σ (fun v1 σ2=>
  ∃ n3:Int,(v1=(.int .i64 n3)/\bc (!decide (n3=0)) (rt σ2 R (.int .i64 n3)) (cl Tryz.prog (.func (.func 58) #[] #[]) #[(.agg #[.slice j0 a0 k0,.int .i64 t0]),.slice l_A l_n l_c] σ2 (fun v4 σ5=>
  ∃ n6:Int,(v4=(.int .i64 n6)/\rt σ5 R (.int .i64 n6))))))
def KK:MAn:=(.seq (.txt []) (.seq (.txt []) (.seq (.seq (.txt []) (.cond (.seq (.txt []) .leaf) .leaf)) (.seq (.txt []) .leaf))))
theorem J0 (σ:Hp) (j0:Option Addr) (a0 k0:Nat) (t0:Int) (p0:Option Addr) (q0 v0:Nat) (o0:Option Addr) (n0 u0:Nat) (h0:Option Addr) (g0 r0:Nat) (x0:Option Addr) (w0 y0:Nat) (f1:Int) (b0:Option Addr) (c0 d0:Nat) (f0:Option Addr) (e0 i0:Nat) (m0 s0 l0:Int) (a1:Option Addr) (z0 b1:Nat) (d1:Option Addr) (c1 e1:Nat) (l_A:Option Addr) (l_n l_c:Nat) (R:Value->Hp->Prop) (h:DC σ j0 a0 k0 t0 p0 q0 v0 o0 n0 u0 h0 g0 r0 x0 w0 y0 f1 b0 c0 d0 f0 e0 i0 m0 s0 l0 a1 z0 b1 d1 c1 e1 l_A l_n l_c R):Af Tryz.prog 71 #[(.agg #[.slice j0 a0 k0,.int .i64 t0,.slice p0 q0 v0,.slice o0 n0 u0,.slice h0 g0 r0,.slice x0 w0 y0,.int .i64 f1,.slice b0 c0 d0,.slice f0 e0 i0,.int .i64 m0,.int .i64 s0,.int .i64 l0,.slice a1 z0 b1,.slice d1 c1 e1]),.slice l_A l_n l_c] σ R:=
 Ae Ho KK Tryz.func71 rfl (by kernel_rfl) (by kernel_rfl) (by kernel_rfl) h
theorem HS:Ao Tryz.prog 71=true:=by kernel_rfl
abbrev VW:FuncId:=73
def Ko (σ:Hp) (j0:Option Addr) (a0 k0:Nat) (t0:Int) (p0:Option Addr) (q0 v0:Nat) (o0:Option Addr) (n0 u0:Nat) (h0:Option Addr) (g0 r0:Nat) (x0:Option Addr) (w0 y0:Nat) (f1:Int) (b0:Option Addr) (c0 d0:Nat) (f0:Option Addr) (e0 i0:Nat) (m0 s0 l0:Int) (a1:Option Addr) (z0 b1:Nat) (d1:Option Addr) (c1 e1:Nat) (l_A:Option Addr) (l_n l_c:Nat) (R:Value->Hp->Prop):Prop:=
 cl Tryz.prog (.func (.func 50) #[] #[]) #[(.agg #[.slice j0 a0 k0,.int .i64 t0,.slice p0 q0 v0,.slice o0 n0 u0,.slice h0 g0 r0,.slice x0 w0 y0,.int .i64 f1,.slice b0 c0 d0,.slice f0 e0 i0,.int .i64 m0,.int .i64 s0,.int .i64 l0,.slice a1 z0 b1,.slice d1 c1 e1])] σ (fun v1 σ2=>
  ∃ A3:Option Addr,∃ l3 c3:Nat,(v1=(.slice A3 l3 c3)/\cl Tryz.prog (.func (.func 70) #[] #[]) #[.slice l_A l_n l_c] σ2 (fun v4 σ5=>
  ∃ A6:Option Addr,∃ l6 c6:Nat,(v4=(.slice A6 l6 c6)/\cut (α:=List ((Option Addr×Nat×Nat))->Hp->Prop) (fun xs10 σ8=>
  ∀ _:Nat->Value,exl 26 [.slc] xs10 σ8 (fun A11 l11 c11 σ12=>rt σ12 R (.tuple #[.slice A6 l6 c6,.slice A11 l11 c11]))) (fun J9=>
  ∃ I15:Nat->List ((Option Addr×Nat×Nat))->Int->Hp->Prop,(∃ n160,adp 26 [.slc] none 0 0 σ5 (fun (xs17:List ((Option Addr×Nat×Nat))) σ18=>
  I15 n160 xs17 0 σ18))/\∀ n16:Nat,∀ xs19:List ((Option Addr×Nat×Nat)),∀ n20:Int,∀ σ14:Hp,I15 n16 xs19 n20 σ14->∀ _:Nat->Value,bc (decide (n20<((l6:Nat):Int))) (cut (α:=List ((Option Addr×Nat×Nat))->Hp->Prop) (fun xs24 σ22=>
  ∀ _:Nat->Value,wk .i64 (n20+1) (fun n25=>bk σ22 n16 (fun m26 σ27=>I15 m26 xs24 n25 σ27))) (fun J23=>
  cut (α:=Option Addr->Nat->Nat->Option Addr->Nat->Nat->Hp->Prop) (fun A31 l31 c31 A32 l32 c32 σ29=>
  ∀ _:Nat->Value,ix A6 l6 n20 5 (fun b33 a34=>st σ29 b33 (a34+3) (.slice A31 l31 c31) (fun σ35=>
  Bm (List.length xs19+List.length ([(A32,l32,c32)]:List ((Option Addr×Nat×Nat)))) (J23 (xs19++([(A32,l32,c32)]:List ((Option Addr×Nat×Nat)))) σ35)))) (fun J30=>
  ∃ I38:Nat->Option Addr->Nat->Nat->Option Addr->Nat->Nat->Int->Hp->Prop,(∃ n390,I38 n390 none 0 0 none 0 0 0 σ14) /\
  ∀ n39:Nat,∀ A40:Option Addr,∀ l40 c40:Nat,∀ A41:Option Addr,∀ l41 c41:Nat,∀ n42:Int,∀ σ37:Hp,I38 n39 A40 l40 c40 A41 l41 c41 n42 σ37->∀ _:Nat->Value,ix l_A l_n n20 5 (fun b43 a44=>
  ldS σ37 b43 (a44+3) (fun _ l45 _=>bc (decide (n42<((l45:Nat):Int))) (cut (α:=Option Addr->Nat->Nat->Option Addr->Nat->Nat->Hp->Prop) (fun A49 l49 c49 A50 l50 c50 σ47=>
  ∀ _:Nat->Value,wk .i64 (n42+1) (fun n51=>bk σ47 n39 (fun m52 σ53=>I38 m52 A49 l49 c49 A50 l50 c50 n51 σ53))) (fun J48=>
  ix l_A l_n n20 5 (fun b54 a55=>ldS σ37 b54 (a55+3) (fun A56 l56 _=>ix A56 l56 n42 1 (fun b57 a58=>
  ldI σ37 .i64 b57 a58 (fun n59=>ix A3 l3 n59 1 (fun b60 a61=>ldB σ37 b60 a61 (fun t62=>bc t62 (ix l_A l_n n20 5 (fun b63 a64=>
  ldS σ37 b63 (a64+3) (fun A65 l65 _=>ix A65 l65 n42 1 (fun b66 a67=>ldI σ37 .i64 b66 a67 (fun n68=>
  adp 3 [.int .i64] A40 l40 c40 σ37 (fun (xs69:List Int) σ70=>Bm (List.length xs69+List.length ([n68]:List Int)) (adp 3 [.int .i64] A41 l41 c41 σ70 (fun (xs71:List Int) σ72=>
  Bm (List.length xs71+List.length ([n42]:List Int)) (exl 3 [.int .i64] (xs69++([n68]:List Int)) σ72 (fun A73 l73 c73 σ74=>
  exl 3 [.int .i64] (xs71++([n42]:List Int)) σ74 (fun A75 l75 c75 σ76=>J48 A73 l73 c73 A75 l75 c75 σ76))))))))))) (J48 A40 l40 c40 A41 l41 c41 σ37))))))))) (J30 A40 l40 c40 A41 l41 c41 σ37)))))) (J9 xs19 σ14))))))
def Sr:MAn:=(.seq (.txt []) (.seq (.txt []) (.seq (.txt []) (.seq (.txt []) (.cut ⟨[true],2,[.slot 8 (.lst 1 26 [.slc])],[(7,true)]⟩ (.seq (.txt []) (.block (.loop ⟨[true],2,[.slot 8 (.lst 1 26 [.slc]),.slot 9 (.sc (.int .i64))],[(1,true),(6,true),(7,true)]⟩ (.seq (.seq (.txt []) (.cond .leaf .leaf)) (.cut ⟨[true,false],2,[.slot 8 (.lst 1 26 [.slc])],[(1,true),(6,true),(7,true),(9,true)]⟩ (.block (.seq (.txt []) (.cut ⟨[true,true],2,[.slot 8 (.hl 1 0),.slot 10 (.sc (.slc)),.slot 11 (.sc (.slc))],[(1,true),(6,true),(7,true),(9,true)]⟩ (.seq (.txt []) (.block (.loop ⟨[true,true],2,[.slot 8 (.hl 1 0),.slot 10 (.sc (.slc)),.slot 11 (.sc (.slc)),.slot 12 (.sc (.int .i64))],[(1,true),(6,true),(7,true),(9,true)]⟩ (.seq (.seq (.txt []) (.cond .leaf .leaf)) (.cut ⟨[true,true],2,[.slot 8 (.hl 1 0),.slot 10 (.sc (.slc)),.slot 11 (.sc (.slc))],[(1,true),(6,true),(7,true),(9,true),(12,true)]⟩ (.block (.seq (.txt []) (.cond (.seq (.txt []) (.txt [])) .leaf))) (.txt [])))))) (.seq (.txt []) (.txt []))))) (.txt [])))))) (.seq (.txt []) .leaf))))))
theorem SS (σ:Hp) (j0:Option Addr) (a0 k0:Nat) (t0:Int) (p0:Option Addr) (q0 v0:Nat) (o0:Option Addr) (n0 u0:Nat) (h0:Option Addr) (g0 r0:Nat) (x0:Option Addr) (w0 y0:Nat) (f1:Int) (b0:Option Addr) (c0 d0:Nat) (f0:Option Addr) (e0 i0:Nat) (m0 s0 l0:Int) (a1:Option Addr) (z0 b1:Nat) (d1:Option Addr) (c1 e1:Nat) (l_A:Option Addr) (l_n l_c:Nat) (R:Value->Hp->Prop) (h:Ko σ j0 a0 k0 t0 p0 q0 v0 o0 n0 u0 h0 g0 r0 x0 w0 y0 f1 b0 c0 d0 f0 e0 i0 m0 s0 l0 a1 z0 b1 d1 c1 e1 l_A l_n l_c R):Af Tryz.prog 73 #[(.agg #[.slice j0 a0 k0,.int .i64 t0,.slice p0 q0 v0,.slice o0 n0 u0,.slice h0 g0 r0,.slice x0 w0 y0,.int .i64 f1,.slice b0 c0 d0,.slice f0 e0 i0,.int .i64 m0,.int .i64 s0,.int .i64 l0,.slice a1 z0 b1,.slice d1 c1 e1]),.slice l_A l_n l_c] σ R:=
 Ae Ho Sr Tryz.func73 rfl (by kernel_rfl) (by kernel_rfl) (by kernel_rfl) h
theorem OR:Ao Tryz.prog 73=true:=by kernel_rfl
abbrev Wa:FuncId:=30
def KL (σ:Hp) (j0:Option Addr) (a0 k0:Nat) (t0:Int) (p0:Option Addr) (q0 v0:Nat) (o0:Option Addr) (n0 u0:Nat) (h0:Option Addr) (g0 r0:Nat) (x0:Option Addr) (w0 y0:Nat) (f1:Int) (b0:Option Addr) (c0 d0:Nat) (f0:Option Addr) (e0 i0:Nat) (m0 s0 l0:Int) (a1:Option Addr) (z0 b1:Nat) (d1:Option Addr) (c1 e1:Nat) (l_A:Option Addr) (l_n l_c:Nat) (R:Value->Hp->Prop):Prop:=
 cl Tryz.prog (.func (.func 71) #[] #[]) #[(.agg #[.slice j0 a0 k0,.int .i64 t0,.slice p0 q0 v0,.slice o0 n0 u0,.slice h0 g0 r0,.slice x0 w0 y0,.int .i64 f1,.slice b0 c0 d0,.slice f0 e0 i0,.int .i64 m0,.int .i64 s0,.int .i64 l0,.slice a1 z0 b1,.slice d1 c1 e1]),.slice l_A l_n l_c] σ (fun v1 σ2=>
  ∃ n3:Int,(v1=(.int .i64 n3)/\bc (!decide (n3=0)) (rt σ2 R (.tuple #[.slice none 0 0,.int .i64 n3])) (cl Tryz.prog (.func (.func 73) #[] #[]) #[(.agg #[.slice j0 a0 k0,.int .i64 t0,.slice p0 q0 v0,.slice o0 n0 u0,.slice h0 g0 r0,.slice x0 w0 y0,.int .i64 f1,.slice b0 c0 d0,.slice f0 e0 i0,.int .i64 m0,.int .i64 s0,.int .i64 l0,.slice a1 z0 b1,.slice d1 c1 e1]),.slice l_A l_n l_c] σ2 (fun v4 σ5=>
  ∃ A6:Option Addr,∃ l6 c6:Nat,∃ A7:Option Addr,∃ l7 c7:Nat,(v4=(.tuple #[.slice A6 l6 c6,.slice A7 l7 c7]) /\
  cl Tryz.prog (.func (.func 74) #[] #[]) #[(.agg #[.slice j0 a0 k0,.int .i64 t0]),.slice A6 l6 c6] σ5 (fun v8 σ9=>
  ∃ A10:Option Addr,∃ l10 c10:Nat,∃ n11:Int,(v8=(.tuple #[.slice A10 l10 c10,.int .i64 n11]) /\
  cut (α:=Hp->Prop) (fun  σ13=>∀ _:Nat->Value,rt σ13 R (.tuple #[.slice A10 l10 c10,.int .i64 0])) (fun J14=>
  ∃ I17:Nat->Int->Hp->Prop,(∃ n180,I17 n180 0 σ9)/\∀ n18:Nat,∀ n19:Int,∀ σ16:Hp,I17 n18 n19 σ16->∀ _:Nat->Value,bc (decide (n19<((l10:Nat):Int))) (ix A10 l10 n19 6 (fun b20 a21=>
  ldI σ16 .i64 b20 a21 (fun n22=>ix A7 l7 n22 1 (fun b23 a24=>ldS σ16 b23 a24 (fun A25 l25 _=>ix A10 l10 n19 6 (fun b26 a27=>
  ldI σ16 .i64 b26 (a27+1) (fun n28=>ix A25 l25 n28 1 (fun b29 a30=>ldI σ16 .i64 b29 a30 (fun n31=>
  ix A10 l10 n19 6 (fun b32 a33=>st σ16 b32 (a33+1) (.int .i64 n31) (fun σ34=>wk .i64 (n19+1) (fun n35=>
  bk σ34 n18 (fun m36 σ37=>I17 m36 n35 σ37))))))))))))) (J14 σ16)))))))))
def AZ:OA:=⟨[],false,[]⟩
def Sk:MAn:=(.seq (.txt []) (.seq (.txt []) (.seq (.seq (.txt []) (.cond (.seq (.txt []) .leaf) .leaf)) (.seq (.txt []) (.seq (.txt []) (.cut ⟨[true],1,[],[(9,true)]⟩ (.seq (.txt []) (.block (.loop ⟨[true],1,[.slot 11 (.sc (.int .i64))],[(8,true),(9,true)]⟩ (.seq (.seq (.txt []) (.cond .leaf .leaf)) (.seq (.block (.plan [19] (tkVR4 19 0 AZ (.alt 19 false AZ .done .done)))) (.txt [])))))) (.seq (.txt []) .leaf)))))))
theorem SW (σ:Hp) (j0:Option Addr) (a0 k0:Nat) (t0:Int) (p0:Option Addr) (q0 v0:Nat) (o0:Option Addr) (n0 u0:Nat) (h0:Option Addr) (g0 r0:Nat) (x0:Option Addr) (w0 y0:Nat) (f1:Int) (b0:Option Addr) (c0 d0:Nat) (f0:Option Addr) (e0 i0:Nat) (m0 s0 l0:Int) (a1:Option Addr) (z0 b1:Nat) (d1:Option Addr) (c1 e1:Nat) (l_A:Option Addr) (l_n l_c:Nat) (R:Value->Hp->Prop) (h:KL σ j0 a0 k0 t0 p0 q0 v0 o0 n0 u0 h0 g0 r0 x0 w0 y0 f1 b0 c0 d0 f0 e0 i0 m0 s0 l0 a1 z0 b1 d1 c1 e1 l_A l_n l_c R):Af Tryz.prog 30 #[(.agg #[.slice j0 a0 k0,.int .i64 t0,.slice p0 q0 v0,.slice o0 n0 u0,.slice h0 g0 r0,.slice x0 w0 y0,.int .i64 f1,.slice b0 c0 d0,.slice f0 e0 i0,.int .i64 m0,.int .i64 s0,.int .i64 l0,.slice a1 z0 b1,.slice d1 c1 e1]),.slice l_A l_n l_c] σ R:=
 Ae Ho Sk Tryz.func30 rfl (by kernel_rfl) (by kernel_rfl) (by kernel_rfl) h
theorem Oe:Ao Tryz.prog 30=true:=by kernel_rfl
abbrev Vf:FuncId:=17
def J2 (σ:Hp) (j0:Option Addr) (a0 k0:Nat) (t0:Int) (p0:Option Addr) (q0 _:Nat) (o0:Option Addr) (n0 _:Nat) (h0:Option Addr) (g0 _:Nat) (x0:Option Addr) (w0 y0:Nat) (f1:Int) (b0:Option Addr) (c0 d0:Nat) (f0:Option Addr) (e0 i0:Nat) (m0 s0 l0:Int) (a1:Option Addr) (z0 b1:Nat) (d1:Option Addr) (c1 e1:Nat) (R:Value->Hp->Prop):Prop:=
 cl Tryz.prog (.func (.func 34) #[] #[]) #[(.agg #[.slice j0 a0 k0,.int .i64 t0])] σ (fun v1 σ2=>
  ∃ A3:Option Addr,∃ l3 c3:Nat,∃ n4:Int,(v1=(.agg #[.slice A3 l3 c3,.int .i64 n4]) /\
  cut (α:=Option Addr->Nat->Nat->Int->Option Addr->Nat->Nat->Option Addr->Nat->Nat->Option Addr->Nat->Nat->Option Addr->Nat->Nat->Int->Option Addr->Nat->Nat->Option Addr->Nat->Nat->Int->Int->Int->Option Addr->Nat->Nat->Option Addr->Nat->Nat->Hp->Prop) (fun A8 l8 c8 n9 A10 l10 c10 A11 l11 c11 A12 l12 c12 _ _ _ n14 _ _ _ _ _ _ n17 n18 n19 _ _ _ _ _ _ σ6=>
  ∀ _:Nat->Value,∃ ys22:List (Int×Int×Int×Int×Int),RdS [.int .i64,.int .i64,.int .i64,.int .i64,.int .i64] σ6 x0 w0 ys22 /\
  Bm (List.length ([]:List (Int×Int×Int×Int×Int))+List.length ys22) (∃ ys23:List (Int×Int×Int×Int),RdS [.int .i64,.int .i64,.int .i64,.int .i64] σ6 b0 c0 ys23 /\
  Bm (List.length ([]:List (Int×Int×Int×Int))+List.length ys23) (∃ ys24:List (Int×Int×Int×Int),RdS [.int .i64,.int .i64,.int .i64,.int .i64] σ6 f0 e0 ys24 /\
  Bm (List.length ([]:List (Int×Int×Int×Int))+List.length ys24) (∃ ys25:List Int,RdS [.int .i64] σ6 a1 z0 ys25 /\
  Bm (List.length ([]:List Int)+List.length ys25) (∃ ys26:List Int,RdS [.int .i64] σ6 d1 c1 ys26 /\
  Bm (List.length ([]:List Int)+List.length ys26) (exl 162 [.int .i64,.int .i64,.int .i64,.int .i64,.int .i64] (([]:List (Int×Int×Int×Int×Int))++ys22) σ6 (fun A27 l27 c27 σ28=>
  exl 164 [.int .i64,.int .i64,.int .i64,.int .i64] (([]:List (Int×Int×Int×Int))++ys23) σ28 (fun A29 l29 c29 σ30=>
  exl 166 [.int .i64,.int .i64,.int .i64,.int .i64] (([]:List (Int×Int×Int×Int))++ys24) σ30 (fun A31 l31 c31 σ32=>
  exl 3 [.int .i64] (([]:List Int)++ys25) σ32 (fun A33 l33 c33 σ34=>exl 3 [.int .i64] (([]:List Int)++ys26) σ34 (fun A35 l35 c35 σ36=>
  rt σ36 R (.agg #[.slice A8 l8 c8,.int .i64 n9,.slice A10 l10 c10,.slice A11 l11 c11,.slice A12 l12 c12,.slice A27 l27 c27,.int .i64 n14,.slice A29 l29 c29,.slice A31 l31 c31,.int .i64 n17,.int .i64 n18,.int .i64 n19,.slice A33 l33 c33,.slice A35 l35 c35])))))))))))) (fun J7=>
  ((∃ ys37:List (Int×Int×Int×Bool),RdS [.int .i64,.int .i64,.int .i64,.bool] σ2 p0 q0 ys37 /\
  Bm (List.length ([]:List (Int×Int×Int×Bool))+List.length ys37) (((∃ ys38:List Int,RdS [.int .i64] σ2 o0 n0 ys38 /\
  Bm (List.length ([]:List Int)+List.length ys38) (∃ ys39:List Int,RdS [.int .i64] σ2 h0 g0 ys39 /\
  Bm (List.length ([]:List Int)+List.length ys39) (exl 249 [.int .i64,.int .i64,.int .i64,.bool] (([]:List (Int×Int×Int×Bool))++ys37) σ2 (fun A40 l40 c40 σ41=>
  exl 3 [.int .i64] (([]:List Int)++ys38) σ41 (fun A42 l42 c42 σ43=>exl 3 [.int .i64] (([]:List Int)++ys39) σ43 (fun A44 l44 c44 σ45=>
  J7 A3 l3 c3 n4 A40 l40 c40 A42 l42 c42 A44 l44 c44 x0 w0 y0 f1 b0 c0 d0 f0 e0 i0 m0 s0 l0 a1 z0 b1 d1 c1 e1 σ45)))))) /\
  (∃ ys46:List Int,RdS [.int .i64] σ2 o0 n0 ys46/\Bm (List.length ([]:List Int)+List.length ys46) (∃ ys47:List Int,RdS [.int .i64] σ2 h0 g0 ys47 /\
  Bm (List.length ([]:List Int)+List.length ys47) (exl 249 [.int .i64,.int .i64,.int .i64,.bool] (([]:List (Int×Int×Int×Bool))++ys37) σ2 (fun A48 l48 c48 σ49=>
  exl 3 [.int .i64] (([]:List Int)++ys46) σ49 (fun A50 l50 c50 σ51=>exl 3 [.int .i64] (([]:List Int)++ys47) σ51 (fun A52 l52 c52 σ53=>
  J7 A3 l3 c3 n4 A48 l48 c48 A50 l50 c50 A52 l52 c52 x0 w0 y0 f1 b0 c0 d0 f0 e0 i0 m0 s0 l0 a1 z0 b1 d1 c1 e1 σ53))))))))) /\
  ((∃ ys54:List (Int×Int×Int×Bool),RdS [.int .i64,.int .i64,.int .i64,.bool] σ2 p0 q0 ys54 /\
  Bm (List.length ([]:List (Int×Int×Int×Bool))+List.length ys54) (((∃ ys55:List Int,RdS [.int .i64] σ2 o0 n0 ys55 /\
  Bm (List.length ([]:List Int)+List.length ys55) (∃ ys56:List Int,RdS [.int .i64] σ2 h0 g0 ys56 /\
  Bm (List.length ([]:List Int)+List.length ys56) (exl 249 [.int .i64,.int .i64,.int .i64,.bool] (([]:List (Int×Int×Int×Bool))++ys54) σ2 (fun A57 l57 c57 σ58=>
  exl 3 [.int .i64] (([]:List Int)++ys55) σ58 (fun A59 l59 c59 σ60=>exl 3 [.int .i64] (([]:List Int)++ys56) σ60 (fun A61 l61 c61 σ62=>
  J7 A3 l3 c3 n4 A57 l57 c57 A59 l59 c59 A61 l61 c61 x0 w0 y0 f1 b0 c0 d0 f0 e0 i0 m0 s0 l0 a1 z0 b1 d1 c1 e1 σ62)))))) /\
  (∃ ys63:List Int,RdS [.int .i64] σ2 o0 n0 ys63/\Bm (List.length ([]:List Int)+List.length ys63) (∃ ys64:List Int,RdS [.int .i64] σ2 h0 g0 ys64 /\
  Bm (List.length ([]:List Int)+List.length ys64) (exl 249 [.int .i64,.int .i64,.int .i64,.bool] (([]:List (Int×Int×Int×Bool))++ys54) σ2 (fun A65 l65 c65 σ66=>
  exl 3 [.int .i64] (([]:List Int)++ys63) σ66 (fun A67 l67 c67 σ68=>exl 3 [.int .i64] (([]:List Int)++ys64) σ68 (fun A69 l69 c69 σ70=>
  J7 A3 l3 c3 n4 A65 l65 c65 A67 l67 c67 A69 l69 c69 x0 w0 y0 f1 b0 c0 d0 f0 e0 i0 m0 s0 l0 a1 z0 b1 d1 c1 e1 σ70))))))))) /\
  (∃ ys71:List (Int×Int×Int×Bool),RdS [.int .i64,.int .i64,.int .i64,.bool] σ2 p0 q0 ys71 /\
  Bm (List.length ([]:List (Int×Int×Int×Bool))+List.length ys71) (∃ ys72:List Int,RdS [.int .i64] σ2 o0 n0 ys72 /\
  Bm (List.length ([]:List Int)+List.length ys72) (∃ ys73:List Int,RdS [.int .i64] σ2 h0 g0 ys73 /\
  Bm (List.length ([]:List Int)+List.length ys73) (exl 249 [.int .i64,.int .i64,.int .i64,.bool] (([]:List (Int×Int×Int×Bool))++ys71) σ2 (fun A74 l74 c74 σ75=>
  exl 3 [.int .i64] (([]:List Int)++ys72) σ75 (fun A76 l76 c76 σ77=>exl 3 [.int .i64] (([]:List Int)++ys73) σ77 (fun A78 l78 c78 σ79=>
  J7 A3 l3 c3 n4 A74 l74 c74 A76 l76 c76 A78 l78 c78 x0 w0 y0 f1 b0 c0 d0 f0 e0 i0 m0 s0 l0 a1 z0 b1 d1 c1 e1 σ79)))))))) /\
  ((∃ ys80:List (Int×Int×Int×Bool),RdS [.int .i64,.int .i64,.int .i64,.bool] σ2 p0 q0 ys80 /\
  Bm (List.length ([]:List (Int×Int×Int×Bool))+List.length ys80) (∃ ys81:List Int,RdS [.int .i64] σ2 o0 n0 ys81 /\
  Bm (List.length ([]:List Int)+List.length ys81) (∃ ys82:List Int,RdS [.int .i64] σ2 h0 g0 ys82 /\
  Bm (List.length ([]:List Int)+List.length ys82) (exl 249 [.int .i64,.int .i64,.int .i64,.bool] (([]:List (Int×Int×Int×Bool))++ys80) σ2 (fun A83 l83 c83 σ84=>
  exl 3 [.int .i64] (([]:List Int)++ys81) σ84 (fun A85 l85 c85 σ86=>exl 3 [.int .i64] (([]:List Int)++ys82) σ86 (fun A87 l87 c87 σ88=>
  J7 A3 l3 c3 n4 A83 l83 c83 A85 l85 c85 A87 l87 c87 x0 w0 y0 f1 b0 c0 d0 f0 e0 i0 m0 s0 l0 a1 z0 b1 d1 c1 e1 σ88))))))) /\
  (∃ ys89:List (Int×Int×Int×Bool),RdS [.int .i64,.int .i64,.int .i64,.bool] σ2 p0 q0 ys89 /\
  Bm (List.length ([]:List (Int×Int×Int×Bool))+List.length ys89) (∃ ys90:List Int,RdS [.int .i64] σ2 o0 n0 ys90 /\
  Bm (List.length ([]:List Int)+List.length ys90) (∃ ys91:List Int,RdS [.int .i64] σ2 h0 g0 ys91 /\
  Bm (List.length ([]:List Int)+List.length ys91) (exl 249 [.int .i64,.int .i64,.int .i64,.bool] (([]:List (Int×Int×Int×Bool))++ys89) σ2 (fun A92 l92 c92 σ93=>
  exl 3 [.int .i64] (([]:List Int)++ys90) σ93 (fun A94 l94 c94 σ95=>exl 3 [.int .i64] (([]:List Int)++ys91) σ95 (fun A96 l96 c96 σ97=>
  J7 A3 l3 c3 n4 A92 l92 c92 A94 l94 c94 A96 l96 c96 x0 w0 y0 f1 b0 c0 d0 f0 e0 i0 m0 s0 l0 a1 z0 b1 d1 c1 e1 σ97))))))))))))
def AF:OA:=⟨[],false,[]⟩
def CU:MPlan:=(.alt 14 false AF (.take 15 AF (.take 16 AF (.alt 17 false AF .done .done))) .done)
def KY:MPlan:=(.alt 9 false AF (.take 13 AF CU) (.alt 13 true AF (.alt 9 false AF CU .done) .done))
def Sp:MAn:=(.seq (.txt []) (.seq (.txt []) (.seq (.txt []) (.cut ⟨[true,true,false],3,[.slot 1 (.hb 0 0),.slot 2 (.hb 1 0),.slot 3 (.hb 2 0),.modb 2 35 [.sc (.slc),.sc (.int .i64),.sc (.slc),.sc (.slc),.sc (.slc),.sc (.slc),.sc (.int .i64),.sc (.slc),.sc (.slc),.sc (.int .i64),.sc (.int .i64),.sc (.int .i64),.sc (.slc),.sc (.slc)]],[]⟩ (.plan [4,9,14,17] (.take 1 AF (.take 2 AF (.take 3 AF (.take 6 AF (.take 7 AF (.take 11 AF (.take 12 AF (.new 0 AF (.new 5 AF (.new 10 AF (.alt 4 false AF (.take 8 AF KY) (.alt 8 true AF (.alt 4 false AF KY (.alt 13 true AF (.alt 4 false AF (.alt 9 false AF CU .done) .done) .done)) (.alt 13 true AF (.alt 4 false AF (.take 8 AF (.alt 9 false AF CU .done)) (.alt 8 true AF (.alt 4 false AF (.alt 9 false AF CU .done) .done) .done)) .done)))))))))))))) (.seq (.txt []) (.seq (.txt []) (.seq (.txt []) (.seq (.txt []) (.seq (.txt []) (.seq (.txt []) .leaf))))))))))
theorem Sy (σ:Hp) (j0:Option Addr) (a0 k0:Nat) (t0:Int) (p0:Option Addr) (q0 v0:Nat) (o0:Option Addr) (n0 u0:Nat) (h0:Option Addr) (g0 r0:Nat) (x0:Option Addr) (w0 y0:Nat) (f1:Int) (b0:Option Addr) (c0 d0:Nat) (f0:Option Addr) (e0 i0:Nat) (m0 s0 l0:Int) (a1:Option Addr) (z0 b1:Nat) (d1:Option Addr) (c1 e1:Nat) (R:Value->Hp->Prop) (h:J2 σ j0 a0 k0 t0 p0 q0 v0 o0 n0 u0 h0 g0 r0 x0 w0 y0 f1 b0 c0 d0 f0 e0 i0 m0 s0 l0 a1 z0 b1 d1 c1 e1 R):Af Tryz.prog 17 #[(.agg #[.slice j0 a0 k0,.int .i64 t0,.slice p0 q0 v0,.slice o0 n0 u0,.slice h0 g0 r0,.slice x0 w0 y0,.int .i64 f1,.slice b0 c0 d0,.slice f0 e0 i0,.int .i64 m0,.int .i64 s0,.int .i64 l0,.slice a1 z0 b1,.slice d1 c1 e1])] σ R:=
 Ae Ho Sp Tryz.func17 rfl (by kernel_rfl) (by kernel_rfl) (by kernel_rfl) h
theorem O4:Ao Tryz.prog 17=true:=by kernel_rfl
end Go.Proofs.YthhadkggldcolaaGreat
