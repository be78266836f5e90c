/- Trimmed by wip/trim.py to what this claim rests on. -/
import Derived.Test.YtoelhdjloaknbaaGreatOB11
namespace Go.Proofs.YtoelhdjloaknbaaGreat
set_option maxRecDepth 100000
open Go.RowKit
def tkON3:Nat->Nat->OA->MPlan->MPlan
 |0,_,_,x=>x
 |n+1,i,a,x=>.take i a (tkON3 n (i+1) a x)
theorem B5:Tryz.prog.follows .mixedOrders=true:=by kernel_rfl
abbrev Lp:FuncId:=35
def GH (σ:Hp) (n low high:Int) (R:Value->Hp->Prop):Prop:=
 bc (decide (low<=n)) (rt σ R (.bool (decide (n<=high)))) (rt σ R (.bool false))
def OF:MAn:=(.seq (.txt []) (.seq (.txt [⟨[],false,[]⟩,⟨[],false,[]⟩,⟨[],false,[]⟩,⟨[],true,[]⟩]) .leaf))
theorem O7 (σ:Hp) (n low high:Int) (R:Value->Hp->Prop) (h:GH σ n low high R):Ad Tryz.prog 35 #[.int .i64 n,.int .i64 low,.int .i64 high] σ R:=
 Ac B5 OF Tryz.func35 rfl (by kernel_rfl) (by kernel_rfl) (by kernel_rfl) h
theorem LJ:Al Tryz.prog 35=true:=by kernel_rfl
abbrev SP:FuncId:=32
def HU (σ:Hp) (c0:Option Addr) (a0 f0:Nat) (p0:Int) (r0:Option Addr) (s0 m0:Nat) (u0:Option Addr) (q0 t0:Nat) (l0:Option Addr) (g0 k0:Nat) (w0:Option Addr) (x0 y0:Nat) (g1:Int) (e0:Option Addr) (d0 b0:Nat) (i0:Option Addr) (h0 j0:Nat) (n0 v0 o0:Int) (a1:Option Addr) (z0 c1:Nat) (e1:Option Addr) (d1 f1:Nat) (R:Value->Hp->Prop):Prop:=
 cl Tryz.prog (.func (.func 68) #[] #[]) #[(.agg #[.slice c0 a0 f0,.int .i64 p0]),.slice none 0 0] σ (fun v1 σ2=>
  ∃ n3:Int,(v1=(.int .i64 n3)/\bc (!decide (n3=0)) (rt σ2 R (.int .i64 n3)) (cl Tryz.prog (.func (.func 69) #[] #[]) #[(.agg #[.slice r0 s0 m0,.slice u0 q0 t0,.slice l0 g0 k0]),.slice w0 x0 y0] σ2 (fun v4 σ5=>
  ∃ n6 n7:Int,(v4=(.tuple #[.int .i64 n6,.int .i64 n7])/\bc (!decide (n7=0)) (rt σ5 R (.int .i64 n7)) (cl Tryz.prog (.func (.func 70) #[] #[]) #[(.agg #[.slice e0 d0 b0,.slice i0 h0 j0,.int .i64 n0,.int .i64 v0,.int .i64 o0])] σ5 (fun v8 σ9=>
  ∃ n10:Int,(v8=(.int .i64 n10)/\bc (!decide (n10=0)) (rt σ9 R (.int .i64 n10)) (cut (α:=Hp->Prop) (fun  σ12=>
  ∀ _:Nat->Value,rt σ12 R (.int .i64 0)) (fun J13=>cut (α:=Bool->Hp->Prop) (fun t17 σ15=>
  ∀ _:Nat->Value,bc t17 (rt σ15 R (.int .i64 120)) (cut (α:=Bool->Hp->Prop) (fun t21 σ19=>∀ _:Nat->Value,
  bc t21 (rt σ19 R (.int .i64 120)) (J13 σ19)) (fun J20=>cl Tryz.prog (.func (.func 71) #[] #[]) #[.int .i64 200] σ15 (fun v22 σ23=>
  ∃ v24:Value,(v22=v24/\(Hp.Sub σ15 σ23/\cl Tryz.prog (.func (.func 33) #[] #[]) #[.slice a1 z0 c1,v24] σ23 (fun v25 σ26=>
  ∃ t27:Bool,(v25=(.bool t27)/\bc t27 (J20 t27 σ26) (cl Tryz.prog (.func (.func 71) #[] #[]) #[.int .i64 100] σ26 (fun v28 σ29=>
  ∃ v30:Value,(v28=v30/\(Hp.Sub σ26 σ29/\cl Tryz.prog (.func (.func 33) #[] #[]) #[.slice e1 d1 f1,v30] σ29 (fun v31 σ32=>
  ∃ t33:Bool,(v31=(.bool t33)/\J20 t33 σ32)))))))))))))) (fun J16=>bc (!decide (((g0:Nat):Int)=((a0:Nat):Int))) (J16 (!decide (((g0:Nat):Int)=((a0:Nat):Int))) σ9) (bc (!decide (((h0:Nat):Int)=((a0:Nat):Int))) (J16 (!decide (((h0:Nat):Int)=((a0:Nat):Int))) σ9) (bc (!decide (((z0:Nat):Int)=((a0:Nat):Int))) (J16 (!decide (((z0:Nat):Int)=((a0:Nat):Int))) σ9) (bc (!decide (((d1:Nat):Int)=((a0:Nat):Int))) (J16 (!decide (((d1:Nat):Int)=((a0:Nat):Int))) σ9) (cl Tryz.prog (.func (.func 35) #[] #[]) #[.int .i64 g1,.int .i64 0,.int .i64 10000] σ9 (fun v34 σ35=>
  ∃ t36:Bool,(v34=(.bool t36)/\J16 (!t36) σ35)))))))))))))))))
def Cg:OA:=⟨[],false,[]⟩
def IA:MAn:=(.plan [4] (.take 0 Cg (.take 1 Cg (.take 2 Cg (.alt 3 true Cg (.alt 4 false Cg (.take 5 Cg .done) .done) .done)))))
def PQ:MAn:=(.seq (.txt []) (.seq (.seq (.txt []) (.seq (.txt []) (.cond (.seq (.txt []) .leaf) .leaf))) (.seq (.seq (.txt []) (.seq (.txt []) (.cond (.seq (.txt []) .leaf) .leaf))) (.seq (.seq (.txt []) (.seq (.txt []) (.cond (.seq (.txt []) .leaf) .leaf))) (.seq (.txt []) (.seq (.txt []) (.cut ⟨[true],1,[],[]⟩ (.block (.cut ⟨[true],1,[.slot 1 (.hb 0 0),.slot 36 (.sc (.bool))],[(8,true)]⟩ (.seq (.txt []) (.cond .leaf (.seq (.txt []) (.cond .leaf (.seq (.txt []) (.cond .leaf (.seq (.txt []) (.cond .leaf (.txt []))))))))) (.cond (.seq (.txt []) .leaf) (.cut ⟨[true],1,[.slot 63 (.sc (.bool))],[]⟩ (.seq IA (.cond .leaf IA)) (.cond (.seq (.txt []) .leaf) .leaf))))) (.seq (.txt []) .leaf))))))))
theorem P2 (σ:Hp) (c0:Option Addr) (a0 f0:Nat) (p0:Int) (r0:Option Addr) (s0 m0:Nat) (u0:Option Addr) (q0 t0:Nat) (l0:Option Addr) (g0 k0:Nat) (w0:Option Addr) (x0 y0:Nat) (g1:Int) (e0:Option Addr) (d0 b0:Nat) (i0:Option Addr) (h0 j0:Nat) (n0 v0 o0:Int) (a1:Option Addr) (z0 c1:Nat) (e1:Option Addr) (d1 f1:Nat) (R:Value->Hp->Prop) (h:HU σ c0 a0 f0 p0 r0 s0 m0 u0 q0 t0 l0 g0 k0 w0 x0 y0 g1 e0 d0 b0 i0 h0 j0 n0 v0 o0 a1 z0 c1 e1 d1 f1 R):Ad Tryz.prog 32 #[(.agg #[.slice c0 a0 f0,.int .i64 p0,.slice r0 s0 m0,.slice u0 q0 t0,.slice l0 g0 k0,.slice w0 x0 y0,.int .i64 g1,.slice e0 d0 b0,.slice i0 h0 j0,.int .i64 n0,.int .i64 v0,.int .i64 o0,.slice a1 z0 c1,.slice e1 d1 f1])] σ R:=
 Ac B5 PQ Tryz.func32 rfl (by kernel_rfl) (by kernel_rfl) (by kernel_rfl) h
theorem Dq:Al Tryz.prog 32=true:=by kernel_rfl
abbrev QU:FuncId:=71
def Kj (σ:Hp) (most:Int) (R:Value->Hp->Prop):Prop:=
 bx σ (.cells #[.int .i64 most] 3) (fun b1 σ2=>rt σ2 R (.func (.func 72) #[] #[(.pointer (some ⟨b1,0,none⟩))]))
def Nh:MAn:=(.seq (.txt []) (.seq (.txt []) .leaf))
theorem M2 (σ:Hp) (most:Int) (R:Value->Hp->Prop) (h:Kj σ most R):Ad Tryz.prog 71 #[.int .i64 most] σ R:=
 Ac B5 Nh Tryz.func71 rfl (by kernel_rfl) (by kernel_rfl) (by kernel_rfl) h
theorem EX:Al Tryz.prog 71=true:=by kernel_rfl
abbrev Hm:FuncId:=72
def Er (σ:Hp) (x:Int) (cap0:Option Addr) (R:Value->Hp->Prop):Prop:=
 dr cap0 (fun b1 o2=>ldI σ .i64 b1 o2 (fun n3=>cl Tryz.prog (.func (.func 35) #[] #[]) #[.int .i64 x,.int .i64 0,.int .i64 n3] σ (fun v4 σ5=>
  ∃ t6:Bool,(v4=(.bool t6)/\rt σ5 R (.bool (!t6))))))
def Ld:MAn:=(.seq (.txt []) (.seq (.txt []) .leaf))
theorem LK (σ:Hp) (x:Int) (cap0:Option Addr) (R:Value->Hp->Prop) (h:Er σ x cap0 R):Ad Tryz.prog 72 #[.int .i64 x,.pointer cap0] σ R:=
 Ac B5 Ld Tryz.func72 rfl (by kernel_rfl) (by kernel_rfl) (by kernel_rfl) h
theorem IU:Al Tryz.prog 72=true:=by kernel_rfl
abbrev SO:FuncId:=36
def HQ (σ:Hp) (_:Option Addr) (_ _:Nat) (_:Int) (r0:Option Addr) (s0 m0:Nat) (u0:Option Addr) (q0 t0:Nat) (l0:Option Addr) (g0 k0:Nat) (w0:Option Addr) (x0 y0:Nat) (g1:Int) (e0:Option Addr) (d0 b0:Nat) (i0:Option Addr) (h0 j0:Nat) (n0 v0 o0:Int) (_:Option Addr) (_ _:Nat) (_:Option Addr) (_ _:Nat) (R:Value->Hp->Prop):Prop:=
 cl Tryz.prog (.func (.func 74) #[] #[]) #[(.agg #[.slice r0 s0 m0,.slice u0 q0 t0,.slice l0 g0 k0]),.slice w0 x0 y0,.int .i64 g1] σ (fun v1 σ2=>
  ∃ A3:Option Addr,∃ l3 c3:Nat,∃ n4:Int,(v1=(.tuple #[.slice A3 l3 c3,.int .i64 n4]) /\
  bc (!decide (n4=0)) (rt σ2 R (.slice none 0 0)) (cut (α:=Option Addr->Nat->Nat->Hp->Prop) (fun A8 l8 c8 σ6=>
  ∀ _:Nat->Value,rt σ6 R (.slice A8 l8 c8)) (fun J7=>∃ I11:Nat->Option Addr->Nat->Nat->Int->Int->Hp->Prop,(∃ n120,I11 n120 none 0 0 0 0 σ2) /\
  ∀ n12:Nat,∀ A13:Option Addr,∀ l13 c13:Nat,∀ n14 n15:Int,∀ σ10:Hp,I11 n12 A13 l13 c13 n14 n15 σ10->∀ _:Nat->Value,bc (decide (n15<((l3:Nat):Int))) (cut (α:=Option Addr->Nat->Nat->Int->Hp->Prop) (fun A19 l19 c19 n20 σ17=>
  ∀ _:Nat->Value,wk .i64 (n15+1) (fun n21=>bk σ17 n12 (fun m22 σ23=>I11 m22 A19 l19 c19 n20 n21 σ23))) (fun J18=>
  ix A3 l3 n15 1 (fun b24 a25=>ldI σ10 .i64 b24 a25 (fun n26=>(0<=n26/\wk .i64 (1*2^(min (n26:Int).toNat (IntKind.bits .i64))) (fun n27=>
  wk .i64 (((BitVec.ofInt (IntKind.bits .i64) n14 ||| BitVec.ofInt (IntKind.bits .i64) n27).toNat:Int)) (fun n28=>
  cl Tryz.prog (.func (.func 75) #[] #[]) #[(.agg #[.slice e0 d0 b0,.slice i0 h0 j0,.int .i64 n0,.int .i64 v0,.int .i64 o0]),.int .i64 n28] σ10 (fun v29 σ30=>
  ∃ n31:Int,∃ t32:Bool,∃ n33:Int,(v29=(.tuple #[.int .i64 n31,.bool t32,.int .i64 n33]) /\
  cut (α:=Bool->Hp->Prop) (fun t37 σ35=>∀ _:Nat->Value,bc t37 ((0<=n26/\wk .i64 (1*2^(min (n26:Int).toNat (IntKind.bits .i64))) (fun n38=>
  wk .i64 (((BitVec.ofInt (IntKind.bits .i64) n14 ||| BitVec.ofInt (IntKind.bits .i64) n38).toNat:Int)) (fun n39=>
  adp 3 [.int .i64] A13 l13 c13 σ35 (fun (xs40:List Int) σ41=>Bh (List.length xs40+List.length ([n26]:List Int)) (exl 3 [.int .i64] (xs40++([n26]:List Int)) σ41 (fun A42 l42 c42 σ43=>
  J18 A42 l42 c42 n39 σ43))))))) (J18 A13 l13 c13 n14 σ35)) (fun J36=>bc (decide (n33=0)) (J36 t32 σ30) (J36 false σ30))))))))))) (J7 A13 l13 c13 σ10)))))
def AX:OA:=⟨[],false,[]⟩
def PX:MAn:=(.seq (.txt []) (.seq (.txt []) (.seq (.seq (.txt []) (.cond (.seq (.txt []) .leaf) .leaf)) (.seq (.txt []) (.cut ⟨[true],1,[.slot 2 (.sc (.slc))],[]⟩ (.seq (.txt []) (.block (.loop ⟨[true],1,[.slot 1 (.hb 0 0),.slot 2 (.sc (.slc)),.slot 5 (.sc (.int .i64)),.slot 25 (.sc (.int .i64))],[(23,true),(24,true)]⟩ (.seq (.txt []) (.seq (.cond .leaf .leaf) (.cut ⟨[true],1,[.slot 1 (.hb 0 0),.slot 2 (.sc (.slc)),.slot 5 (.sc (.int .i64))],[(23,true),(24,true),(25,true)]⟩ (.block (.seq (.txt []) (.seq (.plan [6] (tkON3 6 0 AX (.alt 6 false AX (tkON3 7 7 AX .done) .done))) (.cut ⟨[true],1,[.slot 1 (.hb 0 0),.slot 44 (.sc (.bool))],[(2,true),(5,true),(7,true),(23,true),(24,true),(25,true)]⟩ (.txt [AX,AX,⟨[],true,[]⟩]) (.cond (.seq (.txt []) (.txt [])) .leaf))))) (.txt []))))))) (.seq (.txt []) .leaf))))))
theorem Pg (σ:Hp) (c0:Option Addr) (a0 f0:Nat) (p0:Int) (r0:Option Addr) (s0 m0:Nat) (u0:Option Addr) (q0 t0:Nat) (l0:Option Addr) (g0 k0:Nat) (w0:Option Addr) (x0 y0:Nat) (g1:Int) (e0:Option Addr) (d0 b0:Nat) (i0:Option Addr) (h0 j0:Nat) (n0 v0 o0:Int) (a1:Option Addr) (z0 c1:Nat) (e1:Option Addr) (d1 f1:Nat) (R:Value->Hp->Prop) (h:HQ σ c0 a0 f0 p0 r0 s0 m0 u0 q0 t0 l0 g0 k0 w0 x0 y0 g1 e0 d0 b0 i0 h0 j0 n0 v0 o0 a1 z0 c1 e1 d1 f1 R):Ad Tryz.prog 36 #[(.agg #[.slice c0 a0 f0,.int .i64 p0,.slice r0 s0 m0,.slice u0 q0 t0,.slice l0 g0 k0,.slice w0 x0 y0,.int .i64 g1,.slice e0 d0 b0,.slice i0 h0 j0,.int .i64 n0,.int .i64 v0,.int .i64 o0,.slice a1 z0 c1,.slice e1 d1 f1])] σ R:=
 Ac B5 PX Tryz.func36 rfl (by kernel_rfl) (by kernel_rfl) (by kernel_rfl) h
theorem Dr:Al Tryz.prog 36=true:=by kernel_rfl
abbrev SU:FuncId:=31
def HA (σ:Hp) (c0:Option Addr) (a0 f0:Nat) (p0:Int) (r0:Option Addr) (s0 m0:Nat) (u0:Option Addr) (q0 t0:Nat) (l0:Option Addr) (g0 k0:Nat) (w0:Option Addr) (x0 y0:Nat) (g1:Int) (e0:Option Addr) (d0 b0:Nat) (i0:Option Addr) (h0 j0:Nat) (n0 v0 o0:Int) (a1:Option Addr) (z0 c1:Nat) (e1:Option Addr) (d1 f1:Nat) (R:Value->Hp->Prop):Prop:=
 cl Tryz.prog (.func (.func 32) #[] #[]) #[(.agg #[.slice c0 a0 f0,.int .i64 p0,.slice r0 s0 m0,.slice u0 q0 t0,.slice l0 g0 k0,.slice w0 x0 y0,.int .i64 g1,.slice e0 d0 b0,.slice i0 h0 j0,.int .i64 n0,.int .i64 v0,.int .i64 o0,.slice a1 z0 c1,.slice e1 d1 f1])] σ (fun v1 σ2=>
  ∃ n3:Int,(v1=(.int .i64 n3)/\bc (!decide (n3=0)) (rt σ2 R (.tuple #[.slice none 0 0,.int .i64 n3])) (cl Tryz.prog (.func (.func 36) #[] #[]) #[(.agg #[.slice c0 a0 f0,.int .i64 p0,.slice r0 s0 m0,.slice u0 q0 t0,.slice l0 g0 k0,.slice w0 x0 y0,.int .i64 g1,.slice e0 d0 b0,.slice i0 h0 j0,.int .i64 n0,.int .i64 v0,.int .i64 o0,.slice a1 z0 c1,.slice e1 d1 f1])] σ2 (fun v4 σ5=>
  ∃ A6:Option Addr,∃ l6 c6:Nat,(v4=(.slice A6 l6 c6)/\rt σ5 R (.tuple #[.slice A6 l6 c6,.int .i64 0]))))))
def PO:MAn:=(.seq (.txt []) (.seq (.seq (.txt []) (.seq (.txt []) (.cond (.seq (.txt []) .leaf) .leaf))) (.seq (.txt []) .leaf)))
theorem Pv (σ:Hp) (c0:Option Addr) (a0 f0:Nat) (p0:Int) (r0:Option Addr) (s0 m0:Nat) (u0:Option Addr) (q0 t0:Nat) (l0:Option Addr) (g0 k0:Nat) (w0:Option Addr) (x0 y0:Nat) (g1:Int) (e0:Option Addr) (d0 b0:Nat) (i0:Option Addr) (h0 j0:Nat) (n0 v0 o0:Int) (a1:Option Addr) (z0 c1:Nat) (e1:Option Addr) (d1 f1:Nat) (R:Value->Hp->Prop) (h:HA σ c0 a0 f0 p0 r0 s0 m0 u0 q0 t0 l0 g0 k0 w0 x0 y0 g1 e0 d0 b0 i0 h0 j0 n0 v0 o0 a1 z0 c1 e1 d1 f1 R):Ad Tryz.prog 31 #[(.agg #[.slice c0 a0 f0,.int .i64 p0,.slice r0 s0 m0,.slice u0 q0 t0,.slice l0 g0 k0,.slice w0 x0 y0,.int .i64 g1,.slice e0 d0 b0,.slice i0 h0 j0,.int .i64 n0,.int .i64 v0,.int .i64 o0,.slice a1 z0 c1,.slice e1 d1 f1])] σ R:=
 Ac B5 PO Tryz.func31 rfl (by kernel_rfl) (by kernel_rfl) (by kernel_rfl) h
theorem L8:Al Tryz.prog 31=true:=by kernel_rfl
abbrev Od:FuncId:=37
def ED (σ:Hp) (j1:Option Addr) (h1 i1:Nat) (limit empty:Int) (R:Value->Hp->Prop):Prop:=
 (0<=((h1:Nat):Int)/\((h1:Nat):Int)<=((h1:Nat):Int)/\((h1:Nat):Int)<=(1000000000:Int) /\
  cut (α:=Option Addr->Hp->Prop) (fun p4 σ2=>∀ _:Nat->Value,cut (α:=Option Addr->Nat->Nat->Hp->Prop) (fun A8 l8 c8 σ6=>
  ∀ _:Nat->Value,rt σ6 R (.slice A8 l8 c8)) (fun J7=>dr p4 (fun b9 o10=>ldS σ2 b9 o10 (fun A11 l11 _=>
  ∃ I14:Nat->Option Addr->Nat->Nat->Int->Hp->Prop,(∃ n150,I14 n150 none 0 0 0 σ2)/\∀ n15:Nat,∀ A16:Option Addr,∀ l16 c16:Nat,∀ n17:Int,∀ σ13:Hp,I14 n15 A16 l16 c16 n17 σ13->∀ _:Nat->Value,bc (decide (n17<((l11:Nat):Int))) (cut (α:=Option Addr->Nat->Nat->Hp->Prop) (fun A21 l21 c21 σ19=>
  ∀ _:Nat->Value,wk .i64 (n17+1) (fun n22=>bk σ19 n15 (fun m23 σ24=>I14 m23 A21 l21 c21 n22 σ24))) (fun J20=>
  ix A11 l11 n17 1 (fun b25 a26=>ldB σ13 b25 a26 (fun t27=>bc (!t27) (J20 A16 l16 c16 σ13) (cut (α:=Bool->Hp->Prop) (fun t31 σ29=>
  ∀ _:Nat->Value,bc t31 (wk .i64 (((l16:Nat):Int)-1) (fun n32=>ix A16 l16 n32 2 (fun b33 a34=>
  ix (some ⟨b33,a34,none⟩) 2 1 1 (fun b35 a36=>ldI σ29 .i64 b35 a36 (fun n37=>wk .i64 (n37+1) (fun n38=>
  ix A16 l16 n32 2 (fun b39 a40=>ix (some ⟨b39,a40,none⟩) 2 1 1 (fun b41 a42=>st σ29 b41 a42 (.int .i64 n38) (fun σ43=>
  J20 A16 l16 c16 σ43))))))))) (wk .i64 (n17+1) (fun n44=>adp 44 [.int .i64,.int .i64] A16 l16 c16 σ29 (fun (xs45:List (Int×Int)) σ46=>
  Bh (List.length xs45+List.length ([(n17,n44)]:List (Int×Int))) (exl 44 [.int .i64,.int .i64] (xs45++([(n17,n44)]:List (Int×Int))) σ46 (fun A47 l47 c47 σ48=>
  J20 A47 l47 c47 σ48)))))) (fun J30=>bc (decide ((0:Int)<((l16:Nat):Int))) (wk .i64 (((l16:Nat):Int)-1) (fun n49=>
  ix A16 l16 n49 2 (fun b50 a51=>ix (some ⟨b50,a51,none⟩) 2 1 1 (fun b52 a53=>ldI σ13 .i64 b52 a53 (fun n54=>
  J30 (decide (n54=n17)) σ13))))) (J30 false σ13))))))) (J7 A16 l16 c16 σ13))))) (fun J3=>cl Tryz.prog (.func (.func 76) #[] #[]) #[.slice j1 h1 i1] σ (fun v55 σ56=>
  ∃ v57:Value,(v55=v57/\bx σ56 (.cells #[.slice j1 h1 i1] 26) (fun b58 σ59=>bx σ59 (.cells #[.int .i64 limit] 3) (fun b60 σ61=>
  bx σ61 (.cells #[.int .i64 empty] 3) (fun b62 σ63=>bx σ63 (.cells #[.int .i64 0] 3) (fun b64 σ65=>
  exl 4 [.bool] (List.replicate (((h1:Nat):Int):Int).toNat false:List Bool) σ65 (fun A66 l66 c66 σ67=>
  bx σ67 (.cells #[.slice A66 l66 c66] 53) (fun b68 σ69=>Yi Tryz.prog v57 σ69 (fun l70 Rec71 ag72 σ73 R74=>
  ∃ n78 n79:Int,(ag72=#[.int .i64 n78,.int .i64 n79]/\∀ _:Nat->Value,rgb l70 Rec71 σ73 (fun σ80=>
  ldI σ80 .i64 b64 0 (fun n81=>wk .i64 (n81+1) (fun n82=>st σ80 b64 0 (.int .i64 n82) (fun σ83=>
  cut (α:=Hp->Prop) (fun  σ85=>∀ _:Nat->Value,ldS σ85 b68 0 (fun A87 l87 _=>ldI σ85 .i64 b64 0 (fun n88=>
  ldI σ85 .i64 b62 0 (fun n89=>ldS σ85 b58 0 (fun _ l90 _=>wk .i64 (((l90:Nat):Int)-1) (fun n91=>
  wk .i64 (n91-n78) (fun n92=>ix A87 l87 n78 1 (fun b93 a94=>st σ85 b93 a94 (.bool (decide ((if n92<n89 then n92 else n89)<n88))) (fun σ95=>
  rgo l70 Rec71 R74 σ95))))))))) (fun J86=>ldI σ83 .i64 b60 0 (fun n96=>bc (decide (n96<n79)) (st σ83 b64 0 (.int .i64 0) (fun σ97=>
  J86 σ97)) (J86 σ83))))))))) (fun p75 σ76=>aft p75 (J3 (some ⟨b68,0,none⟩) σ76) (rt σ76 R (.slice none 0 0)) (fun i=>
  exb i 0 (J3 (some ⟨b68,0,none⟩) σ76) (False)))))))))))))
def AY:OA:=⟨[],false,[]⟩
def K5:MAn:=(.seq (.txt []) (.seq (.txt []) (.seq (.txt []) (.cut ⟨[false,false,false,false,false,false],6,[.slot 8 (.sc (.ptr))],[(6,true)]⟩ (.seq (.txt []) (.block (.rng [.exp 3,.exp 4,.exp 5,.exp 7,.exp 8] [(3,true),(4,true),(5,true),(7,true),(8,true)] [3,3] (.seq (.txt []) (.txt [])) (.block (.seq (.txt []) (.cut ⟨[],0,[],[(3,true),(5,true),(7,true),(8,true),(9,true)]⟩ (.seq (.txt []) (.cond (.txt []) .leaf)) (.txt []))))))) (.cut ⟨[false,false,false,false,false,false],6,[.slot 6 (.sc (.slc))],[]⟩ (.seq (.txt []) (.block (.loop ⟨[false,false,false,false,false,false],6,[.slot 6 (.sc (.slc)),.slot 40 (.sc (.int .i64))],[(38,true),(39,true)]⟩ (.seq (.txt []) (.seq (.cond .leaf .leaf) (.cut ⟨[false,false,false,false,false,false],6,[.slot 6 (.sc (.slc))],[(38,true),(39,true),(40,true)]⟩ (.block (.seq (.txt []) (.seq (.txt []) (.block (.seq (.txt []) (.cond .leaf (.cut ⟨[false,false,false,false,false,false],6,[.slot 57 (.sc (.bool))],[(6,true),(11,true),(13,true),(38,true),(39,true),(40,true)]⟩ (.txt [AY,AY,⟨[],true,[]⟩]) (.cond (.plan [9] (tkON3 9 0 AY (.alt 9 false AY .done .done))) (.txt []))))))))) (.txt []))))))) (.seq (.txt []) .leaf))))))
theorem K7 (σ:Hp) (j1:Option Addr) (h1 i1:Nat) (limit empty:Int) (R:Value->Hp->Prop) (h:ED σ j1 h1 i1 limit empty R):Ad Tryz.prog 37 #[.slice j1 h1 i1,.int .i64 limit,.int .i64 empty] σ R:=
 Ac B5 K5 Tryz.func37 rfl (by kernel_rfl) (by kernel_rfl) (by kernel_rfl) h
theorem IV:Al Tryz.prog 37=true:=by kernel_rfl
abbrev TO:FuncId:=12
def I5 (σ:Hp) (c0:Option Addr) (a0 f0:Nat) (p0:Int) (r0:Option Addr) (s0 m0:Nat) (u0:Option Addr) (q0 t0:Nat) (l0:Option Addr) (g0 k0:Nat) (w0:Option Addr) (x0 y0:Nat) (g1:Int) (e0:Option Addr) (d0 b0:Nat) (i0:Option Addr) (h0 j0:Nat) (n0 v0 o0:Int) (a1:Option Addr) (z0 c1:Nat) (e1:Option Addr) (d1 f1:Nat) (j1:Option Addr) (h1 i1:Nat) (R:Value->Hp->Prop):Prop:=
 cl Tryz.prog (.func (.func 32) #[] #[]) #[(.agg #[.slice c0 a0 f0,.int .i64 p0,.slice r0 s0 m0,.slice u0 q0 t0,.slice l0 g0 k0,.slice w0 x0 y0,.int .i64 g1,.slice e0 d0 b0,.slice i0 h0 j0,.int .i64 n0,.int .i64 v0,.int .i64 o0,.slice a1 z0 c1,.slice e1 d1 f1])] σ (fun v1 σ2=>
  ∃ n3:Int,(v1=(.int .i64 n3)/\bc (!decide (n3=0)) (rt σ2 R (.tuple #[.slice none 0 0,.int .i64 n3])) (bc (decide ((500:Int)<((h1:Nat):Int))) (rt σ2 R (.tuple #[.slice none 0 0,.int .i64 2])) (cl Tryz.prog (.func (.func 33) #[] #[]) #[.slice j1 h1 i1,(.func (.func 34) #[] #[])] σ2 (fun v4 σ5=>
  ∃ t6:Bool,(v4=(.bool t6)/\bc t6 (rt σ5 R (.tuple #[.slice none 0 0,.int .i64 1])) ((0<=((a0:Nat):Int) /\
  ((a0:Nat):Int)<=((a0:Nat):Int)/\((a0:Nat):Int)<=(1000000000:Int) /\
  cut (α:=List ((Option Addr×Nat×Nat))->Hp->Prop) (fun xs10 σ8=>∀ _:Nat->Value,exl 43 [.slc] xs10 σ8 (fun A11 l11 c11 σ12=>
  rt σ12 R (.tuple #[.slice A11 l11 c11,.int .i64 0]))) (fun J9=>cl Tryz.prog (.func (.func 36) #[] #[]) #[(.agg #[.slice c0 a0 f0,.int .i64 p0,.slice r0 s0 m0,.slice u0 q0 t0,.slice l0 g0 k0,.slice w0 x0 y0,.int .i64 g1,.slice e0 d0 b0,.slice i0 h0 j0,.int .i64 n0,.int .i64 v0,.int .i64 o0,.slice a1 z0 c1,.slice e1 d1 f1])] σ5 (fun v13 σ14=>
  ∃ A15:Option Addr,∃ l15 c15:Nat,(v13=(.slice A15 l15 c15)/\∃ I18:Nat->Int->List ((Option Addr×Nat×Nat))->Hp->Prop,(∃ n190,I18 n190 0 (List.replicate (((a0:Nat):Int):Int).toNat (none,0,0):List ((Option Addr×Nat×Nat))) σ14) /\
  ∀ n19:Nat,∀ n20:Int,∀ xs21:List ((Option Addr×Nat×Nat)),∀ σ17:Hp,I18 n19 n20 xs21 σ17->∀ _:Nat->Value,bc (decide (n20<((l15:Nat):Int))) (ix A15 l15 n20 1 (fun b22 a23=>
  ldI σ17 .i64 b22 a23 (fun n24=>ix a1 z0 n24 1 (fun b25 a26=>ldI σ17 .i64 b25 a26 (fun n27=>
  ix e1 d1 n24 1 (fun b28 a29=>ldI σ17 .i64 b28 a29 (fun n30=>cl Tryz.prog (.func (.func 37) #[] #[]) #[.slice j1 h1 i1,.int .i64 n27,.int .i64 n30] σ17 (fun v31 σ32=>
  ∃ A33:Option Addr,∃ l33 c33:Nat,(v31=(.slice A33 l33 c33)/\(0<=n24/\n24<((List.length xs21:Nat):Int) /\
  lat xs21 ((n24:Int).toNat) (fun _=>wk .i64 (n20+1) (fun n35=>bk σ32 n19 (fun m36 σ37=>I18 m36 n35 (List.set xs21 ((n24:Int).toNat) (A33,l33,c33)) σ37))))))))))))) (J9 xs21 σ17))))))))))))
def Bb:OA:=⟨[],false,[]⟩
def QK:MAn:=(.seq (.txt []) (.seq (.seq (.txt []) (.seq (.txt []) (.cond (.seq (.txt []) .leaf) .leaf))) (.seq (.seq (.txt []) (.cond (.seq (.txt []) .leaf) .leaf)) (.seq (.seq (.txt []) (.cond (.seq (.txt []) .leaf) .leaf)) (.seq (.txt []) (.cut ⟨[true,false],2,[.slot 7 (.hl 1 0),.modl 1 0 43 [.slc]],[]⟩ (.seq (.txt []) (.block (.loop ⟨[true,false],2,[.slot 2 (.hb 0 0),.slot 7 (.hl 1 0),.slot 28 (.sc (.int .i64)),.modl 1 0 43 [.slc]],[(1,true),(26,true),(27,true)]⟩ (.seq (.txt []) (.seq (.cond .leaf .leaf) (.seq (.block (.seq (.txt []) (.plan [15,13] (tkON3 13 0 Bb (.alt 13 false Bb (.take 14 Bb (.alt 15 false Bb .done .done)) .done))))) (.txt []))))))) (.seq (.txt []) .leaf)))))))
theorem Q8 (σ:Hp) (c0:Option Addr) (a0 f0:Nat) (p0:Int) (r0:Option Addr) (s0 m0:Nat) (u0:Option Addr) (q0 t0:Nat) (l0:Option Addr) (g0 k0:Nat) (w0:Option Addr) (x0 y0:Nat) (g1:Int) (e0:Option Addr) (d0 b0:Nat) (i0:Option Addr) (h0 j0:Nat) (n0 v0 o0:Int) (a1:Option Addr) (z0 c1:Nat) (e1:Option Addr) (d1 f1:Nat) (j1:Option Addr) (h1 i1:Nat) (R:Value->Hp->Prop) (h:I5 σ c0 a0 f0 p0 r0 s0 m0 u0 q0 t0 l0 g0 k0 w0 x0 y0 g1 e0 d0 b0 i0 h0 j0 n0 v0 o0 a1 z0 c1 e1 d1 f1 j1 h1 i1 R):Ad Tryz.prog 12 #[(.agg #[.slice c0 a0 f0,.int .i64 p0,.slice r0 s0 m0,.slice u0 q0 t0,.slice l0 g0 k0,.slice w0 x0 y0,.int .i64 g1,.slice e0 d0 b0,.slice i0 h0 j0,.int .i64 n0,.int .i64 v0,.int .i64 o0,.slice a1 z0 c1,.slice e1 d1 f1]),.slice j1 h1 i1] σ R:=
 Ac B5 QK Tryz.func12 rfl (by kernel_rfl) (by kernel_rfl) (by kernel_rfl) h
theorem NO:Al Tryz.prog 12=true:=by kernel_rfl
abbrev R8:FuncId:=34
def GK (σ:Hp) (w:Int) (R:Value->Hp->Prop):Prop:=
 cl Tryz.prog (.func (.func 35) #[] #[]) #[.int .i64 w,.int .i64 0,.int .i64 200] σ (fun v1 σ2=>
  ∃ t3:Bool,(v1=(.bool t3)/\rt σ2 R (.bool (!t3))))
def ON:MAn:=(.seq (.txt []) (.seq (.txt []) .leaf))
theorem N8 (σ:Hp) (w:Int) (R:Value->Hp->Prop) (h:GK σ w R):Ad Tryz.prog 34 #[.int .i64 w] σ R:=
 Ac B5 ON Tryz.func34 rfl (by kernel_rfl) (by kernel_rfl) (by kernel_rfl) h
theorem Lv:Al Tryz.prog 34=true:=by kernel_rfl
abbrev SH:FuncId:=46
def HD (σ:Hp) (c0:Option Addr) (a0 f0:Nat) (p0:Int) (r0:Option Addr) (s0 m0:Nat) (u0:Option Addr) (q0 t0:Nat) (l0:Option Addr) (g0 k0:Nat) (w0:Option Addr) (x0 y0:Nat) (g1:Int) (e0:Option Addr) (d0 b0:Nat) (i0:Option Addr) (h0 j0:Nat) (n0 v0 o0:Int) (a1:Option Addr) (z0 c1:Nat) (e1:Option Addr) (d1 f1:Nat) (l_A:Option Addr) (l_n l_c:Nat) (R:Value->Hp->Prop):Prop:=
 cl Tryz.prog (.func (.func 32) #[] #[]) #[(.agg #[.slice c0 a0 f0,.int .i64 p0,.slice r0 s0 m0,.slice u0 q0 t0,.slice l0 g0 k0,.slice w0 x0 y0,.int .i64 g1,.slice e0 d0 b0,.slice i0 h0 j0,.int .i64 n0,.int .i64 v0,.int .i64 o0,.slice a1 z0 c1,.slice e1 d1 f1])] σ (fun v1 σ2=>
  ∃ n3:Int,(v1=(.int .i64 n3)/\bc (!decide (n3=0)) (rt σ2 R (.tuple #[.pointer none,.int .i64 n3])) (cl Tryz.prog (.func (.func 68) #[] #[]) #[(.agg #[.slice c0 a0 f0,.int .i64 p0]),.slice l_A l_n l_c] σ2 (fun v4 σ5=>
  ∃ n6:Int,(v4=(.int .i64 n6)/\bc (!decide (n6=0)) (rt σ5 R (.tuple #[.pointer none,.int .i64 n6])) (cl Tryz.prog (.func (.func 36) #[] #[]) #[(.agg #[.slice c0 a0 f0,.int .i64 p0,.slice r0 s0 m0,.slice u0 q0 t0,.slice l0 g0 k0,.slice w0 x0 y0,.int .i64 g1,.slice e0 d0 b0,.slice i0 h0 j0,.int .i64 n0,.int .i64 v0,.int .i64 o0,.slice a1 z0 c1,.slice e1 d1 f1])] σ5 (fun v7 σ8=>
  ∃ A9:Option Addr,∃ l9 c9:Nat,(v7=(.slice A9 l9 c9)/\cut (α:=Option Addr->Nat->Nat->Int->List (Int×Int×Int×(Option Addr×Nat×Nat)×Int×(Option Addr×Nat×Nat))->Hp->Prop) (fun A13 l13 c13 n14 xs15 σ11=>
  ∀ _:Nat->Value,exl 115 [.int .i64,.int .i64,.int .i64,.slc,.int .i64,.slc] xs15 σ11 (fun A16 l16 c16 σ17=>
  bx σ17 (.cells #[.slice A13 l13 c13,.int .i64 n14,.slice A16 l16 c16] 118) (fun b18 σ19=>rt σ19 R (.tuple #[(.pointer (some ⟨b18,0,none⟩)),.int .i64 0])))) (fun J12=>
  ∃ I22:Nat->Int->Option Addr->Nat->Nat->Int->List (Int×Int×Int×(Option Addr×Nat×Nat)×Int×(Option Addr×Nat×Nat))->Hp->Prop,(∃ n230,adp 115 [.int .i64,.int .i64,.int .i64,.slc,.int .i64,.slc] none 0 0 σ8 (fun (xs24:List (Int×Int×Int×(Option Addr×Nat×Nat)×Int×(Option Addr×Nat×Nat))) σ25=>
  I22 n230 0 c0 a0 f0 p0 xs24 σ25))/\∀ n23:Nat,∀ n26:Int,∀ A27:Option Addr,∀ l27 c27:Nat,∀ n28:Int,∀ xs29:List (Int×Int×Int×(Option Addr×Nat×Nat)×Int×(Option Addr×Nat×Nat)),∀ σ21:Hp,I22 n23 n26 A27 l27 c27 n28 xs29 σ21->∀ _:Nat->Value,bc (decide (n26<((l_n:Nat):Int))) (cut (α:=Option Addr->Nat->Nat->Int->List (Int×Int×Int×(Option Addr×Nat×Nat)×Int×(Option Addr×Nat×Nat))->Hp->Prop) (fun A33 l33 c33 n34 xs35 σ31=>
  ∀ _:Nat->Value,wk .i64 (n26+1) (fun n36=>bk σ31 n23 (fun m37 σ38=>I22 m37 n36 A33 l33 c33 n34 xs35 σ38))) (fun J32=>
  ix l_A l_n n26 5 (fun b39 a40=>ldI σ21 .i64 b39 a40 (fun n41=>ldI σ21 .i64 b39 (a40+1) (fun n42=>
  ldI σ21 .i64 b39 (a40+2) (fun n43=>ldS σ21 b39 (a40+3) (fun A44 l44 _=>ldI σ21 .i64 b39 (a40+4) (fun n45=>
  cut (α:=Int->Int->Int->List Int->Int->List Int->Hp->Prop) (fun n49 n50 n51 xs52 n53 xs54 σ47=>
  ∀ _:Nat->Value,exl 3 [.int .i64] xs52 σ47 (fun A55 l55 c55 σ56=>exl 3 [.int .i64] xs54 σ56 (fun A57 l57 c57 σ58=>
  bx σ58 (.cells #[.int .i64 n49,.int .i64 n50,.int .i64 n51,.slice A55 l55 c55,.int .i64 n53,.slice A57 l57 c57] 115) (fun b59 σ60=>
  (Hp.Sub σ58 σ60/\∃ ys61:List (Int×Int×Int×(Option Addr×Nat×Nat)×Int×(Option Addr×Nat×Nat)),RdS [.int .i64,.int .i64,.int .i64,.slc,.int .i64,.slc] σ60 (some ⟨b59,0,none⟩) 1 ys61 /\
  Bh (List.length xs29+List.length ys61) (J32 A27 l27 c27 n28 (xs29++ys61) σ60)))))) (fun J48=>
  ∃ I64:Nat->Int->Int->Int->Int->List Int->Int->List Int->Hp->Prop,(∃ n650,adp 3 [.int .i64] none 0 0 σ21 (fun (xs66:List Int) σ67=>
  adp 3 [.int .i64] none 0 0 σ67 (fun (xs68:List Int) σ69=>I64 n650 0 n41 n42 n43 xs66 n45 xs68 σ69))) /\
  ∀ n65:Nat,∀ n70 n71:Int,∀ n72 n73:Int,∀ xs74:List Int,∀ n75:Int,∀ xs76:List Int,∀ σ63:Hp,I64 n65 n70 n71 n72 n73 xs74 n75 xs76 σ63->∀ _:Nat->Value,bc (decide (n70<((l44:Nat):Int))) (cut (α:=Int->Int->Int->List Int->Int->List Int->Hp->Prop) (fun n80 n81 n82 xs83 n84 xs85 σ78=>
  ∀ _:Nat->Value,wk .i64 (n70+1) (fun n86=>bk σ78 n65 (fun m87 σ88=>I64 m87 n86 n80 n81 n82 xs83 n84 xs85 σ88))) (fun J79=>
  ix A44 l44 n70 1 (fun b89 a90=>ldI σ63 .i64 b89 a90 (fun n91=>cl Tryz.prog (.func (.func 89) #[] #[]) #[.slice A9 l9 c9,.int .i64 n91] σ63 (fun v92 σ93=>
  ∃ t94:Bool,(v92=(.bool t94)/\bc t94 (Bh (List.length xs74+List.length ([n91]:List Int)) (Bh (List.length xs76+List.length ([n70]:List Int)) (J79 n71 n72 n73 (xs74++([n91]:List Int)) n75 (xs76++([n70]:List Int)) σ93))) (J79 n71 n72 n73 xs74 n75 xs76 σ93))))))) (J48 n71 n72 n73 xs74 n75 xs76 σ63)))))))))) (J12 A27 l27 c27 n28 xs29 σ21))))))))))
def Bp:OA:=⟨[],false,[]⟩
def Qb:MAn:=(.seq (.txt []) (.seq (.seq (.txt []) (.seq (.txt []) (.cond (.seq (.txt []) .leaf) .leaf))) (.seq (.seq (.txt []) (.seq (.txt []) (.cond (.seq (.txt []) .leaf) .leaf))) (.seq (.txt []) (.seq (.txt []) (.cut ⟨[true,false],3,[.slot 9 (.hb 1 0),.modb 1 118 [.sc (.slc),.sc (.int .i64),.lst 2 115 [.int .i64,.int .i64,.int .i64,.slc,.int .i64,.slc]]],[]⟩ (.seq (.txt []) (.block (.loop ⟨[true,false],3,[.slot 9 (.hb 1 0),.slot 35 (.sc (.int .i64)),.modb 1 118 [.sc (.slc),.sc (.int .i64),.lst 2 115 [.int .i64,.int .i64,.int .i64,.slc,.int .i64,.slc]]],[(8,true),(33,true),(34,true)]⟩ (.seq (.txt []) (.seq (.cond .leaf .leaf) (.cut ⟨[true,false,false],3,[.slot 9 (.hb 1 0),.modb 1 118 [.sc (.slc),.sc (.int .i64),.lst 2 115 [.int .i64,.int .i64,.int .i64,.slc,.int .i64,.slc]]],[(8,true),(33,true),(34,true),(35,true)]⟩ (.block (.seq (.txt []) (.seq (.txt []) (.seq (.txt []) (.cut ⟨[true,true,true,true,false],7,[.slot 9 (.hb 1 0),.slot 12 (.hb 4 0),.modb 4 115 [.sc (.int .i64),.sc (.int .i64),.sc (.int .i64),.lst 5 3 [.int .i64],.sc (.int .i64),.lst 6 3 [.int .i64]]],[(8,true),(33,true),(34,true),(35,true)]⟩ (.seq (.txt []) (.block (.loop ⟨[true,true,true,true,false],7,[.slot 9 (.hb 1 0),.slot 12 (.hb 4 0),.slot 46 (.sc (.int .i64)),.modb 4 115 [.sc (.int .i64),.sc (.int .i64),.sc (.int .i64),.lst 5 3 [.int .i64],.sc (.int .i64),.lst 6 3 [.int .i64]]],[(8,true),(33,true),(34,true),(35,true),(44,true),(45,true)]⟩ (.seq (.txt []) (.seq (.cond .leaf .leaf) (.cut ⟨[true,true,true,true,false,false,false],7,[.slot 9 (.hb 1 0),.slot 12 (.hb 4 0),.modb 4 115 [.sc (.int .i64),.sc (.int .i64),.sc (.int .i64),.lst 5 3 [.int .i64],.sc (.int .i64),.lst 6 3 [.int .i64]]],[(8,true),(33,true),(34,true),(35,true),(44,true),(45,true),(46,true)]⟩ (.block (.seq (.txt []) (.seq (.txt []) (.cond (.seq (.txt []) (.txt [])) .leaf)))) (.txt []))))))) (.plan [7,10] (tkON3 6 0 Bp (.alt 6 true Bp (.alt 7 false Bp (.take 8 Bp (.take 9 Bp (.alt 10 false Bp .done .done))) .done) .done)))))))) (.txt []))))))) (.seq (.txt []) .leaf)))))))
theorem PJ (σ:Hp) (c0:Option Addr) (a0 f0:Nat) (p0:Int) (r0:Option Addr) (s0 m0:Nat) (u0:Option Addr) (q0 t0:Nat) (l0:Option Addr) (g0 k0:Nat) (w0:Option Addr) (x0 y0:Nat) (g1:Int) (e0:Option Addr) (d0 b0:Nat) (i0:Option Addr) (h0 j0:Nat) (n0 v0 o0:Int) (a1:Option Addr) (z0 c1:Nat) (e1:Option Addr) (d1 f1:Nat) (l_A:Option Addr) (l_n l_c:Nat) (R:Value->Hp->Prop) (h:HD σ c0 a0 f0 p0 r0 s0 m0 u0 q0 t0 l0 g0 k0 w0 x0 y0 g1 e0 d0 b0 i0 h0 j0 n0 v0 o0 a1 z0 c1 e1 d1 f1 l_A l_n l_c R):Ad Tryz.prog 46 #[(.agg #[.slice c0 a0 f0,.int .i64 p0,.slice r0 s0 m0,.slice u0 q0 t0,.slice l0 g0 k0,.slice w0 x0 y0,.int .i64 g1,.slice e0 d0 b0,.slice i0 h0 j0,.int .i64 n0,.int .i64 v0,.int .i64 o0,.slice a1 z0 c1,.slice e1 d1 f1]),.slice l_A l_n l_c] σ R:=
 Ac B5 Qb Tryz.func46 rfl (by kernel_rfl) (by kernel_rfl) (by kernel_rfl) h
theorem MO:Al Tryz.prog 46=true:=by kernel_rfl
abbrev JK:FuncId:=54
def Ct (σ:Hp) (n:Option Addr) (R:Value->Hp->Prop):Prop:=
 cut (α:=List (Int×Int×Int×(Option Addr×Nat×Nat)×Int)->Hp->Prop) (fun xs4 σ2=>∀ _:Nat->Value,
  exl 65 [.int .i64,.int .i64,.int .i64,.slc,.int .i64] xs4 σ2 (fun A5 l5 c5 σ6=>rt σ6 R (.slice A5 l5 c5))) (fun J3=>
  dr n (fun b7 o8=>ldS σ b7 (o8+2) (fun A9 l9 _=>∃ I12:Nat->List (Int×Int×Int×(Option Addr×Nat×Nat)×Int)->Int->Hp->Prop,(∃ n130,adp 65 [.int .i64,.int .i64,.int .i64,.slc,.int .i64] none 0 0 σ (fun (xs14:List (Int×Int×Int×(Option Addr×Nat×Nat)×Int)) σ15=>
  I12 n130 xs14 0 σ15))/\∀ n13:Nat,∀ xs16:List (Int×Int×Int×(Option Addr×Nat×Nat)×Int),∀ n17:Int,∀ σ11:Hp,I12 n13 xs16 n17 σ11->∀ _:Nat->Value,bc (decide (n17<((l9:Nat):Int))) (ix A9 l9 n17 6 (fun b18 a19=>
  ldI σ11 .i64 b18 a19 (fun n20=>ldI σ11 .i64 b18 (a19+1) (fun n21=>ldI σ11 .i64 b18 (a19+2) (fun n22=>
  ldS σ11 b18 (a19+3) (fun A23 l23 c23=>ldI σ11 .i64 b18 (a19+4) (fun n24=>ldS σ11 b18 (a19+5) (fun _ _ _=>
  Bh (List.length xs16+List.length ([(n20,n21,n22,(A23,l23,c23),n24)]:List (Int×Int×Int×(Option Addr×Nat×Nat)×Int))) (wk .i64 (n17+1) (fun n26=>
  bk σ11 n13 (fun m27 σ28=>I12 m27 (xs16++([(n20,n21,n22,(A23,l23,c23),n24)]:List (Int×Int×Int×(Option Addr×Nat×Nat)×Int))) n26 σ28))))))))))) (J3 xs16 σ11))))
def Hj:MAn:=(.seq (.txt []) (.cut ⟨[],1,[.slot 2 (.lst 0 65 [.int .i64,.int .i64,.int .i64,.slc,.int .i64])],[]⟩ (.seq (.txt []) (.block (.loop ⟨[],1,[.slot 2 (.lst 0 65 [.int .i64,.int .i64,.int .i64,.slc,.int .i64]),.slot 10 (.sc (.int .i64))],[(8,true),(9,true)]⟩ (.seq (.txt []) (.seq (.cond .leaf .leaf) (.seq (.block (.seq (.txt []) (.txt []))) (.txt []))))))) (.seq (.txt []) .leaf)))
theorem Hb (σ:Hp) (n:Option Addr) (R:Value->Hp->Prop) (h:Ct σ n R):Ad Tryz.prog 54 #[.pointer n] σ R:=
 Ac B5 Hj Tryz.func54 rfl (by kernel_rfl) (by kernel_rfl) (by kernel_rfl) h
theorem FP:Al Tryz.prog 54=true:=by kernel_rfl
abbrev QY:FuncId:=23
def FN (σ:Hp) (c0:Option Addr) (a0 f0:Nat) (p0:Int) (r0:Option Addr) (s0 m0:Nat) (u0:Option Addr) (q0 t0:Nat) (l0:Option Addr) (g0 k0:Nat) (w0:Option Addr) (x0 y0:Nat) (g1:Int) (e0:Option Addr) (d0 b0:Nat) (i0:Option Addr) (h0 j0:Nat) (n0 v0 o0:Int) (a1:Option Addr) (z0 c1:Nat) (e1:Option Addr) (d1 f1:Nat) (l_A:Option Addr) (l_n l_c:Nat) (R:Value->Hp->Prop):Prop:=
 cl Tryz.prog (.func (.func 46) #[] #[]) #[(.agg #[.slice c0 a0 f0,.int .i64 p0,.slice r0 s0 m0,.slice u0 q0 t0,.slice l0 g0 k0,.slice w0 x0 y0,.int .i64 g1,.slice e0 d0 b0,.slice i0 h0 j0,.int .i64 n0,.int .i64 v0,.int .i64 o0,.slice a1 z0 c1,.slice e1 d1 f1]),.slice l_A l_n l_c] σ (fun v1 σ2=>
  ∃ p3:Option Addr,∃ n4:Int,(v1=(.tuple #[.pointer p3,.int .i64 n4])/\bc (!decide (n4=0)) (rt σ2 R (.tuple #[.int .i64 0,.int .i64 n4])) (dr p3 (fun b5 o6=>
  ldS σ2 b5 o6 (fun A7 l7 c7=>ldI σ2 .i64 b5 (o6+1) (fun n8=>cl Tryz.prog (.func (.func 54) #[] #[]) #[.pointer p3] σ2 (fun v9 σ10=>
  ∃ A11:Option Addr,∃ l11 c11:Nat,(v9=(.slice A11 l11 c11)/\(Hp.Sub σ2 σ10/\cl Tryz.prog (.func (.func 50) #[] #[]) #[(.agg #[.slice A7 l7 c7,.int .i64 n8]),.slice A11 l11 c11] σ10 (fun v12 σ13=>
  ∃ A14:Option Addr,∃ l14 c14:Nat,∃ n15:Int,(v12=(.tuple #[.slice A14 l14 c14,.int .i64 n15]) /\
  bc (!decide (n15=0)) (rt σ13 R (.tuple #[.int .i64 0,.int .i64 n15])) (cut (α:=Int->Hp->Prop) (fun n19 σ17=>
  ∀ _:Nat->Value,rt σ17 R (.tuple #[.int .i64 n19,.int .i64 0])) (fun J18=>dr p3 (fun b20 o21=>
  ldS σ13 b20 (o21+2) (fun A22 l22 _=>∃ I25:Nat->Int->Int->Hp->Prop,(∃ n260,I25 n260 0 0 σ13) /\
  ∀ n26:Nat,∀ n27 n28:Int,∀ σ24:Hp,I25 n26 n27 n28 σ24->∀ _:Nat->Value,bc (decide (n28<((l22:Nat):Int))) (cut (α:=Int->Hp->Prop) (fun n32 σ30=>
  ∀ _:Nat->Value,wk .i64 (n28+1) (fun n33=>bk σ30 n26 (fun m34 σ35=>I25 m34 n32 n33 σ35))) (fun J31=>
  ix A22 l22 n28 6 (fun b36 a37=>ldI σ24 .i64 b36 a37 (fun n38=>ldI σ24 .i64 b36 (a37+1) (fun _=>
  ldI σ24 .i64 b36 (a37+2) (fun _=>ldS σ24 b36 (a37+3) (fun _ _ _=>ldI σ24 .i64 b36 (a37+4) (fun _=>
  ldS σ24 b36 (a37+5) (fun _ _ _=>cut (α:=Int->Hp->Prop) (fun n47 σ45=>∀ _:Nat->Value,
  J31 (if n47>n27 then n47 else n27) σ45) (fun J46=>dr p3 (fun b48 o49=>ldS σ24 b48 (o49+2) (fun A50 l50 _=>
  ∃ I53:Nat->Int->Int->Hp->Prop,(∃ n540,I53 n540 0 0 σ24)/\∀ n54:Nat,∀ n55 n56:Int,∀ σ52:Hp,I53 n54 n55 n56 σ52->∀ _:Nat->Value,bc (decide (n56<((l50:Nat):Int))) (cut (α:=Int->Hp->Prop) (fun n60 σ58=>
  ∀ _:Nat->Value,wk .i64 (n56+1) (fun n61=>bk σ58 n54 (fun m62 σ63=>I53 m62 n60 n61 σ63))) (fun J59=>
  ix A50 l50 n56 6 (fun b64 a65=>ldI σ52 .i64 b64 a65 (fun n66=>ldI σ52 .i64 b64 (a65+1) (fun n67=>
  ldI σ52 .i64 b64 (a65+2) (fun _=>ldS σ52 b64 (a65+3) (fun _ _ _=>ldI σ52 .i64 b64 (a65+4) (fun _=>
  ldS σ52 b64 (a65+5) (fun _ _ _=>cut (α:=Bool->Hp->Prop) (fun t75 σ73=>∀ _:Nat->Value,
  bc t75 (wk .i64 (n55+n67) (fun n76=>J59 n76 σ73)) (J59 n55 σ73)) (fun J74=>bc (decide (n66<=n38)) (ix A14 l14 n56 1 (fun b77 a78=>
  ldI σ52 .i64 b77 a78 (fun n79=>bc (decide (n79<0)) (J74 true σ52) (ix A14 l14 n56 1 (fun b80 a81=>
  ldI σ52 .i64 b80 a81 (fun n82=>J74 (decide (n38<n82)) σ52)))))) (J74 false σ52))))))))))) (J46 n55 σ52))))))))))))) (J18 n27 σ24))))))))))))))))
def Ao:OA:=⟨[],false,[]⟩
def M7:MAn:=(.seq (.txt []) (.seq (.txt []) (.seq (.seq (.txt []) (.cond (.seq (.txt []) .leaf) .leaf)) (.seq (.plan [6] (tkON3 5 0 Ao (.alt 5 true Ao (.alt 6 false Ao (tkON3 5 7 Ao .done) .done) .done))) (.seq (.seq (.txt []) (.cond (.seq (.txt []) .leaf) .leaf)) (.cut ⟨[true],1,[.slot 4 (.sc (.int .i64))],[]⟩ (.seq (.txt []) (.block (.loop ⟨[true],1,[.slot 4 (.sc (.int .i64)),.slot 40 (.sc (.int .i64))],[(6,true),(7,true),(38,true),(39,true)]⟩ (.seq (.txt []) (.seq (.cond .leaf .leaf) (.cut ⟨[true],1,[.slot 4 (.sc (.int .i64))],[(6,true),(7,true),(38,true),(39,true),(40,true)]⟩ (.block (.seq (.txt []) (.seq (.txt []) (.cut ⟨[true,true],2,[.slot 10 (.sc (.int .i64))],[(4,true),(6,true),(7,true),(38,true),(39,true),(40,true)]⟩ (.seq (.txt []) (.block (.loop ⟨[true,true],2,[.slot 9 (.hb 1 0),.slot 10 (.sc (.int .i64)),.slot 49 (.sc (.int .i64))],[(4,true),(6,true),(7,true),(38,true),(39,true),(40,true),(47,true),(48,true)]⟩ (.seq (.txt []) (.seq (.cond .leaf .leaf) (.cut ⟨[true,true],2,[.slot 9 (.hb 1 0),.slot 10 (.sc (.int .i64))],[(4,true),(6,true),(7,true),(38,true),(39,true),(40,true),(47,true),(48,true),(49,true)]⟩ (.block (.seq (.txt []) (.cut ⟨[true,true,true],3,[.slot 9 (.hb 1 0),.slot 12 (.hb 2 0),.slot 77 (.sc (.bool))],[(4,true),(6,true),(7,true),(10,true),(38,true),(39,true),(40,true),(47,true),(48,true),(49,true)]⟩ (.plan [] (tkON3 7 0 Ao (.take 7 ⟨[],true,[]⟩ (tkON3 5 8 Ao (.take 13 ⟨[],true,[]⟩ (tkON3 10 14 Ao .done)))))) (.cond (.txt []) .leaf)))) (.txt []))))))) (.txt []))))) (.txt []))))))) (.seq (.txt []) .leaf)))))))
theorem No (σ:Hp) (c0:Option Addr) (a0 f0:Nat) (p0:Int) (r0:Option Addr) (s0 m0:Nat) (u0:Option Addr) (q0 t0:Nat) (l0:Option Addr) (g0 k0:Nat) (w0:Option Addr) (x0 y0:Nat) (g1:Int) (e0:Option Addr) (d0 b0:Nat) (i0:Option Addr) (h0 j0:Nat) (n0 v0 o0:Int) (a1:Option Addr) (z0 c1:Nat) (e1:Option Addr) (d1 f1:Nat) (l_A:Option Addr) (l_n l_c:Nat) (R:Value->Hp->Prop) (h:FN σ c0 a0 f0 p0 r0 s0 m0 u0 q0 t0 l0 g0 k0 w0 x0 y0 g1 e0 d0 b0 i0 h0 j0 n0 v0 o0 a1 z0 c1 e1 d1 f1 l_A l_n l_c R):Ad Tryz.prog 23 #[(.agg #[.slice c0 a0 f0,.int .i64 p0,.slice r0 s0 m0,.slice u0 q0 t0,.slice l0 g0 k0,.slice w0 x0 y0,.int .i64 g1,.slice e0 d0 b0,.slice i0 h0 j0,.int .i64 n0,.int .i64 v0,.int .i64 o0,.slice a1 z0 c1,.slice e1 d1 f1]),.slice l_A l_n l_c] σ R:=
 Ac B5 M7 Tryz.func23 rfl (by kernel_rfl) (by kernel_rfl) (by kernel_rfl) h
theorem KS:Al Tryz.prog 23=true:=by kernel_rfl
abbrev KM:FuncId:=89
def CC (σ:Hp) (s_A:Option Addr) (s_n s_c:Nat) (v:Int) (R:Value->Hp->Prop):Prop:=
 cl Tryz.prog (.func (.func 146) #[] #[]) #[.slice s_A s_n s_c,.int .i64 v] σ (fun v1 σ2=>∃ n3:Int,(v1=(.int .i64 n3) /\
  rt σ2 R (.bool (decide ((0:Int)<=n3)))))
def HC:MAn:=(.seq (.txt []) (.seq (.txt []) .leaf))
theorem Hv (σ:Hp) (s_A:Option Addr) (s_n s_c:Nat) (v:Int) (R:Value->Hp->Prop) (h:CC σ s_A s_n s_c v R):Ad Tryz.prog 89 #[.slice s_A s_n s_c,.int .i64 v] σ R:=
 Ac B5 HC Tryz.func89 rfl (by kernel_rfl) (by kernel_rfl) (by kernel_rfl) h
theorem Gj:Al Tryz.prog 89=true:=by kernel_rfl
abbrev NB:FuncId:=146
def DV (σ:Hp) (s_A:Option Addr) (s_n _:Nat) (v:Int) (R:Value->Hp->Prop):Prop:=
 cut (α:=Hp->Prop) (fun  σ2=>∀ _:Nat->Value,rt σ2 R (.int .i64 (-1))) (fun J3=>∃ I6:Nat->Int->Hp->Prop,(∃ n70,I6 n70 0 σ) /\
  ∀ n7:Nat,∀ n8:Int,∀ σ5:Hp,I6 n7 n8 σ5->∀ _:Nat->Value,bc (decide (n8<((s_n:Nat):Int))) (ix s_A s_n n8 1 (fun b9 a10=>
  ldI σ5 .i64 b9 a10 (fun n11=>bc (decide (v=n11)) (rt σ5 R (.int .i64 n8)) (wk .i64 (n8+1) (fun n12=>
  bk σ5 n7 (fun m13 σ14=>I6 m13 n12 σ14)))))) (J3 σ5))
def Kq:MAn:=(.seq (.txt []) (.cut ⟨[],0,[],[]⟩ (.seq (.txt []) (.block (.loop ⟨[],0,[.slot 8 (.sc (.int .i64))],[(0,true),(1,true),(7,true)]⟩ (.seq (.txt []) (.seq (.cond .leaf .leaf) (.seq (.block (.seq (.txt []) (.seq (.txt []) (.cond (.seq (.txt []) .leaf) .leaf)))) (.txt []))))))) (.seq (.txt []) .leaf)))
theorem KN (σ:Hp) (s_A:Option Addr) (s_n s_c:Nat) (v:Int) (R:Value->Hp->Prop) (h:DV σ s_A s_n s_c v R):Ad Tryz.prog 146 #[.slice s_A s_n s_c,.int .i64 v] σ R:=
 Ac B5 Kq Tryz.func146 rfl (by kernel_rfl) (by kernel_rfl) (by kernel_rfl) h
theorem Ie:Al Tryz.prog 146=true:=by kernel_rfl
abbrev Ku:FuncId:=76
def EZ (σ:Hp) (s_A:Option Addr) (s_n s_c:Nat) (R:Value->Hp->Prop):Prop:=
 bx σ (.cells #[.slice s_A s_n s_c] 26) (fun b1 σ2=>rt σ2 R (.func (.func 134) #[] #[(.pointer (some ⟨b1,0,none⟩))]))
def HK:MAn:=(.seq (.txt []) (.seq (.txt []) .leaf))
theorem Hz (σ:Hp) (s_A:Option Addr) (s_n s_c:Nat) (R:Value->Hp->Prop) (h:EZ σ s_A s_n s_c R):Ad Tryz.prog 76 #[.slice s_A s_n s_c] σ R:=
 Ac B5 HK Tryz.func76 rfl (by kernel_rfl) (by kernel_rfl) (by kernel_rfl) h
theorem Gc:Al Tryz.prog 76=true:=by kernel_rfl
abbrev Eb:FuncId:=134
def Cm (σ:Hp) (yield:Value) (cap0:Option Addr) (R:Value->Hp->Prop):Prop:=
 dr cap0 (fun b1 o2=>ldS σ b1 o2 (fun _ l3 _=>wk .i64 (((l3:Nat):Int)-1) (fun n4=>∃ I8:Nat->Int->Hp->Prop,(∃ n90,I8 n90 n4 σ) /\
  ∀ n9:Nat,∀ n10:Int,∀ σ7:Hp,I8 n9 n10 σ7->∀ _:Nat->Value,bc (decide ((0:Int)<=n10)) (dr cap0 (fun b11 o12=>
  ldS σ7 b11 o12 (fun A13 l13 _=>ix A13 l13 n10 1 (fun b14 a15=>ldI σ7 .i64 b14 a15 (fun n16=>cl Tryz.prog yield #[.int .i64 n10,.int .i64 n16] σ7 (fun v17 σ18=>
  ∃ t19:Bool,(v17=(.bool t19)/\bc (!t19) (rt σ18 R (.tuple #[])) (wk .i64 (n10-1) (fun n20=>bk σ18 n9 (fun m21 σ22=>
  I8 m21 n20 σ22)))))))))) (rt σ7 R (.tuple #[])))))
def GE:MAn:=(.seq (.txt []) (.block (.loop ⟨[],0,[.slot 3 (.sc (.int .i64))],[(0,false),(1,true)]⟩ (.seq (.seq (.txt []) (.cond .leaf .leaf)) (.seq (.block (.seq (.txt []) (.cond .leaf .leaf))) (.txt []))))))
theorem Gw (σ:Hp) (yield:Value) (cap0:Option Addr) (R:Value->Hp->Prop) (h:Cm σ yield cap0 R):Ad Tryz.prog 134 #[yield,.pointer cap0] σ R:=
 Ac B5 GE Tryz.func134 rfl (by kernel_rfl) (by kernel_rfl) (by kernel_rfl) h
theorem FD:Al Tryz.prog 134=true:=by kernel_rfl
end Go.Proofs.YtoelhdjloaknbaaGreat
