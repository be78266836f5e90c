/- Trimmed by wip/trim.py to what this claim rests on. -/
import Derived.Test.YthhadkggldcolaaGreatZB11
namespace Go.Proofs.YthhadkggldcolaaGreat
set_option maxRecDepth 100000
open Go.RowKit
def tkZR2:Nat->Nat->OA->MPlan->MPlan
 |0,_,_,x=>x
 |n+1,i,a,x=>.take i a (tkZR2 n (i+1) a x)
theorem H3:Tryz.prog.follows .mixedOrders=true:=by kernel_rfl
abbrev Gx:FuncId:=183
def Ge (σ:Hp) (n low high:Int) (R:Value->Hp->Prop):Prop:=
 bc (decide (low<=n)) (rt σ R (.bool (decide (n<=high)))) (rt σ R (.bool false))
def Ob:MAn:=(.seq (.txt []) (.seq (.txt [⟨[],false,[]⟩,⟨[],false,[]⟩,⟨[],false,[]⟩,⟨[],true,[]⟩]) .leaf))
theorem Nm (σ:Hp) (n low high:Int) (R:Value->Hp->Prop) (h:Ge σ n low high R):Ae Tryz.prog 183 #[.int .i64 n,.int .i64 low,.int .i64 high] σ R:=
 Ad H3 Ob Tryz.func183 rfl (by kernel_rfl) (by kernel_rfl) (by kernel_rfl) h
theorem Fk:An Tryz.prog 183=true:=by kernel_rfl
abbrev Nj:FuncId:=108
def Em (σ:Hp) (g0:Option Addr) (d0 _:Nat) (e0:Option Addr) (b0 _:Nat) (c0:Option Addr) (a0 _:Nat) (R:Value->Hp->Prop):Prop:=
 cut (α:=Hp->Prop) (fun  σ2=>∀ _:Nat->Value,cut (α:=Hp->Prop) (fun  σ5=>∀ _:Nat->Value,
  cut (α:=Hp->Prop) (fun  σ8=>∀ _:Nat->Value,cut (α:=Hp->Prop) (fun  σ11=>∀ _:Nat->Value,
  rt σ11 R (.int .i64 0)) (fun J12=>∃ I15:Nat->Int->Hp->Prop,(∃ n160,I15 n160 0 σ8)/\∀ n16:Nat,∀ n17:Int,∀ σ14:Hp,I15 n16 n17 σ14->∀ _:Nat->Value,bc (decide (n17<((a0:Nat):Int))) (ix c0 a0 n17 1 (fun b18 a19=>
  ldI σ14 .i64 b18 a19 (fun n20=>cl Tryz.prog (.func (.func 183) #[] #[]) #[.int .i64 n20,.int .i64 0,.int .i64 10000] σ14 (fun v21 σ22=>
  ∃ t23:Bool,(v21=(.bool t23)/\bc (!t23) (rt σ22 R (.int .i64 100)) (wk .i64 (n17+1) (fun n24=>
  bk σ22 n16 (fun m25 σ26=>I15 m25 n24 σ26)))))))) (J12 σ14))) (fun J9=>∃ I29:Nat->Int->Hp->Prop,(∃ n300,I29 n300 0 σ5) /\
  ∀ n30:Nat,∀ n31:Int,∀ σ28:Hp,I29 n30 n31 σ28->∀ _:Nat->Value,bc (decide (n31<((b0:Nat):Int))) (ix e0 b0 n31 1 (fun b32 a33=>
  ldI σ28 .i64 b32 a33 (fun n34=>cl Tryz.prog (.func (.func 183) #[] #[]) #[.int .i64 n34,.int .i64 0,.int .i64 9] σ28 (fun v35 σ36=>
  ∃ t37:Bool,(v35=(.bool t37)/\bc (!t37) (rt σ36 R (.int .i64 100)) (wk .i64 (n31+1) (fun n38=>
  bk σ36 n30 (fun m39 σ40=>I29 m39 n38 σ40)))))))) (J9 σ28))) (fun J6=>∃ I43:Nat->Int->Hp->Prop,(∃ n440,I43 n440 0 σ2) /\
  ∀ n44:Nat,∀ n45:Int,∀ σ42:Hp,I43 n44 n45 σ42->∀ _:Nat->Value,bc (decide (n45<((d0:Nat):Int))) (cut (α:=Hp->Prop) (fun  σ47=>
  ∀ _:Nat->Value,wk .i64 (n45+1) (fun n49=>bk σ47 n44 (fun m50 σ51=>I43 m50 n49 σ51))) (fun J48=>
  ix g0 d0 n45 4 (fun b52 a53=>ldI σ42 .i64 b52 a53 (fun n54=>ldI σ42 .i64 b52 (a53+1) (fun n55=>
  ldI σ42 .i64 b52 (a53+2) (fun n56=>ldB σ42 b52 (a53+3) (fun _=>cut (α:=Bool->Hp->Prop) (fun t61 σ59=>
  ∀ _:Nat->Value,bc t61 (rt σ59 R (.int .i64 100)) (J48 σ59)) (fun J60=>wk .i64 (((a0:Nat):Int)-1) (fun n62=>
  cl Tryz.prog (.func (.func 183) #[] #[]) #[.int .i64 n54,.int .i64 0,.int .i64 n62] σ42 (fun v63 σ64=>
  ∃ t65:Bool,(v63=(.bool t65)/\bc (!t65) (J60 true σ64) (cl Tryz.prog (.func (.func 183) #[] #[]) #[.int .i64 n55,.int .i64 1,.int .i64 10000] σ64 (fun v66 σ67=>
  ∃ t68:Bool,(v66=(.bool t68)/\bc (!t68) (J60 true σ67) (cl Tryz.prog (.func (.func 183) #[] #[]) #[.int .i64 n56,.int .i64 0,.int .i64 9] σ67 (fun v69 σ70=>
  ∃ t71:Bool,(v69=(.bool t71)/\J60 (!t71) σ70))))))))))))))))) (J6 σ42))) (fun J3=>cut (α:=Bool->Hp->Prop) (fun t75 σ73=>
  ∀ _:Nat->Value,bc t75 (rt σ73 R (.int .i64 100)) (J3 σ73)) (fun J74=>bc (decide ((20:Int)<((d0:Nat):Int))) (J74 true σ) (bc (decide ((8:Int)<((b0:Nat):Int))) (J74 true σ) (J74 (decide ((10:Int)<((a0:Nat):Int))) σ))))
def AA:OA:=⟨[],false,[]⟩
def KE:MAn:=(.seq (.txt []) (.cut ⟨[true],1,[.slot 1 (.hb 0 0)],[]⟩ (.cut ⟨[true],1,[.slot 1 (.hb 0 0),.slot 22 (.sc (.bool))],[]⟩ (.txt [AA,AA,AA,AA,⟨[],true,[]⟩,AA,AA,AA,AA,AA,⟨[],true,[]⟩]) (.cond (.seq (.txt []) .leaf) .leaf)) (.cut ⟨[true],1,[.slot 1 (.hb 0 0)],[]⟩ (.seq (.txt []) (.block (.loop ⟨[true],1,[.slot 1 (.hb 0 0),.slot 3 (.sc (.int .i64))],[]⟩ (.seq (.seq (.txt []) (.cond .leaf .leaf)) (.cut ⟨[true],1,[.slot 1 (.hb 0 0)],[(3,true)]⟩ (.block (.seq (.txt []) (.cut ⟨[true,true],2,[.slot 1 (.hb 0 0),.slot 54 (.sc (.bool))],[(3,true)]⟩ (.txt [AA,AA,AA,AA,AA,AA,AA,AA,⟨[],true,[]⟩,AA,AA,AA,AA,AA,⟨[],true,[]⟩]) (.cond (.seq (.txt []) .leaf) .leaf)))) (.txt [])))))) (.cut ⟨[true],1,[.slot 1 (.hb 0 0)],[]⟩ (.seq (.txt []) (.block (.loop ⟨[true],1,[.slot 1 (.hb 0 0),.slot 5 (.sc (.int .i64))],[]⟩ (.seq (.seq (.txt []) (.cond .leaf .leaf)) (.seq (.block (.seq (.txt []) (.cond (.seq (.txt []) .leaf) .leaf))) (.txt [])))))) (.cut ⟨[true],1,[],[]⟩ (.seq (.txt []) (.block (.loop ⟨[true],1,[.slot 1 (.hb 0 0),.slot 6 (.sc (.int .i64))],[]⟩ (.seq (.seq (.txt []) (.cond .leaf .leaf)) (.seq (.block (.seq (.txt []) (.cond (.seq (.txt []) .leaf) .leaf))) (.txt [])))))) (.seq (.txt []) .leaf))))))
theorem KR (σ:Hp) (g0:Option Addr) (d0 h0:Nat) (e0:Option Addr) (b0 i0:Nat) (c0:Option Addr) (a0 f0:Nat) (R:Value->Hp->Prop) (h:Em σ g0 d0 h0 e0 b0 i0 c0 a0 f0 R):Ae Tryz.prog 108 #[(.agg #[.slice g0 d0 h0,.slice e0 b0 i0,.slice c0 a0 f0])] σ R:=
 Ad H3 KE Tryz.func108 rfl (by kernel_rfl) (by kernel_rfl) (by kernel_rfl) h
theorem Ik:An Tryz.prog 108=true:=by kernel_rfl
abbrev Rf:FuncId:=184
def HL (σ:Hp) (g0:Option Addr) (d0 _:Nat) (e0:Option Addr) (b0 _:Nat) (_:Option Addr) (_ _:Nat) (rule first second:Int) (R:Value->Hp->Prop):Prop:=
 ix g0 d0 rule 4 (fun b1 a2=>ldI σ .i64 b1 a2 (fun _=>ldI σ .i64 b1 (a2+1) (fun _=>
  ldI σ .i64 b1 (a2+2) (fun n5=>ldB σ b1 (a2+3) (fun t6=>cut (α:=Hp->Prop) (fun  σ8=>∀ _:Nat->Value,
  bc (!t6) (rt σ8 R (.bool (decide (second=(-1))))) (wk .i64 (((b0:Nat):Int)-1) (fun n10=>
  cl Tryz.prog (.func (.func 183) #[] #[]) #[.int .i64 second,.int .i64 0,.int .i64 n10] σ8 (fun v11 σ12=>
  ∃ t13:Bool,(v11=(.bool t13)/\bc t13 (bc (!decide (second=first)) (ix e0 b0 second 1 (fun b14 a15=>
  ldI σ12 .i64 b14 a15 (fun n16=>rt σ12 R (.bool (decide (n5<=n16)))))) (rt σ12 R (.bool false))) (rt σ12 R (.bool false))))))) (fun J9=>
  cut (α:=Bool->Hp->Prop) (fun t20 σ18=>∀ _:Nat->Value,bc t20 (rt σ18 R (.bool false)) (J9 σ18)) (fun J19=>
  wk .i64 (((b0:Nat):Int)-1) (fun n21=>cl Tryz.prog (.func (.func 183) #[] #[]) #[.int .i64 first,.int .i64 0,.int .i64 n21] σ (fun v22 σ23=>
  ∃ t24:Bool,(v22=(.bool t24)/\bc (!t24) (J19 true σ23) (ix e0 b0 first 1 (fun b25 a26=>
  ldI σ23 .i64 b25 a26 (fun n27=>J19 (decide (n27<n5)) σ23)))))))))))))
def Ar:OA:=⟨[],false,[]⟩
def Ou:MAn:=(.seq (.txt []) (.seq (.txt []) (.cut ⟨[true,true],2,[.slot 4 (.hb 0 0),.slot 9 (.hb 1 0)],[(2,true),(3,true)]⟩ (.cut ⟨[true,true],2,[.slot 4 (.hb 0 0),.slot 9 (.hb 1 0),.slot 31 (.sc (.bool))],[(2,true),(3,true)]⟩ (.plan [5] (tkZR2 5 0 Ar (.alt 5 false Ar (.take 6 Ar (.take 7 ⟨[],true,[]⟩ (tkZR2 9 8 Ar .done))) .done))) (.cond (.seq (.txt []) .leaf) .leaf)) (.seq (.seq (.txt []) (.cond (.seq (.txt []) .leaf) .leaf)) (.seq (.plan [5] (tkZR2 5 0 Ar (.alt 5 false Ar (.take 6 ⟨[],true,[]⟩ (tkZR2 4 7 Ar (.take 11 ⟨[],true,[]⟩ (tkZR2 10 12 Ar .done)))) .done))) .leaf)))))
theorem Ot (σ:Hp) (g0:Option Addr) (d0 h0:Nat) (e0:Option Addr) (b0 i0:Nat) (c0:Option Addr) (a0 f0:Nat) (rule first second:Int) (R:Value->Hp->Prop) (h:HL σ g0 d0 h0 e0 b0 i0 c0 a0 f0 rule first second R):Ae Tryz.prog 184 #[(.agg #[.slice g0 d0 h0,.slice e0 b0 i0,.slice c0 a0 f0]),.int .i64 rule,.int .i64 first,.int .i64 second] σ R:=
 Ad H3 Ou Tryz.func184 rfl (by kernel_rfl) (by kernel_rfl) (by kernel_rfl) h
theorem LH:An Tryz.prog 184=true:=by kernel_rfl
abbrev Sc:FuncId:=185
def Jr (σ:Hp) (l_A:Option Addr) (l_n _:Nat) (n:Int) (R:Value->Hp->Prop):Prop:=
 cut (α:=Hp->Prop) (fun  σ2=>∀ _:Nat->Value,cut (α:=Hp->Prop) (fun  σ5=>∀ _:Nat->Value,
  rt σ5 R (.bool true)) (fun J6=>∃ I9:Nat->Int->Hp->Prop,(∃ n100,I9 n100 0 σ2)/\∀ n10:Nat,∀ n11:Int,∀ σ8:Hp,I9 n10 n11 σ8->∀ _:Nat->Value,bc (decide (n11<((l_n:Nat):Int))) (cut (α:=Hp->Prop) (fun  σ13=>
  ∀ _:Nat->Value,wk .i64 (n11+1) (fun n15=>bk σ13 n10 (fun m16 σ17=>I9 m16 n15 σ17))) (fun J14=>
  cut (α:=Bool->Hp->Prop) (fun t21 σ19=>∀ _:Nat->Value,bc t21 (rt σ19 R (.bool false)) (J14 σ19)) (fun J20=>
  ix l_A l_n n11 5 (fun b22 a23=>ldI σ8 .i64 b22 (a23+1) (fun n24=>bc (decide (n24=3)) (ix l_A l_n n11 5 (fun b25 a26=>
  ldI σ8 .i64 b25 (a26+2) (fun n27=>J20 (decide (n27=n)) σ8))) (J20 false σ8)))))) (J6 σ8))) (fun J3=>
  cut (α:=Bool->Hp->Prop) (fun t31 σ29=>∀ _:Nat->Value,bc t31 (rt σ29 R (.bool false)) (J3 σ29)) (fun J30=>
  wk .i64 (((l_n:Nat):Int)-1) (fun n32=>cl Tryz.prog (.func (.func 183) #[] #[]) #[.int .i64 n,.int .i64 0,.int .i64 n32] σ (fun v33 σ34=>
  ∃ t35:Bool,(v33=(.bool t35)/\bc (!t35) (J30 true σ34) (ix l_A l_n n 5 (fun b36 a37=>ldI σ34 .i64 b36 (a37+1) (fun n38=>
  J30 (!decide (n38=2)) σ34))))))))
def Bi:OA:=⟨[],false,[]⟩
def P6:MAn:=(.seq (.txt []) (.cut ⟨[],0,[],[(0,true),(1,true)]⟩ (.cut ⟨[],0,[.slot 19 (.sc (.bool))],[(0,true),(1,true)]⟩ (.txt [Bi,Bi,Bi,Bi,Bi,Bi,⟨[],true,[]⟩]) (.cond (.seq (.txt []) .leaf) .leaf)) (.cut ⟨[],0,[],[]⟩ (.seq (.txt []) (.block (.loop ⟨[],0,[.slot 5 (.sc (.int .i64))],[(0,true),(1,true)]⟩ (.seq (.seq (.txt []) (.cond .leaf .leaf)) (.cut ⟨[],0,[],[(0,true),(1,true),(5,true)]⟩ (.block (.cut ⟨[],0,[.slot 40 (.sc (.bool))],[(0,true),(1,true),(5,true)]⟩ (.txt [Bi,Bi,Bi,Bi,Bi,Bi,⟨[],true,[]⟩]) (.cond (.seq (.txt []) .leaf) .leaf))) (.txt [])))))) (.seq (.txt []) .leaf))))
theorem P8 (σ:Hp) (l_A:Option Addr) (l_n l_c:Nat) (n:Int) (R:Value->Hp->Prop) (h:Jr σ l_A l_n l_c n R):Ae Tryz.prog 185 #[.slice l_A l_n l_c,.int .i64 n] σ R:=
 Ad H3 P6 Tryz.func185 rfl (by kernel_rfl) (by kernel_rfl) (by kernel_rfl) h
theorem Ml:An Tryz.prog 185=true:=by kernel_rfl
abbrev RA:FuncId:=109
def HQ (σ:Hp) (g0:Option Addr) (d0 h0:Nat) (e0:Option Addr) (b0 i0:Nat) (c0:Option Addr) (a0 f0:Nat) (l0:Option Addr) (j0 m0:Nat) (n0 k0 x_A x_B x_C:Int) (R:Value->Hp->Prop):Prop:=
 cut (α:=Int->Hp->Prop) (fun n4 σ2=>∀ _:Nat->Value,cl Tryz.prog (.func (.func 183) #[] #[]) #[.int .i64 n0,.int .i64 n4,.int .i64 10000] σ2 (fun v5 σ6=>
  ∃ t7:Bool,(v5=(.bool t7)/\bc (!t7) (rt σ6 R (.bool false)) (wk .i64 (((a0:Nat):Int)-1) (fun n8=>
  wk .i64 (((b0:Nat):Int)-1) (fun n9=>cl Tryz.prog (.func (.func 183) #[] #[]) #[.int .i64 x_A,.int .i64 0,.int .i64 n8] σ6 (fun v10 σ11=>
  ∃ t12:Bool,(v10=(.bool t12)/\(Hp.Sub σ6 σ11/\cl Tryz.prog (.func (.func 183) #[] #[]) #[.int .i64 x_B,.int .i64 0,.int .i64 n9] σ11 (fun v13 σ14=>
  ∃ t15:Bool,(v13=(.bool t15)/\bc (decide (k0=1)) (wk .i64 (((d0:Nat):Int)-1) (fun n16=>
  cl Tryz.prog (.func (.func 183) #[] #[]) #[.int .i64 x_A,.int .i64 0,.int .i64 n16] σ14 (fun v17 σ18=>
  ∃ t19:Bool,(v17=(.bool t19)/\bc t19 (cl Tryz.prog (.func (.func 184) #[] #[]) #[(.agg #[.slice g0 d0 h0,.slice e0 b0 i0,.slice c0 a0 f0]),.int .i64 x_A,.int .i64 x_B,.int .i64 x_C] σ18 (fun v20 σ21=>
  ∃ t22:Bool,(v20=(.bool t22)/\rt σ21 R (.bool t22)))) (rt σ18 R (.bool false)))))) (bc (decide (k0=2)) (bc t12 (cl Tryz.prog (.func (.func 183) #[] #[]) #[.int .i64 x_B,.int .i64 1,.int .i64 3] σ14 (fun v23 σ24=>
  ∃ t25:Bool,(v23=(.bool t25)/\bc t25 (rt σ24 R (.bool (decide (x_C=0)))) (rt σ24 R (.bool false))))) (rt σ14 R (.bool false))) (bc (decide (k0=3)) (cl Tryz.prog (.func (.func 185) #[] #[]) #[.slice l0 j0 m0,.int .i64 x_A] σ14 (fun v26 σ27=>
  ∃ t28:Bool,(v26=(.bool t28)/\bc t28 (bc t15 (rt σ27 R (.bool (decide (x_C=0)))) (rt σ27 R (.bool false))) (rt σ27 R (.bool false))))) (bc (decide (k0=4)) (bc t12 (bc t15 (rt σ14 R (.bool (decide (x_C=0)))) (rt σ14 R (.bool false))) (rt σ14 R (.bool false))) (bc (decide (k0=5)) (bc t12 (cl Tryz.prog (.func (.func 183) #[] #[]) #[.int .i64 x_B,.int .i64 0,.int .i64 10000] σ14 (fun v29 σ30=>
  ∃ t31:Bool,(v29=(.bool t31)/\bc t31 (rt σ30 R (.bool (decide (x_C=0)))) (rt σ30 R (.bool false))))) (rt σ14 R (.bool false))) (bc (decide (k0=6)) (bc t12 (bc (decide (x_B=0)) (rt σ14 R (.bool (decide (x_C=0)))) (rt σ14 R (.bool false))) (rt σ14 R (.bool false))) (rt σ14 R (.bool false)))))))))))))))))) (fun J3=>
  bc (decide ((0:Int)<((j0:Nat):Int))) (wk .i64 (((j0:Nat):Int)-1) (fun n32=>
  ix l0 j0 n32 5 (fun b33 a34=>ldI σ .i64 b33 a34 (fun n35=>J3 n35 σ)))) (J3 0 σ))
def Aq:OA:=⟨[],false,[]⟩
def EQ:MAn:=(.seq (.txt [Aq,⟨[],true,[]⟩,Aq,Aq,Aq,Aq,⟨[],true,[]⟩]) .leaf)
def OX:MAn:=(.seq (.txt []) (.seq (.txt []) (.cut ⟨[true,true],2,[.slot 3 (.hb 0 0),.slot 5 (.hb 1 0),.slot 7 (.sc (.int .i64))],[(1,true)]⟩ (.seq (.txt []) (.cond (.txt []) .leaf)) (.seq (.seq (.txt []) (.cond (.seq (.txt []) .leaf) .leaf)) (.seq (.plan [13] (tkZR2 6 0 Aq (tkZR2 6 7 Aq (.alt 6 true Aq (.alt 13 false Aq (.take 14 Aq (.take 15 Aq .done)) .done) .done)))) (.seq (.seq (.txt []) (.block (.seq (.txt []) (.cond (.seq (.txt [Aq,Aq,Aq,Aq,Aq,Aq,Aq,⟨[],true,[]⟩]) .leaf) (.seq (.txt []) (.cond EQ (.seq (.txt []) (.cond (.seq (.txt [Aq,Aq,Aq,Aq,⟨[],true,[]⟩,Aq,Aq,⟨[],true,[]⟩]) .leaf) (.seq (.txt []) (.cond (.seq (.txt [Aq,⟨[],true,[]⟩,Aq,Aq,⟨[],true,[]⟩]) .leaf) (.seq (.txt []) (.cond EQ (.seq (.txt []) (.cond EQ .leaf)))))))))))))) (.seq (.txt []) .leaf)))))))
theorem Pb (σ:Hp) (g0:Option Addr) (d0 h0:Nat) (e0:Option Addr) (b0 i0:Nat) (c0:Option Addr) (a0 f0:Nat) (l0:Option Addr) (j0 m0:Nat) (n0 k0 x_A x_B x_C:Int) (R:Value->Hp->Prop) (h:HQ σ g0 d0 h0 e0 b0 i0 c0 a0 f0 l0 j0 m0 n0 k0 x_A x_B x_C R):Ae Tryz.prog 109 #[(.agg #[.slice g0 d0 h0,.slice e0 b0 i0,.slice c0 a0 f0]),.slice l0 j0 m0,(.agg #[.int .i64 n0,.int .i64 k0,.int .i64 x_A,.int .i64 x_B,.int .i64 x_C])] σ R:=
 Ad H3 OX Tryz.func109 rfl (by kernel_rfl) (by kernel_rfl) (by kernel_rfl) h
theorem LI:An Tryz.prog 109=true:=by kernel_rfl
abbrev Ri:FuncId:=59
def HA (σ:Hp) (g0:Option Addr) (d0 h0:Nat) (e0:Option Addr) (b0 i0:Nat) (c0:Option Addr) (a0 f0:Nat) (l_A:Option Addr) (l_n l_c:Nat) (R:Value->Hp->Prop):Prop:=
 cl Tryz.prog (.func (.func 108) #[] #[]) #[(.agg #[.slice g0 d0 h0,.slice e0 b0 i0,.slice c0 a0 f0])] σ (fun v1 σ2=>
  ∃ n3:Int,(v1=(.int .i64 n3)/\bc (!decide (n3=0)) (rt σ2 R (.tuple #[.int .i64 0,.int .i64 n3])) (bc (decide ((100:Int)<((l_n:Nat):Int))) (rt σ2 R (.tuple #[.int .i64 0,.int .i64 2])) (cut (α:=Hp->Prop) (fun  σ5=>
  ∀ _:Nat->Value,rt σ5 R (.tuple #[.int .i64 0,.int .i64 0])) (fun J6=>∃ I9:Nat->Int->Hp->Prop,(∃ n100,I9 n100 0 σ2) /\
  ∀ n10:Nat,∀ n11:Int,∀ σ8:Hp,I9 n10 n11 σ8->∀ _:Nat->Value,bc (decide (n11<((l_n:Nat):Int))) ((0<=n11 /\
  n11<=((l_c:Nat):Int)/\ix l_A l_n n11 5 (fun b12 a13=>ldI σ8 .i64 b12 a13 (fun n14=>ldI σ8 .i64 b12 (a13+1) (fun n15=>
  ldI σ8 .i64 b12 (a13+2) (fun n16=>ldI σ8 .i64 b12 (a13+3) (fun n17=>ldI σ8 .i64 b12 (a13+4) (fun n18=>
  cl Tryz.prog (.func (.func 109) #[] #[]) #[(.agg #[.slice g0 d0 h0,.slice e0 b0 i0,.slice c0 a0 f0]),(.slice l_A ((n11:Int).toNat) l_c),(.agg #[.int .i64 n14,.int .i64 n15,.int .i64 n16,.int .i64 n17,.int .i64 n18])] σ8 (fun v19 σ20=>
  ∃ t21:Bool,(v19=(.bool t21)/\bc (!t21) (rt σ20 R (.tuple #[.int .i64 n11,.int .i64 101])) (wk .i64 (n11+1) (fun n22=>
  bk σ20 n10 (fun m23 σ24=>I9 m23 n22 σ24))))))))))))) (J6 σ8))))))
def Bq:OA:=⟨[],false,[]⟩
def OB:MAn:=(.seq (.txt []) (.seq (.seq (.txt []) (.seq (.txt []) (.cond (.seq (.txt []) .leaf) .leaf))) (.seq (.seq (.txt []) (.cond (.seq (.txt []) .leaf) .leaf)) (.cut ⟨[true],1,[],[]⟩ (.seq (.txt []) (.block (.loop ⟨[true],1,[.slot 2 (.hb 0 0),.slot 7 (.sc (.int .i64))],[(1,true)]⟩ (.seq (.seq (.txt []) (.cond .leaf .leaf)) (.seq (.block (.seq (.plan [8] (tkZR2 8 0 Bq (.alt 8 false Bq (.take 9 Bq .done) .done))) (.cond (.seq (.txt []) .leaf) .leaf))) (.txt [])))))) (.seq (.txt []) .leaf)))))
theorem OV (σ:Hp) (g0:Option Addr) (d0 h0:Nat) (e0:Option Addr) (b0 i0:Nat) (c0:Option Addr) (a0 f0:Nat) (l_A:Option Addr) (l_n l_c:Nat) (R:Value->Hp->Prop) (h:HA σ g0 d0 h0 e0 b0 i0 c0 a0 f0 l_A l_n l_c R):Ae Tryz.prog 59 #[(.agg #[.slice g0 d0 h0,.slice e0 b0 i0,.slice c0 a0 f0]),.slice l_A l_n l_c] σ R:=
 Ad H3 OB Tryz.func59 rfl (by kernel_rfl) (by kernel_rfl) (by kernel_rfl) h
theorem LF:An Tryz.prog 59=true:=by kernel_rfl
end Go.Proofs.YthhadkggldcolaaGreat
