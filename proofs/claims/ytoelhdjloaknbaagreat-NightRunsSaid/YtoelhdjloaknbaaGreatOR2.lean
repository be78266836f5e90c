/- Trimmed by wip/trim.py to what this claim rests on. -/
import Derived.Test.YtoelhdjloaknbaaGreatOB11
namespace Go.Proofs.YtoelhdjloaknbaaGreat
set_option maxRecDepth 100000
open Go.RowKit
def tkOR2:Nat->Nat->OA->MPlan->MPlan
 |0,_,_,x=>x
 |n+1,i,a,x=>.take i a (tkOR2 n (i+1) a x)
theorem CO:Tryz.prog.follows .mixedOrders=true:=by kernel_rfl
abbrev Gy:FuncId:=197
def GR (σ:Hp) (n low high:Int) (R:Value->Hp->Prop):Prop:=
 bc (decide (low<=n)) (rt σ R (.bool (decide (n<=high)))) (rt σ R (.bool false))
def O0:MAn:=(.seq (.txt []) (.seq (.txt [⟨[],false,[]⟩,⟨[],false,[]⟩,⟨[],false,[]⟩,⟨[],true,[]⟩]) .leaf))
theorem Ov (σ:Hp) (n low high:Int) (R:Value->Hp->Prop) (h:GR σ n low high R):Ad Tryz.prog 197 #[.int .i64 n,.int .i64 low,.int .i64 high] σ R:=
 Ac CO O0 Tryz.func197 rfl (by kernel_rfl) (by kernel_rfl) (by kernel_rfl) h
theorem FB:Al Tryz.prog 197=true:=by kernel_rfl
abbrev OO:FuncId:=137
def En (σ:Hp) (f0:Option Addr) (c0 _:Nat) (g0:Option Addr) (d0 _:Nat) (b0:Option Addr) (a0 _:Nat) (R:Value->Hp->Prop):Prop:=
 cut (α:=Hp->Prop) (fun  σ2=>∀ _:Nat->Value,cut (α:=Hp->Prop) (fun  σ5=>∀ _:Nat->Value,
  cut (α:=Hp->Prop) (fun  σ8=>∀ _:Nat->Value,cut (α:=Hp->Prop) (fun  σ11=>∀ _:Nat->Value,
  rt σ11 R (.int .i64 0)) (fun J12=>∃ I15:Nat->Int->Hp->Prop,(∃ n160,I15 n160 0 σ8)/\∀ n16:Nat,∀ n17:Int,∀ σ14:Hp,I15 n16 n17 σ14->∀ _:Nat->Value,bc (decide (n17<((a0:Nat):Int))) (ix b0 a0 n17 1 (fun b18 a19=>
  ldI σ14 .i64 b18 a19 (fun n20=>cl Tryz.prog (.func (.func 197) #[] #[]) #[.int .i64 n20,.int .i64 0,.int .i64 10000] σ14 (fun v21 σ22=>
  ∃ t23:Bool,(v21=(.bool t23)/\bc (!t23) (rt σ22 R (.int .i64 100)) (wk .i64 (n17+1) (fun n24=>
  bk σ22 n16 (fun m25 σ26=>I15 m25 n24 σ26)))))))) (J12 σ14))) (fun J9=>∃ I29:Nat->Int->Hp->Prop,(∃ n300,I29 n300 0 σ5) /\
  ∀ n30:Nat,∀ n31:Int,∀ σ28:Hp,I29 n30 n31 σ28->∀ _:Nat->Value,bc (decide (n31<((d0:Nat):Int))) (ix g0 d0 n31 1 (fun b32 a33=>
  ldI σ28 .i64 b32 a33 (fun n34=>cl Tryz.prog (.func (.func 197) #[] #[]) #[.int .i64 n34,.int .i64 0,.int .i64 9] σ28 (fun v35 σ36=>
  ∃ t37:Bool,(v35=(.bool t37)/\bc (!t37) (rt σ36 R (.int .i64 100)) (wk .i64 (n31+1) (fun n38=>
  bk σ36 n30 (fun m39 σ40=>I29 m39 n38 σ40)))))))) (J9 σ28))) (fun J6=>∃ I43:Nat->Int->Hp->Prop,(∃ n440,I43 n440 0 σ2) /\
  ∀ n44:Nat,∀ n45:Int,∀ σ42:Hp,I43 n44 n45 σ42->∀ _:Nat->Value,bc (decide (n45<((c0:Nat):Int))) (cut (α:=Hp->Prop) (fun  σ47=>
  ∀ _:Nat->Value,wk .i64 (n45+1) (fun n49=>bk σ47 n44 (fun m50 σ51=>I43 m50 n49 σ51))) (fun J48=>
  ix f0 c0 n45 4 (fun b52 a53=>ldI σ42 .i64 b52 a53 (fun n54=>ldI σ42 .i64 b52 (a53+1) (fun n55=>
  ldI σ42 .i64 b52 (a53+2) (fun n56=>ldB σ42 b52 (a53+3) (fun _=>cut (α:=Bool->Hp->Prop) (fun t61 σ59=>
  ∀ _:Nat->Value,bc t61 (rt σ59 R (.int .i64 100)) (J48 σ59)) (fun J60=>wk .i64 (((a0:Nat):Int)-1) (fun n62=>
  cl Tryz.prog (.func (.func 197) #[] #[]) #[.int .i64 n54,.int .i64 0,.int .i64 n62] σ42 (fun v63 σ64=>
  ∃ t65:Bool,(v63=(.bool t65)/\bc (!t65) (J60 true σ64) (cl Tryz.prog (.func (.func 197) #[] #[]) #[.int .i64 n55,.int .i64 1,.int .i64 10000] σ64 (fun v66 σ67=>
  ∃ t68:Bool,(v66=(.bool t68)/\bc (!t68) (J60 true σ67) (cl Tryz.prog (.func (.func 197) #[] #[]) #[.int .i64 n56,.int .i64 0,.int .i64 9] σ67 (fun v69 σ70=>
  ∃ t71:Bool,(v69=(.bool t71)/\J60 (!t71) σ70))))))))))))))))) (J6 σ42))) (fun J3=>cut (α:=Bool->Hp->Prop) (fun t75 σ73=>
  ∀ _:Nat->Value,bc t75 (rt σ73 R (.int .i64 100)) (J3 σ73)) (fun J74=>bc (decide ((20:Int)<((c0:Nat):Int))) (J74 true σ) (bc (decide ((8:Int)<((d0:Nat):Int))) (J74 true σ) (J74 (decide ((10:Int)<((a0:Nat):Int))) σ))))
def AC:OA:=⟨[],false,[]⟩
def K2:MAn:=(.seq (.txt []) (.cut ⟨[true],1,[.slot 1 (.hb 0 0)],[]⟩ (.cut ⟨[true],1,[.slot 1 (.hb 0 0),.slot 22 (.sc (.bool))],[]⟩ (.txt [AC,AC,AC,AC,⟨[],true,[]⟩,AC,AC,AC,AC,AC,⟨[],true,[]⟩]) (.cond (.seq (.txt []) .leaf) .leaf)) (.cut ⟨[true],1,[.slot 1 (.hb 0 0)],[]⟩ (.seq (.txt []) (.block (.loop ⟨[true],1,[.slot 1 (.hb 0 0),.slot 3 (.sc (.int .i64))],[]⟩ (.seq (.seq (.txt []) (.cond .leaf .leaf)) (.cut ⟨[true],1,[.slot 1 (.hb 0 0)],[(3,true)]⟩ (.block (.seq (.txt []) (.cut ⟨[true,true],2,[.slot 1 (.hb 0 0),.slot 54 (.sc (.bool))],[(3,true)]⟩ (.txt [AC,AC,AC,AC,AC,AC,AC,AC,⟨[],true,[]⟩,AC,AC,AC,AC,AC,⟨[],true,[]⟩]) (.cond (.seq (.txt []) .leaf) .leaf)))) (.txt [])))))) (.cut ⟨[true],1,[.slot 1 (.hb 0 0)],[]⟩ (.seq (.txt []) (.block (.loop ⟨[true],1,[.slot 1 (.hb 0 0),.slot 5 (.sc (.int .i64))],[]⟩ (.seq (.seq (.txt []) (.cond .leaf .leaf)) (.seq (.block (.seq (.txt []) (.cond (.seq (.txt []) .leaf) .leaf))) (.txt [])))))) (.cut ⟨[true],1,[],[]⟩ (.seq (.txt []) (.block (.loop ⟨[true],1,[.slot 1 (.hb 0 0),.slot 6 (.sc (.int .i64))],[]⟩ (.seq (.seq (.txt []) (.cond .leaf .leaf)) (.seq (.block (.seq (.txt []) (.cond (.seq (.txt []) .leaf) .leaf))) (.txt [])))))) (.seq (.txt []) .leaf))))))
theorem Lt (σ:Hp) (f0:Option Addr) (c0 i0:Nat) (g0:Option Addr) (d0 h0:Nat) (b0:Option Addr) (a0 e0:Nat) (R:Value->Hp->Prop) (h:En σ f0 c0 i0 g0 d0 h0 b0 a0 e0 R):Ad Tryz.prog 137 #[(.agg #[.slice f0 c0 i0,.slice g0 d0 h0,.slice b0 a0 e0])] σ R:=
 Ac CO K2 Tryz.func137 rfl (by kernel_rfl) (by kernel_rfl) (by kernel_rfl) h
theorem Io:Al Tryz.prog 137=true:=by kernel_rfl
abbrev SN:FuncId:=198
def HJ (σ:Hp) (f0:Option Addr) (c0 _:Nat) (g0:Option Addr) (d0 _:Nat) (_:Option Addr) (_ _:Nat) (rule first second:Int) (R:Value->Hp->Prop):Prop:=
 ix f0 c0 rule 4 (fun b1 a2=>ldI σ .i64 b1 a2 (fun _=>ldI σ .i64 b1 (a2+1) (fun _=>
  ldI σ .i64 b1 (a2+2) (fun n5=>ldB σ b1 (a2+3) (fun t6=>cut (α:=Hp->Prop) (fun  σ8=>∀ _:Nat->Value,
  bc (!t6) (rt σ8 R (.bool (decide (second=(-1))))) (wk .i64 (((d0:Nat):Int)-1) (fun n10=>
  cl Tryz.prog (.func (.func 197) #[] #[]) #[.int .i64 second,.int .i64 0,.int .i64 n10] σ8 (fun v11 σ12=>
  ∃ t13:Bool,(v11=(.bool t13)/\bc t13 (bc (!decide (second=first)) (ix g0 d0 second 1 (fun b14 a15=>
  ldI σ12 .i64 b14 a15 (fun n16=>rt σ12 R (.bool (decide (n5<=n16)))))) (rt σ12 R (.bool false))) (rt σ12 R (.bool false))))))) (fun J9=>
  cut (α:=Bool->Hp->Prop) (fun t20 σ18=>∀ _:Nat->Value,bc t20 (rt σ18 R (.bool false)) (J9 σ18)) (fun J19=>
  wk .i64 (((d0:Nat):Int)-1) (fun n21=>cl Tryz.prog (.func (.func 197) #[] #[]) #[.int .i64 first,.int .i64 0,.int .i64 n21] σ (fun v22 σ23=>
  ∃ t24:Bool,(v22=(.bool t24)/\bc (!t24) (J19 true σ23) (ix g0 d0 first 1 (fun b25 a26=>
  ldI σ23 .i64 b25 a26 (fun n27=>J19 (decide (n27<n5)) σ23)))))))))))))
def Ar:OA:=⟨[],false,[]⟩
def PN:MAn:=(.seq (.txt []) (.seq (.txt []) (.cut ⟨[true,true],2,[.slot 4 (.hb 0 0),.slot 9 (.hb 1 0)],[(2,true),(3,true)]⟩ (.cut ⟨[true,true],2,[.slot 4 (.hb 0 0),.slot 9 (.hb 1 0),.slot 31 (.sc (.bool))],[(2,true),(3,true)]⟩ (.plan [5] (tkOR2 5 0 Ar (.alt 5 false Ar (.take 6 Ar (.take 7 ⟨[],true,[]⟩ (tkOR2 9 8 Ar .done))) .done))) (.cond (.seq (.txt []) .leaf) .leaf)) (.seq (.seq (.txt []) (.cond (.seq (.txt []) .leaf) .leaf)) (.seq (.plan [5] (tkOR2 5 0 Ar (.alt 5 false Ar (.take 6 ⟨[],true,[]⟩ (tkOR2 4 7 Ar (.take 11 ⟨[],true,[]⟩ (tkOR2 10 12 Ar .done)))) .done))) .leaf)))))
theorem Po (σ:Hp) (f0:Option Addr) (c0 i0:Nat) (g0:Option Addr) (d0 h0:Nat) (b0:Option Addr) (a0 e0:Nat) (rule first second:Int) (R:Value->Hp->Prop) (h:HJ σ f0 c0 i0 g0 d0 h0 b0 a0 e0 rule first second R):Ad Tryz.prog 198 #[(.agg #[.slice f0 c0 i0,.slice g0 d0 h0,.slice b0 a0 e0]),.int .i64 rule,.int .i64 first,.int .i64 second] σ R:=
 Ac CO PN Tryz.func198 rfl (by kernel_rfl) (by kernel_rfl) (by kernel_rfl) h
theorem Mj:Al Tryz.prog 198=true:=by kernel_rfl
abbrev T4:FuncId:=199
def JS (σ:Hp) (l_A:Option Addr) (l_n _:Nat) (n:Int) (R:Value->Hp->Prop):Prop:=
 cut (α:=Hp->Prop) (fun  σ2=>∀ _:Nat->Value,cut (α:=Hp->Prop) (fun  σ5=>∀ _:Nat->Value,
  rt σ5 R (.bool true)) (fun J6=>∃ I9:Nat->Int->Hp->Prop,(∃ n100,I9 n100 0 σ2)/\∀ n10:Nat,∀ n11:Int,∀ σ8:Hp,I9 n10 n11 σ8->∀ _:Nat->Value,bc (decide (n11<((l_n:Nat):Int))) (cut (α:=Hp->Prop) (fun  σ13=>
  ∀ _:Nat->Value,wk .i64 (n11+1) (fun n15=>bk σ13 n10 (fun m16 σ17=>I9 m16 n15 σ17))) (fun J14=>
  cut (α:=Bool->Hp->Prop) (fun t21 σ19=>∀ _:Nat->Value,bc t21 (rt σ19 R (.bool false)) (J14 σ19)) (fun J20=>
  ix l_A l_n n11 5 (fun b22 a23=>ldI σ8 .i64 b22 (a23+1) (fun n24=>bc (decide (n24=3)) (ix l_A l_n n11 5 (fun b25 a26=>
  ldI σ8 .i64 b25 (a26+2) (fun n27=>J20 (decide (n27=n)) σ8))) (J20 false σ8)))))) (J6 σ8))) (fun J3=>
  cut (α:=Bool->Hp->Prop) (fun t31 σ29=>∀ _:Nat->Value,bc t31 (rt σ29 R (.bool false)) (J3 σ29)) (fun J30=>
  wk .i64 (((l_n:Nat):Int)-1) (fun n32=>cl Tryz.prog (.func (.func 197) #[] #[]) #[.int .i64 n,.int .i64 0,.int .i64 n32] σ (fun v33 σ34=>
  ∃ t35:Bool,(v33=(.bool t35)/\bc (!t35) (J30 true σ34) (ix l_A l_n n 5 (fun b36 a37=>ldI σ34 .i64 b36 (a37+1) (fun n38=>
  J30 (!decide (n38=2)) σ34))))))))
def Bm:OA:=⟨[],false,[]⟩
def Rb:MAn:=(.seq (.txt []) (.cut ⟨[],0,[],[(0,true),(1,true)]⟩ (.cut ⟨[],0,[.slot 19 (.sc (.bool))],[(0,true),(1,true)]⟩ (.txt [Bm,Bm,Bm,Bm,Bm,Bm,⟨[],true,[]⟩]) (.cond (.seq (.txt []) .leaf) .leaf)) (.cut ⟨[],0,[],[]⟩ (.seq (.txt []) (.block (.loop ⟨[],0,[.slot 5 (.sc (.int .i64))],[(0,true),(1,true)]⟩ (.seq (.seq (.txt []) (.cond .leaf .leaf)) (.cut ⟨[],0,[],[(0,true),(1,true),(5,true)]⟩ (.block (.cut ⟨[],0,[.slot 40 (.sc (.bool))],[(0,true),(1,true),(5,true)]⟩ (.txt [Bm,Bm,Bm,Bm,Bm,Bm,⟨[],true,[]⟩]) (.cond (.seq (.txt []) .leaf) .leaf))) (.txt [])))))) (.seq (.txt []) .leaf))))
theorem QO (σ:Hp) (l_A:Option Addr) (l_n l_c:Nat) (n:Int) (R:Value->Hp->Prop) (h:JS σ l_A l_n l_c n R):Ad Tryz.prog 199 #[.slice l_A l_n l_c,.int .i64 n] σ R:=
 Ac CO Rb Tryz.func199 rfl (by kernel_rfl) (by kernel_rfl) (by kernel_rfl) h
theorem GU:Al Tryz.prog 199=true:=by kernel_rfl
abbrev SJ:FuncId:=138
def H1 (σ:Hp) (f0:Option Addr) (c0 i0:Nat) (g0:Option Addr) (d0 h0:Nat) (b0:Option Addr) (a0 e0:Nat) (l0:Option Addr) (j0 m0:Nat) (n0 k0 x_A x_B x_C:Int) (R:Value->Hp->Prop):Prop:=
 cut (α:=Int->Hp->Prop) (fun n4 σ2=>∀ _:Nat->Value,cl Tryz.prog (.func (.func 197) #[] #[]) #[.int .i64 n0,.int .i64 n4,.int .i64 10000] σ2 (fun v5 σ6=>
  ∃ t7:Bool,(v5=(.bool t7)/\bc (!t7) (rt σ6 R (.bool false)) (wk .i64 (((a0:Nat):Int)-1) (fun n8=>
  wk .i64 (((d0:Nat):Int)-1) (fun n9=>cl Tryz.prog (.func (.func 197) #[] #[]) #[.int .i64 x_A,.int .i64 0,.int .i64 n8] σ6 (fun v10 σ11=>
  ∃ t12:Bool,(v10=(.bool t12)/\(Hp.Sub σ6 σ11/\cl Tryz.prog (.func (.func 197) #[] #[]) #[.int .i64 x_B,.int .i64 0,.int .i64 n9] σ11 (fun v13 σ14=>
  ∃ t15:Bool,(v13=(.bool t15)/\bc (decide (k0=1)) (wk .i64 (((c0:Nat):Int)-1) (fun n16=>
  cl Tryz.prog (.func (.func 197) #[] #[]) #[.int .i64 x_A,.int .i64 0,.int .i64 n16] σ14 (fun v17 σ18=>
  ∃ t19:Bool,(v17=(.bool t19)/\bc t19 (cl Tryz.prog (.func (.func 198) #[] #[]) #[(.agg #[.slice f0 c0 i0,.slice g0 d0 h0,.slice b0 a0 e0]),.int .i64 x_A,.int .i64 x_B,.int .i64 x_C] σ18 (fun v20 σ21=>
  ∃ t22:Bool,(v20=(.bool t22)/\rt σ21 R (.bool t22)))) (rt σ18 R (.bool false)))))) (bc (decide (k0=2)) (bc t12 (cl Tryz.prog (.func (.func 197) #[] #[]) #[.int .i64 x_B,.int .i64 1,.int .i64 3] σ14 (fun v23 σ24=>
  ∃ t25:Bool,(v23=(.bool t25)/\bc t25 (rt σ24 R (.bool (decide (x_C=0)))) (rt σ24 R (.bool false))))) (rt σ14 R (.bool false))) (bc (decide (k0=3)) (cl Tryz.prog (.func (.func 199) #[] #[]) #[.slice l0 j0 m0,.int .i64 x_A] σ14 (fun v26 σ27=>
  ∃ t28:Bool,(v26=(.bool t28)/\bc t28 (bc t15 (rt σ27 R (.bool (decide (x_C=0)))) (rt σ27 R (.bool false))) (rt σ27 R (.bool false))))) (bc (decide (k0=4)) (bc t12 (bc t15 (rt σ14 R (.bool (decide (x_C=0)))) (rt σ14 R (.bool false))) (rt σ14 R (.bool false))) (bc (decide (k0=5)) (bc t12 (cl Tryz.prog (.func (.func 197) #[] #[]) #[.int .i64 x_B,.int .i64 0,.int .i64 10000] σ14 (fun v29 σ30=>
  ∃ t31:Bool,(v29=(.bool t31)/\bc t31 (rt σ30 R (.bool (decide (x_C=0)))) (rt σ30 R (.bool false))))) (rt σ14 R (.bool false))) (bc (decide (k0=6)) (bc t12 (bc (decide (x_B=0)) (rt σ14 R (.bool (decide (x_C=0)))) (rt σ14 R (.bool false))) (rt σ14 R (.bool false))) (rt σ14 R (.bool false)))))))))))))))))) (fun J3=>
  bc (decide ((0:Int)<((j0:Nat):Int))) (wk .i64 (((j0:Nat):Int)-1) (fun n32=>
  ix l0 j0 n32 5 (fun b33 a34=>ldI σ .i64 b33 a34 (fun n35=>J3 n35 σ)))) (J3 0 σ))
def Aq:OA:=⟨[],false,[]⟩
def E6:MAn:=(.seq (.txt [Aq,⟨[],true,[]⟩,Aq,Aq,Aq,Aq,⟨[],true,[]⟩]) .leaf)
def Qg:MAn:=(.seq (.txt []) (.seq (.txt []) (.cut ⟨[true,true],2,[.slot 3 (.hb 0 0),.slot 5 (.hb 1 0),.slot 7 (.sc (.int .i64))],[(1,true)]⟩ (.seq (.txt []) (.cond (.txt []) .leaf)) (.seq (.seq (.txt []) (.cond (.seq (.txt []) .leaf) .leaf)) (.seq (.plan [13] (tkOR2 6 0 Aq (tkOR2 6 7 Aq (.alt 6 true Aq (.alt 13 false Aq (.take 14 Aq (.take 15 Aq .done)) .done) .done)))) (.seq (.seq (.txt []) (.block (.seq (.txt []) (.cond (.seq (.txt [Aq,Aq,Aq,Aq,Aq,Aq,Aq,⟨[],true,[]⟩]) .leaf) (.seq (.txt []) (.cond E6 (.seq (.txt []) (.cond (.seq (.txt [Aq,Aq,Aq,Aq,⟨[],true,[]⟩,Aq,Aq,⟨[],true,[]⟩]) .leaf) (.seq (.txt []) (.cond (.seq (.txt [Aq,⟨[],true,[]⟩,Aq,Aq,⟨[],true,[]⟩]) .leaf) (.seq (.txt []) (.cond E6 (.seq (.txt []) (.cond E6 .leaf)))))))))))))) (.seq (.txt []) .leaf)))))))
theorem P9 (σ:Hp) (f0:Option Addr) (c0 i0:Nat) (g0:Option Addr) (d0 h0:Nat) (b0:Option Addr) (a0 e0:Nat) (l0:Option Addr) (j0 m0:Nat) (n0 k0 x_A x_B x_C:Int) (R:Value->Hp->Prop) (h:H1 σ f0 c0 i0 g0 d0 h0 b0 a0 e0 l0 j0 m0 n0 k0 x_A x_B x_C R):Ad Tryz.prog 138 #[(.agg #[.slice f0 c0 i0,.slice g0 d0 h0,.slice b0 a0 e0]),.slice l0 j0 m0,(.agg #[.int .i64 n0,.int .i64 k0,.int .i64 x_A,.int .i64 x_B,.int .i64 x_C])] σ R:=
 Ac CO Qg Tryz.func138 rfl (by kernel_rfl) (by kernel_rfl) (by kernel_rfl) h
theorem Mf:Al Tryz.prog 138=true:=by kernel_rfl
abbrev SA:FuncId:=78
def HO (σ:Hp) (f0:Option Addr) (c0 i0:Nat) (g0:Option Addr) (d0 h0:Nat) (b0:Option Addr) (a0 e0:Nat) (l_A:Option Addr) (l_n l_c:Nat) (R:Value->Hp->Prop):Prop:=
 cl Tryz.prog (.func (.func 137) #[] #[]) #[(.agg #[.slice f0 c0 i0,.slice g0 d0 h0,.slice b0 a0 e0])] σ (fun v1 σ2=>
  ∃ n3:Int,(v1=(.int .i64 n3)/\bc (!decide (n3=0)) (rt σ2 R (.tuple #[.int .i64 0,.int .i64 n3])) (bc (decide ((100:Int)<((l_n:Nat):Int))) (rt σ2 R (.tuple #[.int .i64 0,.int .i64 2])) (cut (α:=Hp->Prop) (fun  σ5=>
  ∀ _:Nat->Value,rt σ5 R (.tuple #[.int .i64 0,.int .i64 0])) (fun J6=>∃ I9:Nat->Int->Hp->Prop,(∃ n100,I9 n100 0 σ2) /\
  ∀ n10:Nat,∀ n11:Int,∀ σ8:Hp,I9 n10 n11 σ8->∀ _:Nat->Value,bc (decide (n11<((l_n:Nat):Int))) ((0<=n11 /\
  n11<=((l_c:Nat):Int)/\ix l_A l_n n11 5 (fun b12 a13=>ldI σ8 .i64 b12 a13 (fun n14=>ldI σ8 .i64 b12 (a13+1) (fun n15=>
  ldI σ8 .i64 b12 (a13+2) (fun n16=>ldI σ8 .i64 b12 (a13+3) (fun n17=>ldI σ8 .i64 b12 (a13+4) (fun n18=>
  cl Tryz.prog (.func (.func 138) #[] #[]) #[(.agg #[.slice f0 c0 i0,.slice g0 d0 h0,.slice b0 a0 e0]),(.slice l_A ((n11:Int).toNat) l_c),(.agg #[.int .i64 n14,.int .i64 n15,.int .i64 n16,.int .i64 n17,.int .i64 n18])] σ8 (fun v19 σ20=>
  ∃ t21:Bool,(v19=(.bool t21)/\bc (!t21) (rt σ20 R (.tuple #[.int .i64 n11,.int .i64 101])) (wk .i64 (n11+1) (fun n22=>
  bk σ20 n10 (fun m23 σ24=>I9 m23 n22 σ24))))))))))))) (J6 σ8))))))
def Bv:OA:=⟨[],false,[]⟩
def Qm:MAn:=(.seq (.txt []) (.seq (.seq (.txt []) (.seq (.txt []) (.cond (.seq (.txt []) .leaf) .leaf))) (.seq (.seq (.txt []) (.cond (.seq (.txt []) .leaf) .leaf)) (.cut ⟨[true],1,[],[]⟩ (.seq (.txt []) (.block (.loop ⟨[true],1,[.slot 2 (.hb 0 0),.slot 7 (.sc (.int .i64))],[(1,true)]⟩ (.seq (.seq (.txt []) (.cond .leaf .leaf)) (.seq (.block (.seq (.plan [8] (tkOR2 8 0 Bv (.alt 8 false Bv (.take 9 Bv .done) .done))) (.cond (.seq (.txt []) .leaf) .leaf))) (.txt [])))))) (.seq (.txt []) .leaf)))))
theorem P4 (σ:Hp) (f0:Option Addr) (c0 i0:Nat) (g0:Option Addr) (d0 h0:Nat) (b0:Option Addr) (a0 e0:Nat) (l_A:Option Addr) (l_n l_c:Nat) (R:Value->Hp->Prop) (h:HO σ f0 c0 i0 g0 d0 h0 b0 a0 e0 l_A l_n l_c R):Ad Tryz.prog 78 #[(.agg #[.slice f0 c0 i0,.slice g0 d0 h0,.slice b0 a0 e0]),.slice l_A l_n l_c] σ R:=
 Ac CO Qm Tryz.func78 rfl (by kernel_rfl) (by kernel_rfl) (by kernel_rfl) h
theorem F3:Al Tryz.prog 78=true:=by kernel_rfl
abbrev Ty:FuncId:=142
def I1 (σ:Hp) (l_A:Option Addr) (l_n l_c:Nat) (day:Int) (R:Value->Hp->Prop):Prop:=
 cut (α:=Int->Hp->Prop) (fun n4 σ2=>∀ _:Nat->Value,(0<=n4/\n4<=((l_c:Nat):Int)/\rt σ2 R (.slice l_A ((n4:Int).toNat) l_c))) (fun J3=>
  ∃ I7:Nat->Int->Hp->Prop,(∃ n80,I7 n80 0 σ)/\∀ n8:Nat,∀ n9:Int,∀ σ6:Hp,I7 n8 n9 σ6->∀ _:Nat->Value,cut (α:=Hp->Prop) (fun  σ11=>
  ∀ _:Nat->Value,wk .i64 (n9+1) (fun n13=>bk σ11 n8 (fun m14 σ15=>I7 m14 n13 σ15))) (fun J12=>
  cut (α:=Bool->Hp->Prop) (fun t19 σ17=>∀ _:Nat->Value,bc t19 (J12 σ17) (J3 n9 σ17)) (fun J18=>
  bc (decide (n9<((l_n:Nat):Int))) (ix l_A l_n n9 5 (fun b20 a21=>ldI σ6 .i64 b20 a21 (fun n22=>
  J18 (decide (n22<=day)) σ6))) (J18 false σ6))))
def QR:MAn:=(.seq (.txt []) (.seq (.txt []) (.cut ⟨[],0,[.slot 5 (.sc (.int .i64))],[(0,true)]⟩ (.block (.loop ⟨[],0,[.slot 5 (.sc (.int .i64))],[(0,true),(1,true)]⟩ (.cut ⟨[],0,[],[(0,true),(1,true),(5,true)]⟩ (.cut ⟨[],0,[.slot 18 (.sc (.bool))],[(0,true),(1,true),(5,true)]⟩ (.txt [⟨[],false,[]⟩,⟨[],false,[]⟩,⟨[],false,[]⟩,⟨[],false,[]⟩,⟨[],true,[]⟩]) (.cond .leaf .leaf)) (.block (.txt []))))) (.seq (.txt []) .leaf))))
theorem Rg (σ:Hp) (l_A:Option Addr) (l_n l_c:Nat) (day:Int) (R:Value->Hp->Prop) (h:I1 σ l_A l_n l_c day R):Ad Tryz.prog 142 #[.slice l_A l_n l_c,.int .i64 day] σ R:=
 Ac CO QR Tryz.func142 rfl (by kernel_rfl) (by kernel_rfl) (by kernel_rfl) h
theorem Nz:Al Tryz.prog 142=true:=by kernel_rfl
abbrev PF:FuncId:=140
def Fg (σ:Hp) (f0:Option Addr) (c0 i0:Nat) (g0:Option Addr) (d0 h0:Nat) (b0:Option Addr) (a0 e0:Nat) (l_A:Option Addr) (l_n l_c:Nat) (day:Int) (R:Value->Hp->Prop):Prop:=
 cl Tryz.prog (.func (.func 78) #[] #[]) #[(.agg #[.slice f0 c0 i0,.slice g0 d0 h0,.slice b0 a0 e0]),.slice l_A l_n l_c] σ (fun v1 σ2=>
  ∃ n3 n4:Int,(v1=(.tuple #[.int .i64 n3,.int .i64 n4])/\bc (!decide (n4=0)) (rt σ2 R (.int .i64 n4)) (cl Tryz.prog (.func (.func 197) #[] #[]) #[.int .i64 day,.int .i64 0,.int .i64 10000] σ2 (fun v5 σ6=>
  ∃ t7:Bool,(v5=(.bool t7)/\bc (!t7) (rt σ6 R (.int .i64 1)) (rt σ6 R (.int .i64 0)))))))
def Ml:MAn:=(.seq (.txt []) (.seq (.seq (.txt []) (.seq (.txt []) (.cond (.seq (.txt []) .leaf) .leaf))) (.seq (.seq (.txt []) (.cond (.seq (.txt []) .leaf) .leaf)) (.seq (.txt []) .leaf))))
theorem Ma (σ:Hp) (f0:Option Addr) (c0 i0:Nat) (g0:Option Addr) (d0 h0:Nat) (b0:Option Addr) (a0 e0:Nat) (l_A:Option Addr) (l_n l_c:Nat) (day:Int) (R:Value->Hp->Prop) (h:Fg σ f0 c0 i0 g0 d0 h0 b0 a0 e0 l_A l_n l_c day R):Ad Tryz.prog 140 #[(.agg #[.slice f0 c0 i0,.slice g0 d0 h0,.slice b0 a0 e0]),.slice l_A l_n l_c,.int .i64 day] σ R:=
 Ac CO Ml Tryz.func140 rfl (by kernel_rfl) (by kernel_rfl) (by kernel_rfl) h
theorem JI:Al Tryz.prog 140=true:=by kernel_rfl
abbrev SF:FuncId:=200
def HT (σ:Hp) (f0:Option Addr) (c0 _:Nat) (_:Option Addr) (_ _:Nat) (_:Option Addr) (_ _:Nat) (l_A:Option Addr) (l_n _:Nat) (rule day:Int) (R:Value->Hp->Prop):Prop:=
 cut (α:=Int->Hp->Prop) (fun n4 σ2=>∀ _:Nat->Value,bc (decide ((0:Int)<=n4)) (wk .i64 (day-n4) (fun n5=>
  ix f0 c0 rule 4 (fun b6 a7=>ldI σ2 .i64 b6 (a7+1) (fun n8=>rt σ2 R (.bool (decide (n5<n8))))))) (rt σ2 R (.bool false))) (fun J3=>
  ∃ I11:Nat->Int->Int->Hp->Prop,(∃ n120,I11 n120 (-1) 0 σ)/\∀ n12:Nat,∀ n13 n14:Int,∀ σ10:Hp,I11 n12 n13 n14 σ10->∀ _:Nat->Value,bc (decide (n14<((l_n:Nat):Int))) (cut (α:=Int->Hp->Prop) (fun n18 σ16=>
  ∀ _:Nat->Value,wk .i64 (n14+1) (fun n19=>bk σ16 n12 (fun m20 σ21=>I11 m20 n18 n19 σ21))) (fun J17=>
  cut (α:=Int->Hp->Prop) (fun n25 σ23=>∀ _:Nat->Value,cut (α:=Bool->Hp->Prop) (fun t29 σ27=>
  ∀ _:Nat->Value,bc t29 (J17 (-1) σ27) (J17 n25 σ27)) (fun J28=>ix l_A l_n n14 5 (fun b30 a31=>
  ldI σ23 .i64 b30 (a31+1) (fun n32=>bc (decide (n32=6)) (ix l_A l_n n14 5 (fun b33 a34=>ldI σ23 .i64 b33 (a34+2) (fun n35=>
  ix f0 c0 rule 4 (fun b36 a37=>ldI σ23 .i64 b36 a37 (fun n38=>J28 (decide (n35=n38)) σ23))))) (J28 false σ23))))) (fun J24=>
  cut (α:=Bool->Hp->Prop) (fun t42 σ40=>∀ _:Nat->Value,bc t42 (ix l_A l_n n14 5 (fun b43 a44=>
  ldI σ40 .i64 b43 a44 (fun n45=>J24 n45 σ40))) (J24 n13 σ40)) (fun J41=>ix l_A l_n n14 5 (fun b46 a47=>
  ldI σ10 .i64 b46 (a47+1) (fun n48=>bc (decide (n48=1)) (ix l_A l_n n14 5 (fun b49 a50=>ldI σ10 .i64 b49 (a50+2) (fun n51=>
  J41 (decide (n51=rule)) σ10))) (J41 false σ10))))))) (J3 n13 σ10))
def AG:OA:=⟨[],false,[]⟩
def PZ:MAn:=(.seq (.txt []) (.seq (.txt []) (.cut ⟨[true],1,[.slot 4 (.hb 0 0),.slot 9 (.sc (.int .i64))],[(2,true),(3,true)]⟩ (.seq (.txt []) (.block (.loop ⟨[true],1,[.slot 4 (.hb 0 0),.slot 9 (.sc (.int .i64)),.slot 10 (.sc (.int .i64))],[(1,true),(2,true),(3,true)]⟩ (.seq (.seq (.txt []) (.cond .leaf .leaf)) (.cut ⟨[true],1,[.slot 4 (.hb 0 0),.slot 9 (.sc (.int .i64))],[(1,true),(2,true),(3,true),(10,true)]⟩ (.block (.cut ⟨[true],1,[.slot 4 (.hb 0 0),.slot 9 (.sc (.int .i64))],[(1,true),(2,true),(3,true),(10,true)]⟩ (.cut ⟨[true],1,[.slot 4 (.hb 0 0),.slot 31 (.sc (.bool))],[(1,true),(2,true),(3,true),(9,true),(10,true)]⟩ (.txt [AG,AG,AG,AG,AG,AG,⟨[],true,[]⟩]) (.cond (.txt []) .leaf)) (.cut ⟨[true],1,[.slot 4 (.hb 0 0),.slot 56 (.sc (.bool))],[(1,true),(2,true),(3,true),(9,true),(10,true)]⟩ (.plan [] (tkOR2 6 0 AG (.take 6 ⟨[],true,[]⟩ (tkOR2 13 7 AG .done)))) (.cond (.txt []) .leaf)))) (.txt [])))))) (.seq (.txt [AG,AG,⟨[],true,[]⟩]) .leaf))))
theorem Ql (σ:Hp) (f0:Option Addr) (c0 i0:Nat) (g0:Option Addr) (d0 h0:Nat) (b0:Option Addr) (a0 e0:Nat) (l_A:Option Addr) (l_n l_c:Nat) (rule day:Int) (R:Value->Hp->Prop) (h:HT σ f0 c0 i0 g0 d0 h0 b0 a0 e0 l_A l_n l_c rule day R):Ad Tryz.prog 200 #[(.agg #[.slice f0 c0 i0,.slice g0 d0 h0,.slice b0 a0 e0]),.slice l_A l_n l_c,.int .i64 rule,.int .i64 day] σ R:=
 Ac CO PZ Tryz.func200 rfl (by kernel_rfl) (by kernel_rfl) (by kernel_rfl) h
theorem Mb:Al Tryz.prog 200=true:=by kernel_rfl
abbrev QP:FuncId:=141
def FU (σ:Hp) (f0:Option Addr) (c0 i0:Nat) (g0:Option Addr) (d0 h0:Nat) (b0:Option Addr) (a0 e0:Nat) (l_A:Option Addr) (l_n l_c:Nat) (ride day:Int) (R:Value->Hp->Prop):Prop:=
 cut (α:=Bool->Hp->Prop) (fun t4 σ2=>∀ _:Nat->Value,cut (α:=List Int->Hp->Prop) (fun xs8 σ6=>
  ∀ _:Nat->Value,(0<=(4:Int)/\(4:Int)<=4/\(4:Int)<=(1000000000:Int)/\ix b0 a0 ride 1 (fun b9 a10=>
  ldI σ6 .i64 b9 a10 (fun n11=>cut (α:=Bool->Int->List Int->Hp->Prop) (fun t15 n16 xs17 σ13=>
  ∀ _:Nat->Value,cut (α:=List Int->Hp->Prop) (fun xs21 σ19=>∀ _:Nat->Value,cut (α:=List Int->Hp->Prop) (fun xs25 σ23=>
  ∀ _:Nat->Value,cut (α:=List Int->Hp->Prop) (fun xs29 σ27=>∀ _:Nat->Value,exl 3 [.int .i64] xs29 σ27 (fun A30 l30 c30 σ31=>
  rt σ31 R (.slice A30 l30 c30))) (fun J28=>bc (decide (n16<day)) (Bh (List.length xs25+List.length ([4]:List Int)) (J28 (xs25++([4]:List Int)) σ23)) (J28 xs25 σ23))) (fun J24=>
  bc (!t15) (Bh (List.length xs21+List.length ([3]:List Int)) (J24 (xs21++([3]:List Int)) σ19)) (J24 xs21 σ19))) (fun J20=>
  cut (α:=Bool->Hp->Prop) (fun t35 σ33=>∀ _:Nat->Value,bc t35 (Bh (List.length xs8+List.length ([2]:List Int)) (J20 (xs8++([2]:List Int)) σ33)) (J20 xs8 σ33)) (fun J34=>
  (0<=(3:Int)/\3<((List.length xs17:Nat):Int)/\lat xs17 ((3:Int).toNat) (fun r36=>bc (decide ((0:Int)<r36)) (J34 true σ13) ((0<=(2:Int) /\
  2<((List.length xs17:Nat):Int)/\lat xs17 ((2:Int).toNat) (fun r37=>J34 (decide ((1:Int)<r37)) σ13)))))))) (fun J14=>
  ∃ I40:Nat->Bool->Int->Int->List Int->Hp->Prop,(∃ n410,I40 n410 false n11 0 (List.replicate (4:Int).toNat 0:List Int) σ6) /\
  ∀ n41:Nat,∀ t42:Bool,∀ n43 n44:Int,∀ xs45:List Int,∀ σ39:Hp,I40 n41 t42 n43 n44 xs45 σ39->∀ _:Nat->Value,bc (decide (n44<((l_n:Nat):Int))) (cut (α:=Bool->Int->List Int->Hp->Prop) (fun t49 n50 xs51 σ47=>
  ∀ _:Nat->Value,wk .i64 (n44+1) (fun n52=>bk σ47 n41 (fun m53 σ54=>I40 m53 t49 n50 n52 xs51 σ54))) (fun J48=>
  ix l_A l_n n44 5 (fun b55 a56=>ldI σ39 .i64 b55 (a56+2) (fun n57=>bc (!decide (n57=ride)) (J48 t42 n43 xs45 σ39) (ix l_A l_n n44 5 (fun b58 a59=>
  ldI σ39 .i64 b58 (a59+1) (fun n60=>bc (decide (n60=2)) (cl Tryz.prog (.func (.func 199) #[] #[]) #[.slice l_A l_n l_c,.int .i64 n44] σ39 (fun v61 σ62=>
  ∃ t63:Bool,(v61=(.bool t63)/\bc t63 (ix l_A l_n n44 5 (fun b64 a65=>ldI σ62 .i64 b64 (a65+3) (fun n66=>
  (0<=n66/\n66<((List.length xs45:Nat):Int)/\lat xs45 ((n66:Int).toNat) (fun r67=>wk .i64 (r67+1) (fun n68=>
  (0<=n66/\n66<((List.length xs45:Nat):Int)/\lat xs45 ((n66:Int).toNat) (fun _=>J48 t42 n43 (List.set xs45 ((n66:Int).toNat) n68) σ62)))))))) (J48 t42 n43 xs45 σ62)))) (bc (decide (n60=4)) (bc t42 (J48 true n43 xs45 σ39) (ix l_A l_n n44 5 (fun b70 a71=>
  ldI σ39 .i64 b70 a71 (fun n72=>J48 (decide (n72=day)) n43 xs45 σ39)))) (bc (decide (n60=6)) (J48 false n43 xs45 σ39) (bc (decide (n60=5)) (ix l_A l_n n44 5 (fun b73 a74=>
  ldI σ39 .i64 b73 (a74+3) (fun n75=>J48 t42 n75 xs45 σ39))) (J48 t42 n43 xs45 σ39))))))))))) (J14 t42 n43 xs45 σ39)))))) (fun J7=>
  bc (!t4) (adp 3 [.int .i64] none 0 0 σ2 (fun (xs76:List Int) σ77=>Bh (List.length xs76+List.length ([1]:List Int)) (J7 (xs76++([1]:List Int)) σ77))) (adp 3 [.int .i64] none 0 0 σ2 (fun (xs78:List Int) σ79=>
  J7 xs78 σ79)))) (fun J3=>∃ I82:Nat->Bool->Int->Hp->Prop,(∃ n830,I82 n830 true 0 σ)/\∀ n83:Nat,∀ t84:Bool,∀ n85:Int,∀ σ81:Hp,I82 n83 t84 n85 σ81->∀ _:Nat->Value,bc (decide (n85<((c0:Nat):Int))) (cut (α:=Bool->Hp->Prop) (fun t89 σ87=>
  ∀ _:Nat->Value,wk .i64 (n85+1) (fun n90=>bk σ87 n83 (fun m91 σ92=>I82 m91 t89 n90 σ92))) (fun J88=>
  bc t84 (ix f0 c0 n85 4 (fun b93 a94=>ldI σ81 .i64 b93 a94 (fun n95=>bc (!decide (n95=ride)) (J88 true σ81) (cl Tryz.prog (.func (.func 200) #[] #[]) #[(.agg #[.slice f0 c0 i0,.slice g0 d0 h0,.slice b0 a0 e0]),.slice l_A l_n l_c,.int .i64 n85,.int .i64 day] σ81 (fun v96 σ97=>
  ∃ t98:Bool,(v96=(.bool t98)/\J88 t98 σ97)))))) (J88 false σ81))) (J3 t84 σ81))
def AT:OA:=⟨[],false,[]⟩
def M5:MAn:=(.seq (.txt []) (.seq (.txt []) (.seq (.txt []) (.cut ⟨[true],1,[.slot 4 (.hb 0 0),.slot 10 (.sc (.bool))],[(1,true),(2,true),(3,true),(9,true)]⟩ (.seq (.txt []) (.block (.loop ⟨[true],1,[.slot 4 (.hb 0 0),.slot 10 (.sc (.bool)),.slot 11 (.sc (.int .i64))],[(1,true),(2,true),(3,true),(9,true)]⟩ (.seq (.seq (.txt []) (.cond .leaf .leaf)) (.cut ⟨[true],1,[.slot 4 (.hb 0 0),.slot 10 (.sc (.bool))],[(1,true),(2,true),(3,true),(9,true),(11,true)]⟩ (.block (.txt [AT,⟨[],true,[]⟩,AT,AT,AT,AT,AT,AT,AT,AT,⟨[],true,[]⟩])) (.txt [])))))) (.cut ⟨[true],2,[.slot 4 (.hb 0 0),.slot 9 (.lst 1 3 [.int .i64])],[(1,true),(2,true),(3,true)]⟩ (.seq (.txt []) (.cond (.txt []) .leaf)) (.seq (.txt []) (.seq (.txt []) (.seq (.txt []) (.cut ⟨[true,true,false],3,[.slot 9 (.hl 1 0),.slot 12 (.hl 2 0),.slot 13 (.sc (.bool)),.slot 14 (.sc (.int .i64)),.modl 2 0 3 [.int .i64]],[(3,true)]⟩ (.seq (.txt []) (.block (.loop ⟨[true,true,false],3,[.slot 9 (.hl 1 0),.slot 12 (.hl 2 0),.slot 13 (.sc (.bool)),.slot 14 (.sc (.int .i64)),.slot 15 (.sc (.int .i64)),.modl 2 0 3 [.int .i64]],[(1,true),(2,true),(3,true)]⟩ (.seq (.seq (.txt []) (.cond .leaf .leaf)) (.cut ⟨[true,true,false],3,[.slot 9 (.hl 1 0),.slot 12 (.hl 2 0),.slot 13 (.sc (.bool)),.slot 14 (.sc (.int .i64)),.modl 2 0 3 [.int .i64]],[(1,true),(2,true),(3,true),(15,true)]⟩ (.block (.seq (.seq (.txt []) (.cond .leaf .leaf)) (.seq (.txt []) (.block (.seq (.txt []) (.cond (.seq (.txt []) (.cond (.txt []) .leaf)) (.seq (.txt []) (.cond (.txt [AT,⟨[],true,[]⟩]) (.seq (.txt []) (.cond (.txt []) (.seq (.txt []) (.cond (.txt []) .leaf)))))))))))) (.txt [])))))) (.cut ⟨[true,false,true],3,[.slot 9 (.lst 1 3 [.int .i64])],[(3,true),(13,true),(14,true)]⟩ (.cut ⟨[true,true,true],3,[.slot 9 (.hl 1 0),.slot 115 (.sc (.bool))],[(3,true),(13,true),(14,true)]⟩ (.txt [AT,AT,AT,AT,⟨[],true,[]⟩]) (.cond (.txt []) .leaf)) (.cut ⟨[true,false,true],3,[.slot 9 (.lst 1 3 [.int .i64])],[(3,true),(14,true)]⟩ (.seq (.txt []) (.cond (.txt []) .leaf)) (.cut ⟨[true,false,true],3,[.slot 9 (.lst 1 3 [.int .i64])],[]⟩ (.seq (.txt []) (.cond (.txt []) .leaf)) (.seq (.txt []) .leaf)))))))))))))
theorem Np (σ:Hp) (f0:Option Addr) (c0 i0:Nat) (g0:Option Addr) (d0 h0:Nat) (b0:Option Addr) (a0 e0:Nat) (l_A:Option Addr) (l_n l_c:Nat) (ride day:Int) (R:Value->Hp->Prop) (h:FU σ f0 c0 i0 g0 d0 h0 b0 a0 e0 l_A l_n l_c ride day R):Ad Tryz.prog 141 #[(.agg #[.slice f0 c0 i0,.slice g0 d0 h0,.slice b0 a0 e0]),.slice l_A l_n l_c,.int .i64 ride,.int .i64 day] σ R:=
 Ac CO M5 Tryz.func141 rfl (by kernel_rfl) (by kernel_rfl) (by kernel_rfl) h
theorem Kw:Al Tryz.prog 141=true:=by kernel_rfl
abbrev PT:FuncId:=80
def Fj (σ:Hp) (f0:Option Addr) (c0 i0:Nat) (g0:Option Addr) (d0 h0:Nat) (b0:Option Addr) (a0 e0:Nat) (l_A:Option Addr) (l_n l_c:Nat) (day:Int) (R:Value->Hp->Prop):Prop:=
 cl Tryz.prog (.func (.func 140) #[] #[]) #[(.agg #[.slice f0 c0 i0,.slice g0 d0 h0,.slice b0 a0 e0]),.slice l_A l_n l_c,.int .i64 day] σ (fun v1 σ2=>
  ∃ n3:Int,(v1=(.int .i64 n3)/\bc (!decide (n3=0)) (rt σ2 R (.tuple #[.slice none 0 0,.int .i64 n3])) (cut (α:=Option Addr->Nat->Nat->Hp->Prop) (fun A7 l7 c7 σ5=>
  ∀ _:Nat->Value,rt σ5 R (.tuple #[.slice A7 l7 c7,.int .i64 0])) (fun J6=>∃ I10:Nat->Option Addr->Nat->Nat->Int->Hp->Prop,(∃ n110,I10 n110 none 0 0 0 σ2) /\
  ∀ n11:Nat,∀ A12:Option Addr,∀ l12 c12:Nat,∀ n13:Int,∀ σ9:Hp,I10 n11 A12 l12 c12 n13 σ9->∀ _:Nat->Value,bc (decide (n13<((a0:Nat):Int))) (cut (α:=Option Addr->Nat->Nat->Hp->Prop) (fun A17 l17 c17 σ15=>
  ∀ _:Nat->Value,wk .i64 (n13+1) (fun n18=>bk σ15 n11 (fun m19 σ20=>I10 m19 A17 l17 c17 n18 σ20))) (fun J16=>
  cl Tryz.prog (.func (.func 142) #[] #[]) #[.slice l_A l_n l_c,.int .i64 day] σ9 (fun v21 σ22=>
  ∃ A23:Option Addr,∃ l23 c23:Nat,(v21=(.slice A23 l23 c23)/\(Hp.Sub σ9 σ22/\cl Tryz.prog (.func (.func 141) #[] #[]) #[(.agg #[.slice f0 c0 i0,.slice g0 d0 h0,.slice b0 a0 e0]),.slice A23 l23 c23,.int .i64 n13,.int .i64 day] σ22 (fun v24 σ25=>
  ∃ A26:Option Addr,∃ l26 c26:Nat,(v24=(.slice A26 l26 c26)/\bc (decide (((l26:Nat):Int)=0)) (adp 3 [.int .i64] A12 l12 c12 σ25 (fun (xs27:List Int) σ28=>
  Bh (List.length xs27+List.length ([n13]:List Int)) (exl 3 [.int .i64] (xs27++([n13]:List Int)) σ28 (fun A29 l29 c29 σ30=>
  J16 A29 l29 c29 σ30)))) (J16 A12 l12 c12 σ25)))))))) (J6 A12 l12 c12 σ9)))))
def Bl:OA:=⟨[],false,[]⟩
def Mi:MAn:=(.seq (.txt []) (.seq (.seq (.txt []) (.seq (.txt []) (.cond (.seq (.txt []) .leaf) .leaf))) (.seq (.txt []) (.cut ⟨[true],1,[.slot 9 (.sc (.slc))],[]⟩ (.seq (.txt []) (.block (.loop ⟨[true],1,[.slot 3 (.hb 0 0),.slot 9 (.sc (.slc)),.slot 10 (.sc (.int .i64))],[(1,true),(2,true)]⟩ (.seq (.seq (.txt []) (.cond .leaf .leaf)) (.cut ⟨[true],1,[.slot 3 (.hb 0 0),.slot 9 (.sc (.slc))],[(1,true),(2,true),(10,true)]⟩ (.block (.seq (.plan [6] (.take 0 Bl (.take 1 Bl (.take 2 Bl (.take 4 Bl (.take 5 Bl (.alt 3 true Bl (.alt 6 false Bl (.take 7 Bl (.take 8 Bl .done)) .done) .done))))))) (.cond (.txt []) .leaf))) (.txt [])))))) (.seq (.txt []) .leaf)))))
theorem MF (σ:Hp) (f0:Option Addr) (c0 i0:Nat) (g0:Option Addr) (d0 h0:Nat) (b0:Option Addr) (a0 e0:Nat) (l_A:Option Addr) (l_n l_c:Nat) (day:Int) (R:Value->Hp->Prop) (h:Fj σ f0 c0 i0 g0 d0 h0 b0 a0 e0 l_A l_n l_c day R):Ad Tryz.prog 80 #[(.agg #[.slice f0 c0 i0,.slice g0 d0 h0,.slice b0 a0 e0]),.slice l_A l_n l_c,.int .i64 day] σ R:=
 Ac CO Mi Tryz.func80 rfl (by kernel_rfl) (by kernel_rfl) (by kernel_rfl) h
theorem J0:Al Tryz.prog 80=true:=by kernel_rfl
end Go.Proofs.YtoelhdjloaknbaaGreat
