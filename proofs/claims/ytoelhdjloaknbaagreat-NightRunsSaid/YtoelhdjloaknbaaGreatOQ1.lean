/- Trimmed by wip/trim.py to what this claim rests on. -/
import Derived.Test.YtoelhdjloaknbaaGreatOB11
namespace Go.Proofs.YtoelhdjloaknbaaGreat
set_option maxRecDepth 100000
open Go.RowKit
def tkOQ1:Nat->Nat->OA->MPlan->MPlan
 |0,_,_,x=>x
 |n+1,i,a,x=>.take i a (tkOQ1 n (i+1) a x)
theorem Bn:Tryz.prog.follows .mixedOrders=true:=by kernel_rfl
abbrev MW:FuncId:=68
def HG (σ:Hp) (b0:Option Addr) (a0 c0:Nat) (d0:Int) (l_A:Option Addr) (l_n l_c:Nat) (R:Value->Hp->Prop):Prop:=
 cl Tryz.prog (.func (.func 123) #[] #[]) #[(.agg #[.slice b0 a0 c0,.int .i64 d0])] σ (fun v1 σ2=>
  ∃ n3:Int,(v1=(.int .i64 n3)/\bc (!decide (n3=0)) (rt σ2 R (.int .i64 n3)) (bx σ2 (.cells #[.slice b0 a0 c0,.int .i64 d0] 24) (fun b4 σ5=>
  cut (α:=Hp->Prop) (fun  σ7=>∀ _:Nat->Value,rt σ7 R (.int .i64 0)) (fun J8=>cut (α:=Bool->Hp->Prop) (fun t12 σ10=>
  ∀ _:Nat->Value,bc t12 (rt σ10 R (.int .i64 71)) (J8 σ10)) (fun J11=>bc (decide ((60:Int)<((l_n:Nat):Int))) (J11 true σ5) (cl Tryz.prog (.func (.func 127) #[] #[]) #[.slice l_A l_n l_c,(.func (.func 124) #[] #[(.pointer (some ⟨b4,0,none⟩))])] σ5 (fun v13 σ14=>
  ∃ t15:Bool,(v13=(.bool t15)/\J11 t15 σ14)))))))))
def Qc:MAn:=(.seq (.txt []) (.seq (.seq (.txt []) (.seq (.txt []) (.cond (.seq (.txt []) .leaf) .leaf))) (.seq (.txt []) (.cut ⟨[false],1,[],[]⟩ (.cut ⟨[false],1,[.slot 20 (.sc (.bool))],[]⟩ (.txt [⟨[],false,[]⟩,⟨[],false,[]⟩,⟨[],false,[]⟩,⟨[],true,[]⟩]) (.cond (.seq (.txt []) .leaf) .leaf)) (.seq (.txt []) .leaf)))))
theorem PV (σ:Hp) (b0:Option Addr) (a0 c0:Nat) (d0:Int) (l_A:Option Addr) (l_n l_c:Nat) (R:Value->Hp->Prop) (h:HG σ b0 a0 c0 d0 l_A l_n l_c R):Ad Tryz.prog 68 #[(.agg #[.slice b0 a0 c0,.int .i64 d0]),.slice l_A l_n l_c] σ R:=
 Ac Bn Qc Tryz.func68 rfl (by kernel_rfl) (by kernel_rfl) (by kernel_rfl) h
theorem Dl:Al Tryz.prog 68=true:=by kernel_rfl
abbrev O1:FuncId:=38
def Jz (σ:Hp) (b0:Option Addr) (a0 _:Nat) (d0:Int) (R:Value->Hp->Prop):Prop:=
 (((∃ ys1:List (Int×Int×Int×Int×Bool),RdS [.int .i64,.int .i64,.int .i64,.int .i64,.bool] σ b0 a0 ys1 /\
  Bh (List.length ([]:List (Int×Int×Int×Int×Bool))+List.length ys1) (exl 77 [.int .i64,.int .i64,.int .i64,.int .i64,.bool] (([]:List (Int×Int×Int×Int×Bool))++ys1) σ (fun A2 l2 c2 σ3=>
  rt σ3 R (.agg #[.slice A2 l2 c2,.int .i64 d0]))))/\(∃ ys4:List (Int×Int×Int×Int×Bool),RdS [.int .i64,.int .i64,.int .i64,.int .i64,.bool] σ b0 a0 ys4 /\
  Bh (List.length ([]:List (Int×Int×Int×Int×Bool))+List.length ys4) (exl 77 [.int .i64,.int .i64,.int .i64,.int .i64,.bool] (([]:List (Int×Int×Int×Int×Bool))++ys4) σ (fun A5 l5 c5 σ6=>
  rt σ6 R (.agg #[.slice A5 l5 c5,.int .i64 d0])))))/\(∃ ys7:List (Int×Int×Int×Int×Bool),RdS [.int .i64,.int .i64,.int .i64,.int .i64,.bool] σ b0 a0 ys7 /\
  Bh (List.length ([]:List (Int×Int×Int×Int×Bool))+List.length ys7) (exl 77 [.int .i64,.int .i64,.int .i64,.int .i64,.bool] (([]:List (Int×Int×Int×Int×Bool))++ys7) σ (fun A8 l8 c8 σ9=>
  rt σ9 R (.agg #[.slice A8 l8 c8,.int .i64 d0])))))
def Ba:OA:=⟨[],false,[]⟩
def QQ:MAn:=(.seq (.txt []) (.seq (.plan [3,7] (.take 1 Ba (.take 2 Ba (.take 4 Ba (.alt 0 true Ba (.alt 3 false Ba (.take 5 Ba (.take 6 Ba (.alt 7 false Ba .done .done))) (.alt 5 true Ba (.alt 3 false Ba (.take 6 Ba (.alt 7 false Ba .done .done)) .done) .done)) (.alt 5 true Ba (.alt 0 true Ba (.alt 3 false Ba (.take 6 Ba (.alt 7 false Ba .done .done)) .done) .done) .done)))))) .leaf))
theorem QM (σ:Hp) (b0:Option Addr) (a0 c0:Nat) (d0:Int) (R:Value->Hp->Prop) (h:Jz σ b0 a0 c0 d0 R):Ad Tryz.prog 38 #[(.agg #[.slice b0 a0 c0,.int .i64 d0])] σ R:=
 Ac Bn QQ Tryz.func38 rfl (by kernel_rfl) (by kernel_rfl) (by kernel_rfl) h
theorem M3:Al Tryz.prog 38=true:=by kernel_rfl
abbrev MX:FuncId:=77
def HF (σ:Hp) (b0:Option Addr) (a0 c0:Nat) (d0:Int) (l_A:Option Addr) (l_n _:Nat) (R:Value->Hp->Prop):Prop:=
 cl Tryz.prog (.func (.func 135) #[] #[]) #[(.agg #[.slice b0 a0 c0,.int .i64 d0])] σ (fun v1 σ2=>
  ∃ n3:Int,(v1=(.int .i64 n3)/\bc (!decide (n3=0)) (rt σ2 R (.int .i64 n3)) (bc (decide ((60:Int)<((l_n:Nat):Int))) (rt σ2 R (.int .i64 71)) (cut (α:=Hp->Prop) (fun  σ5=>
  ∀ _:Nat->Value,rt σ5 R (.int .i64 0)) (fun J6=>∃ I9:Nat->Int->Hp->Prop,(∃ n100,I9 n100 0 σ2) /\
  ∀ n10:Nat,∀ n11:Int,∀ σ8:Hp,I9 n10 n11 σ8->∀ _:Nat->Value,bc (decide (n11<((l_n:Nat):Int))) (cut (α:=Hp->Prop) (fun  σ13=>
  ∀ _:Nat->Value,wk .i64 (n11+1) (fun n15=>bk σ13 n10 (fun m16 σ17=>I9 m16 n15 σ17))) (fun J14=>
  ix l_A l_n n11 5 (fun b18 a19=>ldI σ8 .i64 b18 a19 (fun n20=>ldI σ8 .i64 b18 (a19+1) (fun n21=>
  ldI σ8 .i64 b18 (a19+2) (fun n22=>ldS σ8 b18 (a19+3) (fun A23 l23 _=>ldI σ8 .i64 b18 (a19+4) (fun n24=>
  cut (α:=Hp->Prop) (fun  σ26=>∀ _:Nat->Value,∃ I30:Nat->Int->Hp->Prop,(∃ n310,I30 n310 0 σ26) /\
  ∀ n31:Nat,∀ n32:Int,∀ σ29:Hp,I30 n31 n32 σ29->∀ _:Nat->Value,bc (decide (n32<((l23:Nat):Int))) (ix A23 l23 n32 1 (fun b33 a34=>
  ldI σ29 .i64 b33 a34 (fun n35=>wk .i64 (((a0:Nat):Int)-1) (fun n36=>cl Tryz.prog (.func (.func 136) #[] #[]) #[.int .i64 n35,.int .i64 0,.int .i64 n36] σ29 (fun v37 σ38=>
  ∃ t39:Bool,(v37=(.bool t39)/\bc (!t39) (rt σ38 R (.int .i64 71)) (wk .i64 (n32+1) (fun n40=>
  bk σ38 n31 (fun m41 σ42=>I30 m41 n40 σ42))))))))) (J14 σ29)) (fun J27=>cut (α:=Bool->Hp->Prop) (fun t46 σ44=>
  ∀ _:Nat->Value,bc t46 (rt σ44 R (.int .i64 71)) (J27 σ44)) (fun J45=>cl Tryz.prog (.func (.func 136) #[] #[]) #[.int .i64 n20,.int .i64 0,.int .i64 2000] σ8 (fun v47 σ48=>
  ∃ t49:Bool,(v47=(.bool t49)/\bc (!t49) (J45 true σ48) (cl Tryz.prog (.func (.func 136) #[] #[]) #[.int .i64 n21,.int .i64 1,.int .i64 40] σ48 (fun v50 σ51=>
  ∃ t52:Bool,(v50=(.bool t52)/\bc (!t52) (J45 true σ51) (cl Tryz.prog (.func (.func 136) #[] #[]) #[.int .i64 n22,.int .i64 0,.int .i64 10000] σ51 (fun v53 σ54=>
  ∃ t55:Bool,(v53=(.bool t55)/\bc (!t55) (J45 true σ54) (bc (decide ((10:Int)<((l23:Nat):Int))) (J45 true σ54) (cl Tryz.prog (.func (.func 136) #[] #[]) #[.int .i64 n24,.int .i64 0,.int .i64 2000] σ54 (fun v56 σ57=>
  ∃ t58:Bool,(v56=(.bool t58)/\J45 (!t58) σ57)))))))))))))))))))))) (J6 σ8))))))
def Ay:OA:=⟨[],false,[]⟩
def P6:MAn:=(.seq (.txt []) (.seq (.txt []) (.seq (.seq (.txt []) (.cond (.seq (.txt []) .leaf) .leaf)) (.seq (.seq (.txt []) (.cond (.seq (.txt []) .leaf) .leaf)) (.cut ⟨[true],1,[],[]⟩ (.seq (.txt []) (.block (.loop ⟨[true],1,[.slot 2 (.hb 0 0),.slot 6 (.sc (.int .i64))],[(1,true)]⟩ (.seq (.seq (.txt []) (.cond .leaf .leaf)) (.cut ⟨[true],1,[.slot 2 (.hb 0 0)],[(1,true),(6,true)]⟩ (.block (.seq (.txt []) (.cut ⟨[true,true],2,[.slot 2 (.hb 0 0),.slot 7 (.hb 1 0)],[(1,true),(6,true)]⟩ (.cut ⟨[true,true],2,[.slot 2 (.hb 0 0),.slot 7 (.hb 1 0),.slot 54 (.sc (.bool))],[(1,true),(6,true)]⟩ (.txt [Ay,Ay,Ay,Ay,⟨[],true,[]⟩,Ay,Ay,Ay,Ay,Ay,⟨[],true,[]⟩,Ay,Ay,Ay,Ay,Ay,⟨[],true,[]⟩,Ay,Ay,Ay,Ay,Ay,⟨[],true,[]⟩]) (.cond (.seq (.txt []) .leaf) .leaf)) (.seq (.txt []) (.block (.loop ⟨[true,true],2,[.slot 2 (.hb 0 0),.slot 7 (.hb 1 0),.slot 8 (.sc (.int .i64))],[(1,true),(6,true)]⟩ (.seq (.seq (.txt []) (.cond .leaf .leaf)) (.seq (.block (.seq (.plan [9] (tkOQ1 9 0 Ay (.alt 9 false Ay (.take 10 Ay .done) .done))) (.cond (.seq (.txt []) .leaf) .leaf))) (.txt []))))))))) (.txt [])))))) (.seq (.txt []) .leaf))))))
theorem PR (σ:Hp) (b0:Option Addr) (a0 c0:Nat) (d0:Int) (l_A:Option Addr) (l_n l_c:Nat) (R:Value->Hp->Prop) (h:HF σ b0 a0 c0 d0 l_A l_n l_c R):Ad Tryz.prog 77 #[(.agg #[.slice b0 a0 c0,.int .i64 d0]),.slice l_A l_n l_c] σ R:=
 Ac Bn P6 Tryz.func77 rfl (by kernel_rfl) (by kernel_rfl) (by kernel_rfl) h
theorem Mc:Al Tryz.prog 77=true:=by kernel_rfl
abbrev T0:FuncId:=50
def J1 (σ:Hp) (b0:Option Addr) (a0 c0:Nat) (d0:Int) (l_A:Option Addr) (l_n l_c:Nat) (R:Value->Hp->Prop):Prop:=
 cl Tryz.prog (.func (.func 93) #[] #[]) #[(.agg #[.slice b0 a0 c0,.int .i64 d0]),.slice l_A l_n l_c,(.func (.func 94) #[] #[]),(.func (.func 95) #[] #[])] σ (fun v1 σ2=>
  ∃ A3:Option Addr,∃ l3 c3:Nat,∃ n4:Int,(v1=(.tuple #[.slice A3 l3 c3,.int .i64 n4]) /\
  rt σ2 R (.tuple #[.slice A3 l3 c3,.int .i64 n4])))
def QV:MAn:=(.seq (.txt []) (.seq (.txt []) .leaf))
theorem QF (σ:Hp) (b0:Option Addr) (a0 c0:Nat) (d0:Int) (l_A:Option Addr) (l_n l_c:Nat) (R:Value->Hp->Prop) (h:J1 σ b0 a0 c0 d0 l_A l_n l_c R):Ad Tryz.prog 50 #[(.agg #[.slice b0 a0 c0,.int .i64 d0]),.slice l_A l_n l_c] σ R:=
 Ac Bn QV Tryz.func50 rfl (by kernel_rfl) (by kernel_rfl) (by kernel_rfl) h
theorem Na:Al Tryz.prog 50=true:=by kernel_rfl
abbrev Rp:FuncId:=67
def FT (σ:Hp) (R:Value->Hp->Prop):Prop:=
 exl 77 [.int .i64,.int .i64,.int .i64,.int .i64,.bool] ([(4,2,3,1,false),(2,5,2,0,false)]:List (Int×Int×Int×Int×Bool)) σ (fun A1 l1 c1 σ2=>
  exl 3 [.int .i64] ([0,1]:List Int) σ2 (fun A3 l3 c3 σ4=>exl 3 [.int .i64] ([0,1]:List Int) σ4 (fun A5 l5 c5 σ6=>
  exl 65 [.int .i64,.int .i64,.int .i64,.slc,.int .i64] ([(0,3,20,(A3,l3,c3),100),(0,2,30,(A5,l5,c5),100)]:List (Int×Int×Int×(Option Addr×Nat×Nat)×Int)) σ6 (fun A7 l7 c7 σ8=>
  rt σ8 R (.tuple #[(.agg #[.slice A1 l1 c1,.int .i64 1]),.slice A7 l7 c7])))))
def Nm:MAn:=(.seq (.txt []) (.seq (.txt []) (.seq (.txt []) .leaf)))
theorem NL (σ:Hp) (R:Value->Hp->Prop) (h:FT σ  R):Ad Tryz.prog 67 #[] σ R:=
 Ac Bn Nm Tryz.func67 rfl (by kernel_rfl) (by kernel_rfl) (by kernel_rfl) h
theorem KC:Al Tryz.prog 67=true:=by kernel_rfl
abbrev Rd:FuncId:=123
def FX (σ:Hp) (b0:Option Addr) (a0 c0:Nat) (d0:Int) (R:Value->Hp->Prop):Prop:=
 cut (α:=Hp->Prop) (fun  σ2=>∀ _:Nat->Value,rt σ2 R (.int .i64 0)) (fun J3=>cut (α:=Bool->Hp->Prop) (fun t7 σ5=>
  ∀ _:Nat->Value,bc t7 (rt σ5 R (.int .i64 70)) (J3 σ5)) (fun J6=>bc (decide ((8:Int)<((a0:Nat):Int))) (J6 true σ) (cl Tryz.prog (.func (.func 126) #[] #[]) #[.int .i64 d0,.int .i64 0,.int .i64 100] σ (fun v8 σ9=>
  ∃ t10:Bool,(v8=(.bool t10)/\bc (!t10) (J6 true σ9) (cl Tryz.prog (.func (.func 181) #[] #[]) #[.slice b0 a0 c0,(.func (.func 180) #[] #[])] σ9 (fun v11 σ12=>
  ∃ t13:Bool,(v11=(.bool t13)/\J6 t13 σ12))))))))
def Bs:OA:=⟨[],false,[]⟩
def NS:MAn:=(.seq (.txt []) (.seq (.txt []) (.cut ⟨[true],1,[],[]⟩ (.cut ⟨[true],1,[.slot 19 (.sc (.bool))],[]⟩ (.txt [Bs,Bs,Bs,Bs,⟨[],true,[]⟩,Bs,Bs,Bs,Bs,Bs,⟨[],true,[]⟩]) (.cond (.seq (.txt []) .leaf) .leaf)) (.seq (.txt []) .leaf))))
theorem Nu (σ:Hp) (b0:Option Addr) (a0 c0:Nat) (d0:Int) (R:Value->Hp->Prop) (h:FX σ b0 a0 c0 d0 R):Ad Tryz.prog 123 #[(.agg #[.slice b0 a0 c0,.int .i64 d0])] σ R:=
 Ac Bn NS Tryz.func123 rfl (by kernel_rfl) (by kernel_rfl) (by kernel_rfl) h
theorem KH:Al Tryz.prog 123=true:=by kernel_rfl
abbrev QS:FuncId:=124
def FI (σ:Hp) (g_At u0 j0:Int) (h0:Option Addr) (e0 i0:Nat) (f0:Int) (cap0:Option Addr) (R:Value->Hp->Prop):Prop:=
 cl Tryz.prog (.func (.func 126) #[] #[]) #[.int .i64 g_At,.int .i64 0,.int .i64 2000] σ (fun v1 σ2=>
  ∃ t3:Bool,(v1=(.bool t3)/\bc (!t3) (rt σ2 R (.bool true)) (cl Tryz.prog (.func (.func 126) #[] #[]) #[.int .i64 u0,.int .i64 1,.int .i64 40] σ2 (fun v4 σ5=>
  ∃ t6:Bool,(v4=(.bool t6)/\bc (!t6) (rt σ5 R (.bool true)) (cl Tryz.prog (.func (.func 126) #[] #[]) #[.int .i64 j0,.int .i64 0,.int .i64 10000] σ5 (fun v7 σ8=>
  ∃ t9:Bool,(v7=(.bool t9)/\bc (!t9) (rt σ8 R (.bool true)) (cl Tryz.prog (.func (.func 126) #[] #[]) #[.int .i64 f0,.int .i64 0,.int .i64 2000] σ8 (fun v10 σ11=>
  ∃ t12:Bool,(v10=(.bool t12)/\bc (!t12) (rt σ11 R (.bool true)) (bc (decide ((10:Int)<((e0:Nat):Int))) (rt σ11 R (.bool true)) (cl Tryz.prog (.func (.func 33) #[] #[]) #[.slice h0 e0 i0,(.func (.func 125) #[] #[.pointer cap0])] σ11 (fun v13 σ14=>
  ∃ t15:Bool,(v13=(.bool t15)/\rt σ14 R (.bool t15))))))))))))))))
def AF:OA:=⟨[],false,[]⟩
def Nt:MAn:=(.seq (.txt []) (.seq (.txt []) (.seq (.txt [AF,AF,AF,AF,⟨[],true,[]⟩,AF,AF,AF,AF,AF,⟨[],true,[]⟩,AF,AF,AF,AF,AF,⟨[],true,[]⟩,AF,AF,AF,AF,AF,⟨[],true,[]⟩,AF,AF,AF,AF,AF,⟨[],true,[]⟩]) .leaf)))
theorem Ns (σ:Hp) (g_At u0 j0:Int) (h0:Option Addr) (e0 i0:Nat) (f0:Int) (cap0:Option Addr) (R:Value->Hp->Prop) (h:FI σ g_At u0 j0 h0 e0 i0 f0 cap0 R):Ad Tryz.prog 124 #[(.agg #[.int .i64 g_At,.int .i64 u0,.int .i64 j0,.slice h0 e0 i0,.int .i64 f0]),.pointer cap0] σ R:=
 Ac Bn Nt Tryz.func124 rfl (by kernel_rfl) (by kernel_rfl) (by kernel_rfl) h
theorem Kz:Al Tryz.prog 124=true:=by kernel_rfl
def EH (σ:Hp) (n:Int) (cap0:Option Addr) (R:Value->Hp->Prop):Prop:=
 dr cap0 (fun b1 o2=>ldS σ b1 o2 (fun _ l3 _=>wk .i64 (((l3:Nat):Int)-1) (fun n4=>cl Tryz.prog (.func (.func 126) #[] #[]) #[.int .i64 n,.int .i64 0,.int .i64 n4] σ (fun v5 σ6=>
  ∃ t7:Bool,(v5=(.bool t7)/\rt σ6 R (.bool (!t7)))))))
def LS:MAn:=(.seq (.txt []) (.seq (.txt []) .leaf))
theorem LO (σ:Hp) (n:Int) (cap0:Option Addr) (R:Value->Hp->Prop) (h:EH σ n cap0 R):Ad Tryz.prog 125 #[.int .i64 n,.pointer cap0] σ R:=
 Ac Bn LS Tryz.func125 rfl (by kernel_rfl) (by kernel_rfl) (by kernel_rfl) h
theorem IX:Al Tryz.prog 125=true:=by kernel_rfl
abbrev Ls:FuncId:=126
def Gx (σ:Hp) (n low high:Int) (R:Value->Hp->Prop):Prop:=
 bc (decide (low<=n)) (rt σ R (.bool (decide (n<=high)))) (rt σ R (.bool false))
def Oz:MAn:=(.seq (.txt []) (.seq (.txt [⟨[],false,[]⟩,⟨[],false,[]⟩,⟨[],false,[]⟩,⟨[],true,[]⟩]) .leaf))
theorem OL (σ:Hp) (n low high:Int) (R:Value->Hp->Prop) (h:Gx σ n low high R):Ad Tryz.prog 126 #[.int .i64 n,.int .i64 low,.int .i64 high] σ R:=
 Ac Bn Oz Tryz.func126 rfl (by kernel_rfl) (by kernel_rfl) (by kernel_rfl) h
theorem Lf:Al Tryz.prog 126=true:=by kernel_rfl
abbrev De:FuncId:=33
def BN (σ:Hp) (s_A:Option Addr) (s_n s_c:Nat) (f:Value) (R:Value->Hp->Prop):Prop:=
 cl Tryz.prog (.func (.func 73) #[] #[]) #[.slice s_A s_n s_c,f] σ (fun v1 σ2=>∃ n3:Int,(v1=(.int .i64 n3) /\
  rt σ2 R (.bool (decide ((0:Int)<=n3)))))
def FQ:MAn:=(.seq (.txt []) (.seq (.txt []) .leaf))
theorem Cz (σ:Hp) (s_A:Option Addr) (s_n s_c:Nat) (f:Value) (R:Value->Hp->Prop) (h:BN σ s_A s_n s_c f R):Ad Tryz.prog 33 #[.slice s_A s_n s_c,f] σ R:=
 Ac Bn FQ Tryz.func33 rfl (by kernel_rfl) (by kernel_rfl) (by kernel_rfl) h
theorem Bc:Al Tryz.prog 33=true:=by kernel_rfl
abbrev ET:FuncId:=127
def BL (σ:Hp) (s_A:Option Addr) (s_n s_c:Nat) (f:Value) (R:Value->Hp->Prop):Prop:=
 cl Tryz.prog (.func (.func 182) #[] #[]) #[.slice s_A s_n s_c,f] σ (fun v1 σ2=>∃ n3:Int,(v1=(.int .i64 n3) /\
  rt σ2 R (.bool (decide ((0:Int)<=n3)))))
def DR:MAn:=(.seq (.txt []) (.seq (.txt []) .leaf))
theorem DL (σ:Hp) (s_A:Option Addr) (s_n s_c:Nat) (f:Value) (R:Value->Hp->Prop) (h:BL σ s_A s_n s_c f R):Ad Tryz.prog 127 #[.slice s_A s_n s_c,f] σ R:=
 Ac Bn DR Tryz.func127 rfl (by kernel_rfl) (by kernel_rfl) (by kernel_rfl) h
theorem Dc:Al Tryz.prog 127=true:=by kernel_rfl
abbrev Li:FuncId:=135
def C4 (σ:Hp) (b0:Option Addr) (a0 _:Nat) (d0:Int) (R:Value->Hp->Prop):Prop:=
 cut (α:=Hp->Prop) (fun  σ2=>∀ _:Nat->Value,cut (α:=Hp->Prop) (fun  σ5=>∀ _:Nat->Value,
  rt σ5 R (.int .i64 0)) (fun J6=>∃ I9:Nat->Int->Hp->Prop,(∃ n100,I9 n100 0 σ2)/\∀ n10:Nat,∀ n11:Int,∀ σ8:Hp,I9 n10 n11 σ8->∀ _:Nat->Value,bc (decide (n11<((a0:Nat):Int))) (cut (α:=Hp->Prop) (fun  σ13=>
  ∀ _:Nat->Value,wk .i64 (n11+1) (fun n15=>bk σ13 n10 (fun m16 σ17=>I9 m16 n15 σ17))) (fun J14=>
  ix b0 a0 n11 5 (fun b18 a19=>ldI σ8 .i64 b18 a19 (fun n20=>ldI σ8 .i64 b18 (a19+1) (fun n21=>
  ldI σ8 .i64 b18 (a19+2) (fun n22=>ldI σ8 .i64 b18 (a19+3) (fun n23=>ldB σ8 b18 (a19+4) (fun _=>
  cut (α:=Bool->Hp->Prop) (fun t28 σ26=>∀ _:Nat->Value,bc t28 (rt σ26 R (.int .i64 70)) (J14 σ26)) (fun J27=>
  cl Tryz.prog (.func (.func 136) #[] #[]) #[.int .i64 n20,.int .i64 1,.int .i64 40] σ8 (fun v29 σ30=>
  ∃ t31:Bool,(v29=(.bool t31)/\bc (!t31) (J27 true σ30) (cl Tryz.prog (.func (.func 136) #[] #[]) #[.int .i64 n21,.int .i64 0,.int .i64 100] σ30 (fun v32 σ33=>
  ∃ t34:Bool,(v32=(.bool t34)/\bc (!t34) (J27 true σ33) (cl Tryz.prog (.func (.func 136) #[] #[]) #[.int .i64 n22,.int .i64 1,.int .i64 100] σ33 (fun v35 σ36=>
  ∃ t37:Bool,(v35=(.bool t37)/\bc (!t37) (J27 true σ36) (cl Tryz.prog (.func (.func 136) #[] #[]) #[.int .i64 n23,.int .i64 0,.int .i64 100] σ36 (fun v38 σ39=>
  ∃ t40:Bool,(v38=(.bool t40)/\J27 (!t40) σ39)))))))))))))))))))) (J6 σ8))) (fun J3=>cut (α:=Bool->Hp->Prop) (fun t44 σ42=>
  ∀ _:Nat->Value,bc t44 (rt σ42 R (.int .i64 70)) (J3 σ42)) (fun J43=>bc (decide ((8:Int)<((a0:Nat):Int))) (J43 true σ) (cl Tryz.prog (.func (.func 136) #[] #[]) #[.int .i64 d0,.int .i64 0,.int .i64 100] σ (fun v45 σ46=>
  ∃ t47:Bool,(v45=(.bool t47)/\J43 (!t47) σ46)))))
def AE:OA:=⟨[],false,[]⟩
def IL:MAn:=(.seq (.txt []) (.cut ⟨[true],1,[.slot 1 (.hb 0 0)],[]⟩ (.cut ⟨[true],1,[.slot 1 (.hb 0 0),.slot 14 (.sc (.bool))],[]⟩ (.txt [AE,AE,AE,AE,⟨[],true,[]⟩]) (.cond (.seq (.txt []) .leaf) .leaf)) (.cut ⟨[true],1,[],[]⟩ (.seq (.txt []) (.block (.loop ⟨[true],1,[.slot 1 (.hb 0 0),.slot 3 (.sc (.int .i64))],[]⟩ (.seq (.seq (.txt []) (.cond .leaf .leaf)) (.cut ⟨[true],1,[.slot 1 (.hb 0 0)],[(3,true)]⟩ (.block (.seq (.txt []) (.cut ⟨[true,true],2,[.slot 1 (.hb 0 0),.slot 48 (.sc (.bool))],[(3,true)]⟩ (.txt [AE,AE,AE,AE,⟨[],true,[]⟩,AE,AE,AE,AE,AE,⟨[],true,[]⟩,AE,AE,AE,AE,AE,⟨[],true,[]⟩]) (.cond (.seq (.txt []) .leaf) .leaf)))) (.txt [])))))) (.seq (.txt []) .leaf))))
theorem IH (σ:Hp) (b0:Option Addr) (a0 c0:Nat) (d0:Int) (R:Value->Hp->Prop) (h:C4 σ b0 a0 c0 d0 R):Ad Tryz.prog 135 #[(.agg #[.slice b0 a0 c0,.int .i64 d0])] σ R:=
 Ac Bn IL Tryz.func135 rfl (by kernel_rfl) (by kernel_rfl) (by kernel_rfl) h
theorem GM:Al Tryz.prog 135=true:=by kernel_rfl
abbrev NZ:FuncId:=136
def Je (σ:Hp) (n low high:Int) (R:Value->Hp->Prop):Prop:=
 bc (decide (low<=n)) (rt σ R (.bool (decide (n<=high)))) (rt σ R (.bool false))
def Rc:MAn:=(.seq (.txt []) (.seq (.txt [⟨[],false,[]⟩,⟨[],false,[]⟩,⟨[],false,[]⟩,⟨[],true,[]⟩]) .leaf))
theorem QT (σ:Hp) (n low high:Int) (R:Value->Hp->Prop) (h:Je σ n low high R):Ad Tryz.prog 136 #[.int .i64 n,.int .i64 low,.int .i64 high] σ R:=
 Ac Bn Rc Tryz.func136 rfl (by kernel_rfl) (by kernel_rfl) (by kernel_rfl) h
theorem NR:Al Tryz.prog 136=true:=by kernel_rfl
abbrev Iy:FuncId:=93
def Cn (σ:Hp) (b0:Option Addr) (a0 c0:Nat) (d0:Int) (l_A:Option Addr) (l_n l_c:Nat) (elements number:Value) (R:Value->Hp->Prop):Prop:=
 cl Tryz.prog (.func (.func 68) #[] #[]) #[(.agg #[.slice b0 a0 c0,.int .i64 d0]),.slice l_A l_n l_c] σ (fun v1 σ2=>
  ∃ n3:Int,(v1=(.int .i64 n3)/\bc (!decide (n3=0)) (rt σ2 R (.tuple #[.slice none 0 0,.int .i64 n3])) (cut (α:=List Int->Hp->Prop) (fun xs7 σ5=>
  ∀ _:Nat->Value,exl 3 [.int .i64] xs7 σ5 (fun A8 l8 c8 σ9=>rt σ9 R (.tuple #[.slice A8 l8 c8,.int .i64 0]))) (fun J6=>
  cl Tryz.prog (.func (.func 105) #[] #[]) #[(.agg #[.slice b0 a0 c0,.int .i64 d0]),.slice l_A l_n l_c] σ2 (fun v10 σ11=>
  ∃ p12:Option Addr,(v10=(.pointer p12)/\cl Tryz.prog elements #[.pointer p12] σ11 (fun v13 σ14=>
  ∃ A15:Option Addr,∃ l15 c15:Nat,(v13=(.slice A15 l15 c15)/\∃ I18:Nat->List Int->Int->Hp->Prop,(∃ n190,adp 3 [.int .i64] none 0 0 σ14 (fun (xs20:List Int) σ21=>
  I18 n190 xs20 0 σ21))/\∀ n19:Nat,∀ xs22:List Int,∀ n23:Int,∀ σ17:Hp,I18 n19 xs22 n23 σ17->∀ _:Nat->Value,bc (decide (n23<((l15:Nat):Int))) (ix A15 l15 n23 1 (fun b24 a25=>
  ldP σ17 b24 a25 (fun p26=>cl Tryz.prog number #[.pointer p26] σ17 (fun v27 σ28=>∃ n29:Int,(v27=(.int .i64 n29) /\
  Bh (List.length xs22+List.length ([n29]:List Int)) (wk .i64 (n23+1) (fun n30=>bk σ28 n19 (fun m31 σ32=>
  I18 m31 (xs22++([n29]:List Int)) n30 σ32)))))))) (J6 xs22 σ17)))))))))
def GV:MAn:=(.seq (.txt []) (.seq (.seq (.txt []) (.seq (.txt []) (.cond (.seq (.txt []) .leaf) .leaf))) (.cut ⟨[true],2,[.slot 8 (.lst 1 3 [.int .i64])],[]⟩ (.seq (.txt []) (.block (.loop ⟨[true],2,[.slot 8 (.lst 1 3 [.int .i64]),.slot 25 (.sc (.int .i64))],[(3,false),(23,true),(24,true)]⟩ (.seq (.txt []) (.seq (.cond .leaf .leaf) (.seq (.block (.seq (.txt []) (.txt []))) (.txt []))))))) (.seq (.txt []) .leaf))))
theorem Gz (σ:Hp) (b0:Option Addr) (a0 c0:Nat) (d0:Int) (l_A:Option Addr) (l_n l_c:Nat) (elements number:Value) (R:Value->Hp->Prop) (h:Cn σ b0 a0 c0 d0 l_A l_n l_c elements number R):Ad Tryz.prog 93 #[(.agg #[.slice b0 a0 c0,.int .i64 d0]),.slice l_A l_n l_c,elements,number] σ R:=
 Ac Bn GV Tryz.func93 rfl (by kernel_rfl) (by kernel_rfl) (by kernel_rfl) h
theorem Fv:Al Tryz.prog 93=true:=by kernel_rfl
abbrev QC:FuncId:=94
def FG (σ:Hp) (n:Option Addr) (R:Value->Hp->Prop):Prop:=
 dr n (fun b1 o2=>ldS σ b1 (o2+2) (fun A3 l3 c3=>rt σ R (.slice A3 l3 c3)))
def NF:MAn:=(.seq (.txt []) (.seq (.txt []) .leaf))
theorem NM (σ:Hp) (n:Option Addr) (R:Value->Hp->Prop) (h:FG σ n R):Ad Tryz.prog 94 #[.pointer n] σ R:=
 Ac Bn NF Tryz.func94 rfl (by kernel_rfl) (by kernel_rfl) (by kernel_rfl) h
theorem Ky:Al Tryz.prog 94=true:=by kernel_rfl
abbrev Sb:FuncId:=95
def Gu (σ:Hp) (p:Option Addr) (R:Value->Hp->Prop):Prop:=
 dr p (fun b1 o2=>ldI σ .i64 b1 (o2+8) (fun n3=>rt σ R (.int .i64 n3)))
def Oe:MAn:=(.seq (.txt []) (.seq (.txt []) .leaf))
theorem O5 (σ:Hp) (p:Option Addr) (R:Value->Hp->Prop) (h:Gu σ p R):Ad Tryz.prog 95 #[.pointer p] σ R:=
 Ac Bn Oe Tryz.func95 rfl (by kernel_rfl) (by kernel_rfl) (by kernel_rfl) h
theorem Lz:Al Tryz.prog 95=true:=by kernel_rfl
abbrev OC:FuncId:=180
def EI (σ:Hp) (r0 m0 n0 o0:Int) (_:Bool) (R:Value->Hp->Prop):Prop:=
 cl Tryz.prog (.func (.func 126) #[] #[]) #[.int .i64 r0,.int .i64 1,.int .i64 40] σ (fun v1 σ2=>
  ∃ t3:Bool,(v1=(.bool t3)/\bc (!t3) (rt σ2 R (.bool true)) (cl Tryz.prog (.func (.func 126) #[] #[]) #[.int .i64 m0,.int .i64 0,.int .i64 100] σ2 (fun v4 σ5=>
  ∃ t6:Bool,(v4=(.bool t6)/\bc (!t6) (rt σ5 R (.bool true)) (cl Tryz.prog (.func (.func 126) #[] #[]) #[.int .i64 n0,.int .i64 1,.int .i64 100] σ5 (fun v7 σ8=>
  ∃ t9:Bool,(v7=(.bool t9)/\bc (!t9) (rt σ8 R (.bool true)) (cl Tryz.prog (.func (.func 126) #[] #[]) #[.int .i64 o0,.int .i64 0,.int .i64 100] σ8 (fun v10 σ11=>
  ∃ t12:Bool,(v10=(.bool t12)/\rt σ11 R (.bool (!t12)))))))))))))
def AP:OA:=⟨[],false,[]⟩
def Ll:MAn:=(.seq (.txt []) (.seq (.txt [AP,AP,AP,AP,⟨[],true,[]⟩,AP,AP,AP,AP,AP,⟨[],true,[]⟩,AP,AP,AP,AP,AP,⟨[],true,[]⟩]) .leaf))
theorem KX (σ:Hp) (r0 m0 n0 o0:Int) (e1:Bool) (R:Value->Hp->Prop) (h:EI σ r0 m0 n0 o0 e1 R):Ad Tryz.prog 180 #[(.agg #[.int .i64 r0,.int .i64 m0,.int .i64 n0,.int .i64 o0,.bool e1])] σ R:=
 Ac Bn Ll Tryz.func180 rfl (by kernel_rfl) (by kernel_rfl) (by kernel_rfl) h
theorem Ip:Al Tryz.prog 180=true:=by kernel_rfl
abbrev EN:FuncId:=181
def BM (σ:Hp) (s_A:Option Addr) (s_n s_c:Nat) (f:Value) (R:Value->Hp->Prop):Prop:=
 cl Tryz.prog (.func (.func 237) #[] #[]) #[.slice s_A s_n s_c,f] σ (fun v1 σ2=>∃ n3:Int,(v1=(.int .i64 n3) /\
  rt σ2 R (.bool (decide ((0:Int)<=n3)))))
def D3:MAn:=(.seq (.txt []) (.seq (.txt []) .leaf))
theorem D4 (σ:Hp) (s_A:Option Addr) (s_n s_c:Nat) (f:Value) (R:Value->Hp->Prop) (h:BM σ s_A s_n s_c f R):Ad Tryz.prog 181 #[.slice s_A s_n s_c,f] σ R:=
 Ac Bn D3 Tryz.func181 rfl (by kernel_rfl) (by kernel_rfl) (by kernel_rfl) h
theorem Db:Al Tryz.prog 181=true:=by kernel_rfl
abbrev EG:FuncId:=73
def B6 (σ:Hp) (s_A:Option Addr) (s_n _:Nat) (f:Value) (R:Value->Hp->Prop):Prop:=
 cut (α:=Hp->Prop) (fun  σ2=>∀ _:Nat->Value,rt σ2 R (.int .i64 (-1))) (fun J3=>∃ I6:Nat->Int->Hp->Prop,(∃ n70,I6 n70 0 σ) /\
  ∀ n7:Nat,∀ n8:Int,∀ σ5:Hp,I6 n7 n8 σ5->∀ _:Nat->Value,bc (decide (n8<((s_n:Nat):Int))) (ix s_A s_n n8 1 (fun b9 a10=>
  ldI σ5 .i64 b9 a10 (fun n11=>cl Tryz.prog f #[.int .i64 n11] σ5 (fun v12 σ13=>∃ t14:Bool,(v12=(.bool t14) /\
  bc t14 (rt σ13 R (.int .i64 n8)) (wk .i64 (n8+1) (fun n15=>bk σ13 n7 (fun m16 σ17=>I6 m16 n15 σ17)))))))) (J3 σ5))
def Hg:MAn:=(.seq (.txt []) (.cut ⟨[],0,[],[]⟩ (.seq (.txt []) (.block (.loop ⟨[],0,[.slot 8 (.sc (.int .i64))],[(0,true),(1,false),(7,true)]⟩ (.seq (.txt []) (.seq (.cond .leaf .leaf) (.seq (.block (.seq (.txt []) (.seq (.txt []) (.cond (.seq (.txt []) .leaf) .leaf)))) (.txt []))))))) (.seq (.txt []) .leaf)))
theorem Dd (σ:Hp) (s_A:Option Addr) (s_n s_c:Nat) (f:Value) (R:Value->Hp->Prop) (h:B6 σ s_A s_n s_c f R):Ad Tryz.prog 73 #[.slice s_A s_n s_c,f] σ R:=
 Ac Bn Hg Tryz.func73 rfl (by kernel_rfl) (by kernel_rfl) (by kernel_rfl) h
theorem CA:Al Tryz.prog 73=true:=by kernel_rfl
abbrev FY:FuncId:=182
def B2 (σ:Hp) (s_A:Option Addr) (s_n _:Nat) (f:Value) (R:Value->Hp->Prop):Prop:=
 cut (α:=Hp->Prop) (fun  σ2=>∀ _:Nat->Value,rt σ2 R (.int .i64 (-1))) (fun J3=>∃ I6:Nat->Int->Hp->Prop,(∃ n70,I6 n70 0 σ) /\
  ∀ n7:Nat,∀ n8:Int,∀ σ5:Hp,I6 n7 n8 σ5->∀ _:Nat->Value,bc (decide (n8<((s_n:Nat):Int))) (ix s_A s_n n8 5 (fun b9 a10=>
  ldI σ5 .i64 b9 a10 (fun n11=>ldI σ5 .i64 b9 (a10+1) (fun n12=>ldI σ5 .i64 b9 (a10+2) (fun n13=>
  ldS σ5 b9 (a10+3) (fun A14 l14 c14=>ldI σ5 .i64 b9 (a10+4) (fun n15=>cl Tryz.prog f #[(.agg #[.int .i64 n11,.int .i64 n12,.int .i64 n13,.slice A14 l14 c14,.int .i64 n15])] σ5 (fun v16 σ17=>
  ∃ t18:Bool,(v16=(.bool t18)/\bc t18 (rt σ17 R (.int .i64 n8)) (wk .i64 (n8+1) (fun n19=>bk σ17 n7 (fun m20 σ21=>
  I6 m20 n19 σ21)))))))))))) (J3 σ5))
def EO:MAn:=(.seq (.txt []) (.cut ⟨[],0,[],[]⟩ (.seq (.txt []) (.block (.loop ⟨[],0,[.slot 8 (.sc (.int .i64))],[(0,true),(1,false),(7,true)]⟩ (.seq (.txt []) (.seq (.cond .leaf .leaf) (.seq (.block (.seq (.txt []) (.seq (.txt []) (.cond (.seq (.txt []) .leaf) .leaf)))) (.txt []))))))) (.seq (.txt []) .leaf)))
theorem EV (σ:Hp) (s_A:Option Addr) (s_n s_c:Nat) (f:Value) (R:Value->Hp->Prop) (h:B2 σ s_A s_n s_c f R):Ad Tryz.prog 182 #[.slice s_A s_n s_c,f] σ R:=
 Ac Bn EO Tryz.func182 rfl (by kernel_rfl) (by kernel_rfl) (by kernel_rfl) h
theorem DZ:Al Tryz.prog 182=true:=by kernel_rfl
abbrev T6:FuncId:=172
def Jf (σ:Hp) (z0:Option Addr) (p0 _:Nat) (R:Value->Hp->Prop):Prop:=
 cut (α:=Hp->Prop) (fun  σ2=>∀ _:Nat->Value,rt σ2 R (.int .i64 0)) (fun J3=>∃ I6:Nat->Int->Hp->Prop,(∃ n70,I6 n70 0 σ) /\
  ∀ n7:Nat,∀ n8:Int,∀ σ5:Hp,I6 n7 n8 σ5->∀ _:Nat->Value,bc (decide (n8<((p0:Nat):Int))) (ix z0 p0 n8 1 (fun b9 a10=>
  ldI σ5 .i64 b9 a10 (fun n11=>bc (!decide (n11=0)) (rt σ5 R (.int .i64 n11)) (wk .i64 (n8+1) (fun n12=>
  bk σ5 n7 (fun m13 σ14=>I6 m13 n12 σ14)))))) (J3 σ5))
def Re:MAn:=(.seq (.txt []) (.seq (.txt []) (.cut ⟨[],0,[],[(3,true)]⟩ (.seq (.txt []) (.block (.loop ⟨[],0,[.slot 8 (.sc (.int .i64))],[(3,true),(6,true),(7,true)]⟩ (.seq (.txt []) (.seq (.cond .leaf .leaf) (.seq (.block (.seq (.txt []) (.seq (.txt []) (.cond (.seq (.txt []) .leaf) .leaf)))) (.txt []))))))) (.seq (.txt []) .leaf))))
theorem Ri (σ:Hp) (z0:Option Addr) (p0 h1:Nat) (R:Value->Hp->Prop) (h:Jf σ z0 p0 h1 R):Ad Tryz.prog 172 #[.slice z0 p0 h1] σ R:=
 Ac Bn Re Tryz.func172 rfl (by kernel_rfl) (by kernel_rfl) (by kernel_rfl) h
theorem Ni:Al Tryz.prog 172=true:=by kernel_rfl
abbrev FF:FuncId:=237
def B3 (σ:Hp) (s_A:Option Addr) (s_n _:Nat) (f:Value) (R:Value->Hp->Prop):Prop:=
 cut (α:=Hp->Prop) (fun  σ2=>∀ _:Nat->Value,rt σ2 R (.int .i64 (-1))) (fun J3=>∃ I6:Nat->Int->Hp->Prop,(∃ n70,I6 n70 0 σ) /\
  ∀ n7:Nat,∀ n8:Int,∀ σ5:Hp,I6 n7 n8 σ5->∀ _:Nat->Value,bc (decide (n8<((s_n:Nat):Int))) (ix s_A s_n n8 5 (fun b9 a10=>
  ldI σ5 .i64 b9 a10 (fun n11=>ldI σ5 .i64 b9 (a10+1) (fun n12=>ldI σ5 .i64 b9 (a10+2) (fun n13=>
  ldI σ5 .i64 b9 (a10+3) (fun n14=>ldB σ5 b9 (a10+4) (fun t15=>cl Tryz.prog f #[(.agg #[.int .i64 n11,.int .i64 n12,.int .i64 n13,.int .i64 n14,.bool t15])] σ5 (fun v16 σ17=>
  ∃ t18:Bool,(v16=(.bool t18)/\bc t18 (rt σ17 R (.int .i64 n8)) (wk .i64 (n8+1) (fun n19=>bk σ17 n7 (fun m20 σ21=>
  I6 m20 n19 σ21)))))))))))) (J3 σ5))
def EP:MAn:=(.seq (.txt []) (.cut ⟨[],0,[],[]⟩ (.seq (.txt []) (.block (.loop ⟨[],0,[.slot 8 (.sc (.int .i64))],[(0,true),(1,false),(7,true)]⟩ (.seq (.txt []) (.seq (.cond .leaf .leaf) (.seq (.block (.seq (.txt []) (.seq (.txt []) (.cond (.seq (.txt []) .leaf) .leaf)))) (.txt []))))))) (.seq (.txt []) .leaf)))
theorem EQ (σ:Hp) (s_A:Option Addr) (s_n s_c:Nat) (f:Value) (R:Value->Hp->Prop) (h:B3 σ s_A s_n s_c f R):Ad Tryz.prog 237 #[.slice s_A s_n s_c,f] σ R:=
 Ac Bn EP Tryz.func237 rfl (by kernel_rfl) (by kernel_rfl) (by kernel_rfl) h
theorem D5:Al Tryz.prog 237=true:=by kernel_rfl
abbrev EK:FuncId:=171
def GB (σ:Hp) (l0 w0 _:Int) (_:Bool) (_ v0 s0 y0 _:Int) (_:Bool) (_ x0:Int) (R:Value->Hp->Prop):Prop:=
 wk .i64 (v0-x0) (fun n1=>wk .i64 (l0-s0) (fun n2=>wk .i64 (w0-y0) (fun n3=>
  exl 3 [.int .i64] ([n1,n2,n3]:List Int) σ (fun A4 l4 c4 σ5=>cl Tryz.prog (.func (.func 172) #[] #[]) #[.slice A4 l4 c4] σ5 (fun v6 σ7=>
  ∃ n8:Int,(v6=(.int .i64 n8)/\rt σ7 R (.int .i64 n8)))))))
def OD:MAn:=(.seq (.txt []) (.seq (.txt []) .leaf))
theorem OS (σ:Hp) (l0 w0 i1:Int) (a_On:Bool) (a1 v0 s0 y0 g1:Int) (b_On:Bool) (d1 x0:Int) (R:Value->Hp->Prop) (h:GB σ l0 w0 i1 a_On a1 v0 s0 y0 g1 b_On d1 x0 R):Ad Tryz.prog 171 #[(.agg #[.int .i64 l0,.int .i64 w0,.int .i64 i1,.bool a_On,.int .i64 a1,.int .i64 v0]),(.agg #[.int .i64 s0,.int .i64 y0,.int .i64 g1,.bool b_On,.int .i64 d1,.int .i64 x0])] σ R:=
 Ac Bn OD Tryz.func171 rfl (by kernel_rfl) (by kernel_rfl) (by kernel_rfl) h
abbrev KK:FuncId:=225
def CF (σ:Hp) (g0 k0:Int) (cap0 cap1:Option Addr) (R:Value->Hp->Prop):Prop:=
 dr cap0 (fun b1 o2=>ldP σ b1 o2 (fun p3=>dr p3 (fun b4 o5=>ldI σ .i64 b4 (o5+3) (fun n6=>wk .i64 (n6-k0) (fun n7=>
  dr cap0 (fun b8 o9=>ldP σ b8 o9 (fun p10=>dr p10 (fun b11 o12=>ldS σ b11 (o12+2) (fun A13 l13 _=>
  ix A13 l13 g0 1 (fun b14 a15=>ldP σ b14 a15 (fun p16=>dr p16 (fun b17 o18=>ldI σ .i64 b17 (o18+4) (fun n19=>
  cut (α:=Hp->Prop) (fun  σ21=>∀ _:Nat->Value,rt σ21 R (.bool (decide (n19<n7)))) (fun J22=>
  bc (decide (n19<n7)) (dr cap1 (fun b23 o24=>ldS σ b23 o24 (fun A25 l25 c25=>adp 240 [.int .i64,.int .i64] A25 l25 c25 σ (fun (xs26:List (Int×Int)) σ27=>
  Bh (List.length xs26+List.length ([(g0,k0)]:List (Int×Int))) (exl 240 [.int .i64,.int .i64] (xs26++([(g0,k0)]:List (Int×Int))) σ27 (fun A28 l28 c28 σ29=>
  dr cap1 (fun b30 o31=>st σ29 b30 o31 (.slice A28 l28 c28) (fun σ32=>J22 σ32)))))))) (J22 σ)))))))))))))))
def Av:OA:=⟨[],false,[]⟩
def HY:MAn:=(.seq (.txt []) (.seq (.plan [] (tkOQ1 21 0 Av .done)) (.cut ⟨[true],1,[],[(5,true)]⟩ (.seq (.txt []) (.cond (.txt []) .leaf)) (.seq (.txt []) .leaf))))
theorem HI (σ:Hp) (g0 k0:Int) (cap0 cap1:Option Addr) (R:Value->Hp->Prop) (h:CF σ g0 k0 cap0 cap1 R):Ad Tryz.prog 225 #[(.agg #[.int .i64 g0,.int .i64 k0]),.pointer cap0,.pointer cap1] σ R:=
 Ac Bn HY Tryz.func225 rfl (by kernel_rfl) (by kernel_rfl) (by kernel_rfl) h
theorem Ge:Al Tryz.prog 225=true:=by kernel_rfl
abbrev CB:FuncId:=227
def CH (σ:Hp) (t0 _ q0 _:Int) (R:Value->Hp->Prop):Prop:=
 wk .i64 (t0-q0) (fun n1=>rt σ R (.int .i64 n1))
def HB:MAn:=(.seq (.txt []) (.seq (.txt []) .leaf))
theorem Hy (σ:Hp) (t0 f1 q0 j1:Int) (R:Value->Hp->Prop) (h:CH σ t0 f1 q0 j1 R):Ad Tryz.prog 227 #[(.agg #[.int .i64 t0,.int .i64 f1]),(.agg #[.int .i64 q0,.int .i64 j1])] σ R:=
 Ac Bn HB Tryz.func227 rfl (by kernel_rfl) (by kernel_rfl) (by kernel_rfl) h
end Go.Proofs.YtoelhdjloaknbaaGreat
