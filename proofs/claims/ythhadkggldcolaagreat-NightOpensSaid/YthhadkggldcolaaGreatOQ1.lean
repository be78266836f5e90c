/- Trimmed by wip/trim.py to what this claim rests on. -/
import Derived.Test.YthhadkggldcolaaGreatOB11
namespace Go.Proofs.YthhadkggldcolaaGreat
set_option maxRecDepth 100000
open Go.RowKit
theorem Bk:Tryz.prog.follows .mixedOrders=true:=by kernel_rfl
abbrev My:FuncId:=51
def H0 (σ:Hp) (b_0:Option Addr) (a_0 c_0:Nat) (d_0:Int) (l_A:Option Addr) (l_n l_c:Nat) (R:Value→Hp→Prop):Prop :=
 cl Tryz.prog (.func (.func 98) #[] #[]) #[(.agg #[(.slice b_0 a_0 c_0),(.int .i64 d_0)])] σ (fun v1 σ2 =>
  ∃ n3:Int,(v1=(.int .i64 n3)∧bc (!decide (n3=0)) (rt σ2 R (.int .i64 n3)) (bx σ2 (.cells #[(.slice b_0 a_0 c_0),(.int .i64 d_0)] 24) (fun b4 σ5 =>
  cut (α:=Hp→Prop) (fun  σ7=>∀ _:Nat→Value,rt σ7 R (.int .i64 0)) (fun J8=>cut (α:=Bool→Hp→Prop) (fun t12 σ10 =>
  ∀ _:Nat→Value,bc t12 (rt σ10 R (.int .i64 71)) (J8 σ10)) (fun J11=>bc (decide ((60:Int) < ((l_n:Nat):Int))) (J11 true σ5) (cl Tryz.prog (.func (.func 102) #[] #[]) #[(.slice l_A l_n l_c),(.func (.func 99) #[] #[(.pointer (some ⟨b4,0,none⟩))])] σ5 (fun v13 σ14 =>
  ∃ t15:Bool,(v13=(.bool t15)∧J11 t15 σ14)))))))))
def PJ:MAn:=(.seq (.txt []) (.seq (.seq (.txt []) (.seq (.txt []) (.cond (.seq (.txt []) .leaf) .leaf))) (.seq (.txt []) (.cut ⟨[false],1,[],[]⟩ (.cut ⟨[false],1,[.slot 20 (.sc (.bool))],[]⟩ (.txt [⟨[],false,[]⟩,⟨[],false,[]⟩,⟨[],false,[]⟩,⟨[],true,[]⟩]) (.cond (.seq (.txt []) .leaf) .leaf)) (.seq (.txt []) .leaf)))))
theorem Pw (σ:Hp) (b_0:Option Addr) (a_0 c_0:Nat) (d_0:Int) (l_A:Option Addr) (l_n l_c:Nat) (R:Value→Hp→Prop) (h:H0 σ b_0 a_0 c_0 d_0 l_A l_n l_c R):Ad Tryz.prog 51 #[(.agg #[(.slice b_0 a_0 c_0),(.int .i64 d_0)]),(.slice l_A l_n l_c)] σ R :=
 Ac Bk PJ Tryz.func51 rfl (by kernel_rfl) (by kernel_rfl) (M:=H0 σ b_0 a_0 c_0 d_0 l_A l_n l_c R) (by kernel_rfl) h
theorem Di:Am Tryz.prog 51=true:=by kernel_rfl
abbrev OM:FuncId:=34
def JP (σ:Hp) (b_0:Option Addr) (a_0 _:Nat) (d_0:Int) (R:Value→Hp→Prop):Prop :=
 (((∃ ys1:List (Int×Int×Int×Int×Bool),RdS [.int .i64,.int .i64,.int .i64,.int .i64,.bool] σ b_0 a_0 ys1 ∧
  Be (List.length ([]:List (Int×Int×Int×Int×Bool)) + List.length ys1) (exl 89 [.int .i64,.int .i64,.int .i64,.int .i64,.bool] (([]:List (Int×Int×Int×Int×Bool))++ys1) σ (fun A2 l2 c2 σ3 =>
  rt σ3 R (.agg #[(.slice A2 l2 c2),(.int .i64 d_0)]))))∧(∃ ys4:List (Int×Int×Int×Int×Bool),RdS [.int .i64,.int .i64,.int .i64,.int .i64,.bool] σ b_0 a_0 ys4 ∧
  Be (List.length ([]:List (Int×Int×Int×Int×Bool)) + List.length ys4) (exl 89 [.int .i64,.int .i64,.int .i64,.int .i64,.bool] (([]:List (Int×Int×Int×Int×Bool))++ys4) σ (fun A5 l5 c5 σ6 =>
  rt σ6 R (.agg #[(.slice A5 l5 c5),(.int .i64 d_0)])))))∧(∃ ys7:List (Int×Int×Int×Int×Bool),RdS [.int .i64,.int .i64,.int .i64,.int .i64,.bool] σ b_0 a_0 ys7 ∧
  Be (List.length ([]:List (Int×Int×Int×Int×Bool)) + List.length ys7) (exl 89 [.int .i64,.int .i64,.int .i64,.int .i64,.bool] (([]:List (Int×Int×Int×Int×Bool))++ys7) σ (fun A8 l8 c8 σ9 =>
  rt σ9 R (.agg #[(.slice A8 l8 c8),(.int .i64 d_0)])))))
def AY:OA:=⟨[],false,[]⟩
def QA:MAn:=(.seq (.txt []) (.seq (.plan [3,7] (.take 1 AY (.take 2 AY (.take 4 AY (.alt 0 true AY (.alt 3 false AY (.take 5 AY (.take 6 AY (.alt 7 false AY .done .done))) (.alt 5 true AY (.alt 3 false AY (.take 6 AY (.alt 7 false AY .done .done)) .done) .done)) (.alt 5 true AY (.alt 0 true AY (.alt 3 false AY (.take 6 AY (.alt 7 false AY .done .done)) .done) .done) .done)))))) .leaf))
theorem Ql (σ:Hp) (b_0:Option Addr) (a_0 c_0:Nat) (d_0:Int) (R:Value→Hp→Prop) (h:JP σ b_0 a_0 c_0 d_0 R):Ad Tryz.prog 34 #[(.agg #[(.slice b_0 a_0 c_0),(.int .i64 d_0)])] σ R :=
 Ac Bk QA Tryz.func34 rfl (by kernel_rfl) (by kernel_rfl) (M:=JP σ b_0 a_0 c_0 d_0 R) (by kernel_rfl) h
theorem MW:Am Tryz.prog 34=true:=by kernel_rfl
abbrev MA:FuncId:=58
def Hv (σ:Hp) (b_0:Option Addr) (a_0 c_0:Nat) (d_0:Int) (l_A:Option Addr) (l_n _:Nat) (R:Value→Hp→Prop):Prop :=
 cl Tryz.prog (.func (.func 106) #[] #[]) #[(.agg #[(.slice b_0 a_0 c_0),(.int .i64 d_0)])] σ (fun v1 σ2 =>
  ∃ n3:Int,(v1=(.int .i64 n3)∧bc (!decide (n3=0)) (rt σ2 R (.int .i64 n3)) (bc (decide ((60:Int) < ((l_n:Nat):Int))) (rt σ2 R (.int .i64 71)) (cut (α:=Hp→Prop) (fun  σ5 =>
  ∀ _:Nat→Value,rt σ5 R (.int .i64 0)) (fun J6=>∃ I9:Nat→Int→Hp→Prop,(∃ n100,I9 n100 0 σ2) ∧
  ∀ n10:Nat,∀ n11:Int,∀ σ8:Hp,I9 n10 n11 σ8→∀ _:Nat→Value,bc (decide (n11 < ((l_n:Nat):Int))) (cut (α:=Hp→Prop) (fun  σ13 =>
  ∀ _:Nat→Value,wk .i64 (n11 + 1) (fun n15=>bk σ13 n10 (fun m16 σ17=>I9 m16 n15 σ17))) (fun J14 =>
  ix l_A l_n n11 5 (fun b18 a19=>ldI σ8 .i64 b18 a19 (fun n20=>ldI σ8 .i64 b18 (a19 + 1) (fun n21 =>
  ldI σ8 .i64 b18 (a19 + 2) (fun n22=>ldS σ8 b18 (a19 + 3) (fun A23 l23 _=>ldI σ8 .i64 b18 (a19 + 4) (fun n24 =>
  cut (α:=Hp→Prop) (fun  σ26=>∀ _:Nat→Value,∃ I30:Nat→Int→Hp→Prop,(∃ n310,I30 n310 0 σ26) ∧
  ∀ n31:Nat,∀ n32:Int,∀ σ29:Hp,I30 n31 n32 σ29→∀ _:Nat→Value,bc (decide (n32 < ((l23:Nat):Int))) (ix A23 l23 n32 1 (fun b33 a34 =>
  ldI σ29 .i64 b33 a34 (fun n35=>wk .i64 (((a_0:Nat):Int) - 1) (fun n36=>cl Tryz.prog (.func (.func 107) #[] #[]) #[(.int .i64 n35),(.int .i64 0),(.int .i64 n36)] σ29 (fun v37 σ38 =>
  ∃ t39:Bool,(v37=(.bool t39)∧bc (!t39) (rt σ38 R (.int .i64 71)) (wk .i64 (n32 + 1) (fun n40 =>
  bk σ38 n31 (fun m41 σ42=>I30 m41 n40 σ42))))))))) (J14 σ29)) (fun J27=>cut (α:=Bool→Hp→Prop) (fun t46 σ44 =>
  ∀ _:Nat→Value,bc t46 (rt σ44 R (.int .i64 71)) (J27 σ44)) (fun J45=>cl Tryz.prog (.func (.func 107) #[] #[]) #[(.int .i64 n20),(.int .i64 0),(.int .i64 2000)] σ8 (fun v47 σ48 =>
  ∃ t49:Bool,(v47=(.bool t49)∧bc (!t49) (J45 true σ48) (cl Tryz.prog (.func (.func 107) #[] #[]) #[(.int .i64 n21),(.int .i64 1),(.int .i64 40)] σ48 (fun v50 σ51 =>
  ∃ t52:Bool,(v50=(.bool t52)∧bc (!t52) (J45 true σ51) (cl Tryz.prog (.func (.func 107) #[] #[]) #[(.int .i64 n22),(.int .i64 0),(.int .i64 10000)] σ51 (fun v53 σ54 =>
  ∃ t55:Bool,(v53=(.bool t55)∧bc (!t55) (J45 true σ54) (bc (decide ((10:Int) < ((l23:Nat):Int))) (J45 true σ54) (cl Tryz.prog (.func (.func 107) #[] #[]) #[(.int .i64 n24),(.int .i64 0),(.int .i64 2000)] σ54 (fun v56 σ57 =>
  ∃ t58:Bool,(v56=(.bool t58)∧J45 (!t58) σ57)))))))))))))))))))))) (J6 σ8))))))
def Ay:OA:=⟨[],false,[]⟩
def PQ:MAn:=(.seq (.txt []) (.seq (.txt []) (.seq (.seq (.txt []) (.cond (.seq (.txt []) .leaf) .leaf)) (.seq (.seq (.txt []) (.cond (.seq (.txt []) .leaf) .leaf)) (.cut ⟨[true],1,[],[]⟩ (.seq (.txt []) (.block (.loop ⟨[true],1,[.slot 2 (.hb 0 0),.slot 6 (.sc (.int .i64))],[(1,true)]⟩ (.seq (.seq (.txt []) (.cond .leaf .leaf)) (.cut ⟨[true],1,[.slot 2 (.hb 0 0)],[(1,true),(6,true)]⟩ (.block (.seq (.txt []) (.cut ⟨[true,true],2,[.slot 2 (.hb 0 0),.slot 7 (.hb 1 0)],[(1,true),(6,true)]⟩ (.cut ⟨[true,true],2,[.slot 2 (.hb 0 0),.slot 7 (.hb 1 0),.slot 54 (.sc (.bool))],[(1,true),(6,true)]⟩ (.txt [Ay,Ay,Ay,Ay,⟨[],true,[]⟩,Ay,Ay,Ay,Ay,Ay,⟨[],true,[]⟩,Ay,Ay,Ay,Ay,Ay,⟨[],true,[]⟩,Ay,Ay,Ay,Ay,Ay,⟨[],true,[]⟩]) (.cond (.seq (.txt []) .leaf) .leaf)) (.seq (.txt []) (.block (.loop ⟨[true,true],2,[.slot 2 (.hb 0 0),.slot 7 (.hb 1 0),.slot 8 (.sc (.int .i64))],[(1,true),(6,true)]⟩ (.seq (.seq (.txt []) (.cond .leaf .leaf)) (.seq (.block (.seq (.plan [9] (.take 0 Ay (.take 1 Ay (.take 2 Ay (.take 3 Ay (.take 4 Ay (.take 5 Ay (.take 6 Ay (.take 7 Ay (.take 8 Ay (.alt 9 false Ay (.take 10 Ay .done) .done))))))))))) (.cond (.seq (.txt []) .leaf) .leaf))) (.txt []))))))))) (.txt [])))))) (.seq (.txt []) .leaf))))))
theorem Pk (σ:Hp) (b_0:Option Addr) (a_0 c_0:Nat) (d_0:Int) (l_A:Option Addr) (l_n l_c:Nat) (R:Value→Hp→Prop) (h:Hv σ b_0 a_0 c_0 d_0 l_A l_n l_c R):Ad Tryz.prog 58 #[(.agg #[(.slice b_0 a_0 c_0),(.int .i64 d_0)]),(.slice l_A l_n l_c)] σ R :=
 Ac Bk PQ Tryz.func58 rfl (by kernel_rfl) (by kernel_rfl) (M:=Hv σ b_0 a_0 c_0 d_0 l_A l_n l_c R) (by kernel_rfl) h
theorem Mp:Am Tryz.prog 58=true:=by kernel_rfl
abbrev Tf:FuncId:=68
def Jt (σ:Hp) (b_0:Option Addr) (a_0 c_0:Nat) (d_0:Int) (l_A:Option Addr) (l_n l_c:Nat) (R:Value→Hp→Prop):Prop :=
 cl Tryz.prog (.func (.func 124) #[] #[]) #[(.agg #[(.slice b_0 a_0 c_0),(.int .i64 d_0)]),(.slice l_A l_n l_c),(.func (.func 125) #[] #[]),(.func (.func 126) #[] #[])] σ (fun v1 σ2 =>
  ∃ A3:Option Addr,∃ l3:Nat,∃ c3:Nat,∃ n4:Int,(v1=(.tuple #[(.slice A3 l3 c3),(.int .i64 n4)]) ∧
  rt σ2 R (.tuple #[(.slice A3 l3 c3),(.int .i64 n4)])))
def QV:MAn:=(.seq (.txt []) (.seq (.txt []) .leaf))
theorem QJ (σ:Hp) (b_0:Option Addr) (a_0 c_0:Nat) (d_0:Int) (l_A:Option Addr) (l_n l_c:Nat) (R:Value→Hp→Prop) (h:Jt σ b_0 a_0 c_0 d_0 l_A l_n l_c R):Ad Tryz.prog 68 #[(.agg #[(.slice b_0 a_0 c_0),(.int .i64 d_0)]),(.slice l_A l_n l_c)] σ R :=
 Ac Bk QV Tryz.func68 rfl (by kernel_rfl) (by kernel_rfl) (M:=Jt σ b_0 a_0 c_0 d_0 l_A l_n l_c R) (by kernel_rfl) h
theorem MX:Am Tryz.prog 68=true:=by kernel_rfl
abbrev Q0:FuncId:=95
def Fy (σ:Hp) (R:Value→Hp→Prop):Prop :=
 exl 89 [.int .i64,.int .i64,.int .i64,.int .i64,.bool] ([(4,2,3,1,false),(2,5,2,0,false)]:List (Int×Int×Int×Int×Bool)) σ (fun A1 l1 c1 σ2 =>
  exl 3 [.int .i64] ([0,1]:List Int) σ2 (fun A3 l3 c3 σ4=>exl 3 [.int .i64] ([0,1]:List Int) σ4 (fun A5 l5 c5 σ6 =>
  exl 61 [.int .i64,.int .i64,.int .i64,.slc,.int .i64] ([(0,3,20,(A3,l3,c3),100),(0,2,30,(A5,l5,c5),100)]:List (Int×Int×Int×(Option Addr×Nat×Nat)×Int)) σ6 (fun A7 l7 c7 σ8 =>
  rt σ8 R (.tuple #[(.agg #[(.slice A1 l1 c1),(.int .i64 1)]),(.slice A7 l7 c7)])))))
def Ng:MAn:=(.seq (.txt []) (.seq (.txt []) (.seq (.txt []) .leaf)))
theorem Nd (σ:Hp) (R:Value→Hp→Prop) (h:Fy σ  R):Ad Tryz.prog 95 #[] σ R :=
 Ac Bk Ng Tryz.func95 rfl (by kernel_rfl) (by kernel_rfl) (M:=Fy σ  R) (by kernel_rfl) h
theorem Km:Am Tryz.prog 95=true:=by kernel_rfl
abbrev Qz:FuncId:=98
def FF (σ:Hp) (b_0:Option Addr) (a_0 c_0:Nat) (d_0:Int) (R:Value→Hp→Prop):Prop :=
 cut (α:=Hp→Prop) (fun  σ2=>∀ _:Nat→Value,rt σ2 R (.int .i64 0)) (fun J3=>cut (α:=Bool→Hp→Prop) (fun t7 σ5 =>
  ∀ _:Nat→Value,bc t7 (rt σ5 R (.int .i64 70)) (J3 σ5)) (fun J6=>bc (decide ((8:Int) < ((a_0:Nat):Int))) (J6 true σ) (cl Tryz.prog (.func (.func 101) #[] #[]) #[(.int .i64 d_0),(.int .i64 0),(.int .i64 100)] σ (fun v8 σ9 =>
  ∃ t10:Bool,(v8=(.bool t10)∧bc (!t10) (J6 true σ9) (cl Tryz.prog (.func (.func 179) #[] #[]) #[(.slice b_0 a_0 c_0),(.func (.func 178) #[] #[])] σ9 (fun v11 σ12 =>
  ∃ t13:Bool,(v11=(.bool t13)∧J6 t13 σ12))))))))
def Bp:OA:=⟨[],false,[]⟩
def No:MAn:=(.seq (.txt []) (.seq (.txt []) (.cut ⟨[true],1,[],[]⟩ (.cut ⟨[true],1,[.slot 19 (.sc (.bool))],[]⟩ (.txt [Bp,Bp,Bp,Bp,⟨[],true,[]⟩,Bp,Bp,Bp,Bp,Bp,⟨[],true,[]⟩]) (.cond (.seq (.txt []) .leaf) .leaf)) (.seq (.txt []) .leaf))))
theorem Nh (σ:Hp) (b_0:Option Addr) (a_0 c_0:Nat) (d_0:Int) (R:Value→Hp→Prop) (h:FF σ b_0 a_0 c_0 d_0 R):Ad Tryz.prog 98 #[(.agg #[(.slice b_0 a_0 c_0),(.int .i64 d_0)])] σ R :=
 Ac Bk No Tryz.func98 rfl (by kernel_rfl) (by kernel_rfl) (M:=FF σ b_0 a_0 c_0 d_0 R) (by kernel_rfl) h
theorem KF:Am Tryz.prog 98=true:=by kernel_rfl
abbrev QH:FuncId:=99
def FH (σ:Hp) (g_At w_0 k_0:Int) (i_0:Option Addr) (e_0 h_0:Nat) (f_0:Int) (cap0:Option Addr) (R:Value→Hp→Prop):Prop :=
 cl Tryz.prog (.func (.func 101) #[] #[]) #[(.int .i64 g_At),(.int .i64 0),(.int .i64 2000)] σ (fun v1 σ2 =>
  ∃ t3:Bool,(v1=(.bool t3)∧bc (!t3) (rt σ2 R (.bool true)) (cl Tryz.prog (.func (.func 101) #[] #[]) #[(.int .i64 w_0),(.int .i64 1),(.int .i64 40)] σ2 (fun v4 σ5 =>
  ∃ t6:Bool,(v4=(.bool t6)∧bc (!t6) (rt σ5 R (.bool true)) (cl Tryz.prog (.func (.func 101) #[] #[]) #[(.int .i64 k_0),(.int .i64 0),(.int .i64 10000)] σ5 (fun v7 σ8 =>
  ∃ t9:Bool,(v7=(.bool t9)∧bc (!t9) (rt σ8 R (.bool true)) (cl Tryz.prog (.func (.func 101) #[] #[]) #[(.int .i64 f_0),(.int .i64 0),(.int .i64 2000)] σ8 (fun v10 σ11 =>
  ∃ t12:Bool,(v10=(.bool t12)∧bc (!t12) (rt σ11 R (.bool true)) (bc (decide ((10:Int) < ((e_0:Nat):Int))) (rt σ11 R (.bool true)) (cl Tryz.prog (.func (.func 57) #[] #[]) #[(.slice i_0 e_0 h_0),(.func (.func 100) #[] #[(.pointer cap0)])] σ11 (fun v13 σ14 =>
  ∃ t15:Bool,(v13=(.bool t15)∧rt σ14 R (.bool t15))))))))))))))))
def AE:OA:=⟨[],false,[]⟩
def Na:MAn:=(.seq (.txt []) (.seq (.txt []) (.seq (.txt [AE,AE,AE,AE,⟨[],true,[]⟩,AE,AE,AE,AE,AE,⟨[],true,[]⟩,AE,AE,AE,AE,AE,⟨[],true,[]⟩,AE,AE,AE,AE,AE,⟨[],true,[]⟩,AE,AE,AE,AE,AE,⟨[],true,[]⟩]) .leaf)))
theorem MO (σ:Hp) (g_At w_0 k_0:Int) (i_0:Option Addr) (e_0 h_0:Nat) (f_0:Int) (cap0:Option Addr) (R:Value→Hp→Prop) (h:FH σ g_At w_0 k_0 i_0 e_0 h_0 f_0 cap0 R):Ad Tryz.prog 99 #[(.agg #[(.int .i64 g_At),(.int .i64 w_0),(.int .i64 k_0),(.slice i_0 e_0 h_0),(.int .i64 f_0)]),(.pointer cap0)] σ R :=
 Ac Bk Na Tryz.func99 rfl (by kernel_rfl) (by kernel_rfl) (M:=FH σ g_At w_0 k_0 i_0 e_0 h_0 f_0 cap0 R) (by kernel_rfl) h
theorem Kq:Am Tryz.prog 99=true:=by kernel_rfl
def Er (σ:Hp) (n:Int) (cap0:Option Addr) (R:Value→Hp→Prop):Prop :=
 dr cap0 (fun b1 o2=>ldS σ b1 o2 (fun _ l3 _=>wk .i64 (((l3:Nat):Int) - 1) (fun n4=>cl Tryz.prog (.func (.func 101) #[] #[]) #[(.int .i64 n),(.int .i64 0),(.int .i64 n4)] σ (fun v5 σ6 =>
  ∃ t7:Bool,(v5=(.bool t7)∧rt σ6 R (.bool (!t7)))))))
def KX:MAn:=(.seq (.txt []) (.seq (.txt []) .leaf))
theorem LC (σ:Hp) (n:Int) (cap0:Option Addr) (R:Value→Hp→Prop) (h:Er σ n cap0 R):Ad Tryz.prog 100 #[(.int .i64 n),(.pointer cap0)] σ R :=
 Ac Bk KX Tryz.func100 rfl (by kernel_rfl) (by kernel_rfl) (M:=Er σ n cap0 R) (by kernel_rfl) h
theorem Iv:Am Tryz.prog 100=true:=by kernel_rfl
abbrev Lq:FuncId:=101
def GE (σ:Hp) (n low high:Int) (R:Value→Hp→Prop):Prop :=
 bc (decide (low≤n)) (rt σ R (.bool (decide (n≤high)))) (rt σ R (.bool false))
def N8:MAn:=(.seq (.txt []) (.seq (.txt [⟨[],false,[]⟩,⟨[],false,[]⟩,⟨[],false,[]⟩,⟨[],true,[]⟩]) .leaf))
theorem OO (σ:Hp) (n low high:Int) (R:Value→Hp→Prop) (h:GE σ n low high R):Ad Tryz.prog 101 #[(.int .i64 n),(.int .i64 low),(.int .i64 high)] σ R :=
 Ac Bk N8 Tryz.func101 rfl (by kernel_rfl) (by kernel_rfl) (M:=GE σ n low high R) (by kernel_rfl) h
theorem K4:Am Tryz.prog 101=true:=by kernel_rfl
abbrev C9:FuncId:=57
def BK (σ:Hp) (s_A:Option Addr) (s_n s_c:Nat) (f:Value) (R:Value→Hp→Prop):Prop :=
 cl Tryz.prog (.func (.func 105) #[] #[]) #[(.slice s_A s_n s_c),f] σ (fun v1 σ2=>∃ n3:Int,(v1=(.int .i64 n3) ∧
  rt σ2 R (.bool (decide ((0:Int)≤n3)))))
def FR:MAn:=(.seq (.txt []) (.seq (.txt []) .leaf))
theorem Ct (σ:Hp) (s_A:Option Addr) (s_n s_c:Nat) (f:Value) (R:Value→Hp→Prop) (h:BK σ s_A s_n s_c f R):Ad Tryz.prog 57 #[(.slice s_A s_n s_c),f] σ R :=
 Ac Bk FR Tryz.func57 rfl (by kernel_rfl) (by kernel_rfl) (M:=BK σ s_A s_n s_c f R) (by kernel_rfl) h
theorem Bf:Am Tryz.prog 57=true:=by kernel_rfl
abbrev EQ:FuncId:=102
def BJ (σ:Hp) (s_A:Option Addr) (s_n s_c:Nat) (f:Value) (R:Value→Hp→Prop):Prop :=
 cl Tryz.prog (.func (.func 180) #[] #[]) #[(.slice s_A s_n s_c),f] σ (fun v1 σ2=>∃ n3:Int,(v1=(.int .i64 n3) ∧
  rt σ2 R (.bool (decide ((0:Int)≤n3)))))
def DI:MAn:=(.seq (.txt []) (.seq (.txt []) .leaf))
theorem D2 (σ:Hp) (s_A:Option Addr) (s_n s_c:Nat) (f:Value) (R:Value→Hp→Prop) (h:BJ σ s_A s_n s_c f R):Ad Tryz.prog 102 #[(.slice s_A s_n s_c),f] σ R :=
 Ac Bk DI Tryz.func102 rfl (by kernel_rfl) (by kernel_rfl) (M:=BJ σ s_A s_n s_c f R) (by kernel_rfl) h
theorem C3:Am Tryz.prog 102=true:=by kernel_rfl
abbrev La:FuncId:=106
def CL (σ:Hp) (b_0:Option Addr) (a_0 _:Nat) (d_0:Int) (R:Value→Hp→Prop):Prop :=
 cut (α:=Hp→Prop) (fun  σ2=>∀ _:Nat→Value,cut (α:=Hp→Prop) (fun  σ5=>∀ _:Nat→Value,
  rt σ5 R (.int .i64 0)) (fun J6=>∃ I9:Nat→Int→Hp→Prop,(∃ n100,I9 n100 0 σ2)∧∀ n10:Nat,∀ n11:Int,∀ σ8:Hp,I9 n10 n11 σ8→∀ _:Nat→Value,bc (decide (n11 < ((a_0:Nat):Int))) (cut (α:=Hp→Prop) (fun  σ13 =>
  ∀ _:Nat→Value,wk .i64 (n11 + 1) (fun n15=>bk σ13 n10 (fun m16 σ17=>I9 m16 n15 σ17))) (fun J14 =>
  ix b_0 a_0 n11 5 (fun b18 a19=>ldI σ8 .i64 b18 a19 (fun n20=>ldI σ8 .i64 b18 (a19 + 1) (fun n21 =>
  ldI σ8 .i64 b18 (a19 + 2) (fun n22=>ldI σ8 .i64 b18 (a19 + 3) (fun n23=>ldB σ8 b18 (a19 + 4) (fun _ =>
  cut (α:=Bool→Hp→Prop) (fun t28 σ26=>∀ _:Nat→Value,bc t28 (rt σ26 R (.int .i64 70)) (J14 σ26)) (fun J27 =>
  cl Tryz.prog (.func (.func 107) #[] #[]) #[(.int .i64 n20),(.int .i64 1),(.int .i64 40)] σ8 (fun v29 σ30 =>
  ∃ t31:Bool,(v29=(.bool t31)∧bc (!t31) (J27 true σ30) (cl Tryz.prog (.func (.func 107) #[] #[]) #[(.int .i64 n21),(.int .i64 0),(.int .i64 100)] σ30 (fun v32 σ33 =>
  ∃ t34:Bool,(v32=(.bool t34)∧bc (!t34) (J27 true σ33) (cl Tryz.prog (.func (.func 107) #[] #[]) #[(.int .i64 n22),(.int .i64 1),(.int .i64 100)] σ33 (fun v35 σ36 =>
  ∃ t37:Bool,(v35=(.bool t37)∧bc (!t37) (J27 true σ36) (cl Tryz.prog (.func (.func 107) #[] #[]) #[(.int .i64 n23),(.int .i64 0),(.int .i64 100)] σ36 (fun v38 σ39 =>
  ∃ t40:Bool,(v38=(.bool t40)∧J27 (!t40) σ39)))))))))))))))))))) (J6 σ8))) (fun J3=>cut (α:=Bool→Hp→Prop) (fun t44 σ42 =>
  ∀ _:Nat→Value,bc t44 (rt σ42 R (.int .i64 70)) (J3 σ42)) (fun J43=>bc (decide ((8:Int) < ((a_0:Nat):Int))) (J43 true σ) (cl Tryz.prog (.func (.func 107) #[] #[]) #[(.int .i64 d_0),(.int .i64 0),(.int .i64 100)] σ (fun v45 σ46 =>
  ∃ t47:Bool,(v45=(.bool t47)∧J43 (!t47) σ46)))))
def AD:OA:=⟨[],false,[]⟩
def Ix:MAn:=(.seq (.txt []) (.cut ⟨[true],1,[.slot 1 (.hb 0 0)],[]⟩ (.cut ⟨[true],1,[.slot 1 (.hb 0 0),.slot 14 (.sc (.bool))],[]⟩ (.txt [AD,AD,AD,AD,⟨[],true,[]⟩]) (.cond (.seq (.txt []) .leaf) .leaf)) (.cut ⟨[true],1,[],[]⟩ (.seq (.txt []) (.block (.loop ⟨[true],1,[.slot 1 (.hb 0 0),.slot 3 (.sc (.int .i64))],[]⟩ (.seq (.seq (.txt []) (.cond .leaf .leaf)) (.cut ⟨[true],1,[.slot 1 (.hb 0 0)],[(3,true)]⟩ (.block (.seq (.txt []) (.cut ⟨[true,true],2,[.slot 1 (.hb 0 0),.slot 48 (.sc (.bool))],[(3,true)]⟩ (.txt [AD,AD,AD,AD,⟨[],true,[]⟩,AD,AD,AD,AD,AD,⟨[],true,[]⟩,AD,AD,AD,AD,AD,⟨[],true,[]⟩]) (.cond (.seq (.txt []) .leaf) .leaf)))) (.txt [])))))) (.seq (.txt []) .leaf))))
theorem IC (σ:Hp) (b_0:Option Addr) (a_0 c_0:Nat) (d_0:Int) (R:Value→Hp→Prop) (h:CL σ b_0 a_0 c_0 d_0 R):Ad Tryz.prog 106 #[(.agg #[(.slice b_0 a_0 c_0),(.int .i64 d_0)])] σ R :=
 Ac Bk Ix Tryz.func106 rfl (by kernel_rfl) (by kernel_rfl) (M:=CL σ b_0 a_0 c_0 d_0 R) (by kernel_rfl) h
theorem GL:Am Tryz.prog 106=true:=by kernel_rfl
abbrev NY:FuncId:=107
def IT (σ:Hp) (n low high:Int) (R:Value→Hp→Prop):Prop :=
 bc (decide (low≤n)) (rt σ R (.bool (decide (n≤high)))) (rt σ R (.bool false))
def QY:MAn:=(.seq (.txt []) (.seq (.txt [⟨[],false,[]⟩,⟨[],false,[]⟩,⟨[],false,[]⟩,⟨[],true,[]⟩]) .leaf))
theorem Qo (σ:Hp) (n low high:Int) (R:Value→Hp→Prop) (h:IT σ n low high R):Ad Tryz.prog 107 #[(.int .i64 n),(.int .i64 low),(.int .i64 high)] σ R :=
 Ac Bk QY Tryz.func107 rfl (by kernel_rfl) (by kernel_rfl) (M:=IT σ n low high R) (by kernel_rfl) h
theorem Ny:Am Tryz.prog 107=true:=by kernel_rfl
abbrev IE:FuncId:=124
def Cj (σ:Hp) (b_0:Option Addr) (a_0 c_0:Nat) (d_0:Int) (l_A:Option Addr) (l_n l_c:Nat) (elements number:Value) (R:Value→Hp→Prop):Prop :=
 cl Tryz.prog (.func (.func 51) #[] #[]) #[(.agg #[(.slice b_0 a_0 c_0),(.int .i64 d_0)]),(.slice l_A l_n l_c)] σ (fun v1 σ2 =>
  ∃ n3:Int,(v1=(.int .i64 n3)∧bc (!decide (n3=0)) (rt σ2 R (.tuple #[(.slice none 0 0),(.int .i64 n3)])) (cut (α:=List Int→Hp→Prop) (fun xs7 σ5 =>
  ∀ _:Nat→Value,exl 3 [.int .i64] xs7 σ5 (fun A8 l8 c8 σ9=>rt σ9 R (.tuple #[(.slice A8 l8 c8),(.int .i64 0)]))) (fun J6 =>
  cl Tryz.prog (.func (.func 76) #[] #[]) #[(.agg #[(.slice b_0 a_0 c_0),(.int .i64 d_0)]),(.slice l_A l_n l_c)] σ2 (fun v10 σ11 =>
  ∃ p12:Option Addr,(v10=(.pointer p12)∧cl Tryz.prog elements #[(.pointer p12)] σ11 (fun v13 σ14 =>
  ∃ A15:Option Addr,∃ l15:Nat,∃ c15:Nat,(v13=(.slice A15 l15 c15)∧∃ I18:Nat→List Int→Int→Hp→Prop,(∃ n190,adp 3 [.int .i64] none 0 0 σ14 (fun (xs20:List Int) σ21 =>
  I18 n190 xs20 0 σ21))∧∀ n19:Nat,∀ xs22:List Int,∀ n23:Int,∀ σ17:Hp,I18 n19 xs22 n23 σ17→∀ _:Nat→Value,bc (decide (n23 < ((l15:Nat):Int))) (ix A15 l15 n23 1 (fun b24 a25 =>
  ldP σ17 b24 a25 (fun p26=>cl Tryz.prog number #[(.pointer p26)] σ17 (fun v27 σ28=>∃ n29:Int,(v27=(.int .i64 n29) ∧
  Be (List.length xs22 + List.length ([n29]:List Int)) (wk .i64 (n23 + 1) (fun n30=>bk σ28 n19 (fun m31 σ32 =>
  I18 m31 (xs22++([n29]:List Int)) n30 σ32)))))))) (J6 xs22 σ17)))))))))
def GP:MAn:=(.seq (.txt []) (.seq (.seq (.txt []) (.seq (.txt []) (.cond (.seq (.txt []) .leaf) .leaf))) (.cut ⟨[true],2,[.slot 8 (.lst 1 3 [.int .i64])],[]⟩ (.seq (.txt []) (.block (.loop ⟨[true],2,[.slot 8 (.lst 1 3 [.int .i64]),.slot 25 (.sc (.int .i64))],[(3,false),(23,true),(24,true)]⟩ (.seq (.txt []) (.seq (.cond .leaf .leaf) (.seq (.block (.seq (.txt []) (.txt []))) (.txt []))))))) (.seq (.txt []) .leaf))))
theorem Gv (σ:Hp) (b_0:Option Addr) (a_0 c_0:Nat) (d_0:Int) (l_A:Option Addr) (l_n l_c:Nat) (elements number:Value) (R:Value→Hp→Prop) (h:Cj σ b_0 a_0 c_0 d_0 l_A l_n l_c elements number R):Ad Tryz.prog 124 #[(.agg #[(.slice b_0 a_0 c_0),(.int .i64 d_0)]),(.slice l_A l_n l_c),elements,number] σ R :=
 Ac Bk GP Tryz.func124 rfl (by kernel_rfl) (by kernel_rfl) (M:=Cj σ b_0 a_0 c_0 d_0 l_A l_n l_c elements number R) (by kernel_rfl) h
theorem Fo:Am Tryz.prog 124=true:=by kernel_rfl
abbrev QR:FuncId:=125
def FQ (σ:Hp) (n:Option Addr) (R:Value→Hp→Prop):Prop :=
 dr n (fun b1 o2=>ldS σ b1 (o2 + 2) (fun A3 l3 c3=>rt σ R (.slice A3 l3 c3)))
def Nq:MAn:=(.seq (.txt []) (.seq (.txt []) .leaf))
theorem MM (σ:Hp) (n:Option Addr) (R:Value→Hp→Prop) (h:FQ σ n R):Ad Tryz.prog 125 #[(.pointer n)] σ R :=
 Ac Bk Nq Tryz.func125 rfl (by kernel_rfl) (by kernel_rfl) (M:=FQ σ n R) (by kernel_rfl) h
theorem Kb:Am Tryz.prog 125=true:=by kernel_rfl
abbrev R2:FuncId:=126
def GT (σ:Hp) (p:Option Addr) (R:Value→Hp→Prop):Prop :=
 dr p (fun b1 o2=>ldI σ .i64 b1 (o2 + 8) (fun n3=>rt σ R (.int .i64 n3)))
def Oz:MAn:=(.seq (.txt []) (.seq (.txt []) .leaf))
theorem N9 (σ:Hp) (p:Option Addr) (R:Value→Hp→Prop) (h:GT σ p R):Ad Tryz.prog 126 #[(.pointer p)] σ R :=
 Ac Bk Oz Tryz.func126 rfl (by kernel_rfl) (by kernel_rfl) (M:=GT σ p R) (by kernel_rfl) h
theorem Ln:Am Tryz.prog 126=true:=by kernel_rfl
abbrev NI:FuncId:=178
def ED (σ:Hp) (l_0 r_0 q_0 m_0:Int) (_:Bool) (R:Value→Hp→Prop):Prop :=
 cl Tryz.prog (.func (.func 101) #[] #[]) #[(.int .i64 l_0),(.int .i64 1),(.int .i64 40)] σ (fun v1 σ2 =>
  ∃ t3:Bool,(v1=(.bool t3)∧bc (!t3) (rt σ2 R (.bool true)) (cl Tryz.prog (.func (.func 101) #[] #[]) #[(.int .i64 r_0),(.int .i64 0),(.int .i64 100)] σ2 (fun v4 σ5 =>
  ∃ t6:Bool,(v4=(.bool t6)∧bc (!t6) (rt σ5 R (.bool true)) (cl Tryz.prog (.func (.func 101) #[] #[]) #[(.int .i64 q_0),(.int .i64 1),(.int .i64 100)] σ5 (fun v7 σ8 =>
  ∃ t9:Bool,(v7=(.bool t9)∧bc (!t9) (rt σ8 R (.bool true)) (cl Tryz.prog (.func (.func 101) #[] #[]) #[(.int .i64 m_0),(.int .i64 0),(.int .i64 100)] σ8 (fun v10 σ11 =>
  ∃ t12:Bool,(v10=(.bool t12)∧rt σ11 R (.bool (!t12)))))))))))))
def AP:OA:=⟨[],false,[]⟩
def KW:MAn:=(.seq (.txt []) (.seq (.txt [AP,AP,AP,AP,⟨[],true,[]⟩,AP,AP,AP,AP,AP,⟨[],true,[]⟩,AP,AP,AP,AP,AP,⟨[],true,[]⟩]) .leaf))
theorem K8 (σ:Hp) (l_0 r_0 q_0 m_0:Int) (g_1:Bool) (R:Value→Hp→Prop) (h:ED σ l_0 r_0 q_0 m_0 g_1 R):Ad Tryz.prog 178 #[(.agg #[(.int .i64 l_0),(.int .i64 r_0),(.int .i64 q_0),(.int .i64 m_0),(.bool g_1)])] σ R :=
 Ac Bk KW Tryz.func178 rfl (by kernel_rfl) (by kernel_rfl) (M:=ED σ l_0 r_0 q_0 m_0 g_1 R) (by kernel_rfl) h
theorem Ia:Am Tryz.prog 178=true:=by kernel_rfl
abbrev EJ:FuncId:=179
def BG (σ:Hp) (s_A:Option Addr) (s_n s_c:Nat) (f:Value) (R:Value→Hp→Prop):Prop :=
 cl Tryz.prog (.func (.func 231) #[] #[]) #[(.slice s_A s_n s_c),f] σ (fun v1 σ2=>∃ n3:Int,(v1=(.int .i64 n3) ∧
  rt σ2 R (.bool (decide ((0:Int)≤n3)))))
def DK:MAn:=(.seq (.txt []) (.seq (.txt []) .leaf))
theorem DW (σ:Hp) (s_A:Option Addr) (s_n s_c:Nat) (f:Value) (R:Value→Hp→Prop) (h:BG σ s_A s_n s_c f R):Ad Tryz.prog 179 #[(.slice s_A s_n s_c),f] σ R :=
 Ac Bk DK Tryz.func179 rfl (by kernel_rfl) (by kernel_rfl) (M:=BG σ s_A s_n s_c f R) (by kernel_rfl) h
theorem C6:Am Tryz.prog 179=true:=by kernel_rfl
abbrev EB:FuncId:=105
def B5 (σ:Hp) (s_A:Option Addr) (s_n _:Nat) (f:Value) (R:Value→Hp→Prop):Prop :=
 cut (α:=Hp→Prop) (fun  σ2=>∀ _:Nat→Value,rt σ2 R (.int .i64 (-1))) (fun J3=>∃ I6:Nat→Int→Hp→Prop,(∃ n70,I6 n70 0 σ) ∧
  ∀ n7:Nat,∀ n8:Int,∀ σ5:Hp,I6 n7 n8 σ5→∀ _:Nat→Value,bc (decide (n8 < ((s_n:Nat):Int))) (ix s_A s_n n8 1 (fun b9 a10 =>
  ldI σ5 .i64 b9 a10 (fun n11=>cl Tryz.prog f #[(.int .i64 n11)] σ5 (fun v12 σ13=>∃ t14:Bool,(v12=(.bool t14) ∧
  bc t14 (rt σ13 R (.int .i64 n8)) (wk .i64 (n8 + 1) (fun n15=>bk σ13 n7 (fun m16 σ17=>I6 m16 n15 σ17)))))))) (J3 σ5))
def G9:MAn:=(.seq (.txt []) (.cut ⟨[],0,[],[]⟩ (.seq (.txt []) (.block (.loop ⟨[],0,[.slot 8 (.sc (.int .i64))],[(0,true),(1,false),(7,true)]⟩ (.seq (.txt []) (.seq (.cond .leaf .leaf) (.seq (.block (.seq (.txt []) (.seq (.txt []) (.cond (.seq (.txt []) .leaf) .leaf)))) (.txt []))))))) (.seq (.txt []) .leaf)))
theorem Da (σ:Hp) (s_A:Option Addr) (s_n s_c:Nat) (f:Value) (R:Value→Hp→Prop) (h:B5 σ s_A s_n s_c f R):Ad Tryz.prog 105 #[(.slice s_A s_n s_c),f] σ R :=
 Ac Bk G9 Tryz.func105 rfl (by kernel_rfl) (by kernel_rfl) (M:=B5 σ s_A s_n s_c f R) (by kernel_rfl) h
theorem Cv:Am Tryz.prog 105=true:=by kernel_rfl
abbrev FN:FuncId:=180
def B1 (σ:Hp) (s_A:Option Addr) (s_n _:Nat) (f:Value) (R:Value→Hp→Prop):Prop :=
 cut (α:=Hp→Prop) (fun  σ2=>∀ _:Nat→Value,rt σ2 R (.int .i64 (-1))) (fun J3=>∃ I6:Nat→Int→Hp→Prop,(∃ n70,I6 n70 0 σ) ∧
  ∀ n7:Nat,∀ n8:Int,∀ σ5:Hp,I6 n7 n8 σ5→∀ _:Nat→Value,bc (decide (n8 < ((s_n:Nat):Int))) (ix s_A s_n n8 5 (fun b9 a10 =>
  ldI σ5 .i64 b9 a10 (fun n11=>ldI σ5 .i64 b9 (a10 + 1) (fun n12=>ldI σ5 .i64 b9 (a10 + 2) (fun n13 =>
  ldS σ5 b9 (a10 + 3) (fun A14 l14 c14=>ldI σ5 .i64 b9 (a10 + 4) (fun n15=>cl Tryz.prog f #[(.agg #[(.int .i64 n11),(.int .i64 n12),(.int .i64 n13),(.slice A14 l14 c14),(.int .i64 n15)])] σ5 (fun v16 σ17 =>
  ∃ t18:Bool,(v16=(.bool t18)∧bc t18 (rt σ17 R (.int .i64 n8)) (wk .i64 (n8 + 1) (fun n19=>bk σ17 n7 (fun m20 σ21 =>
  I6 m20 n19 σ21)))))))))))) (J3 σ5))
def EP:MAn:=(.seq (.txt []) (.cut ⟨[],0,[],[]⟩ (.seq (.txt []) (.block (.loop ⟨[],0,[.slot 8 (.sc (.int .i64))],[(0,true),(1,false),(7,true)]⟩ (.seq (.txt []) (.seq (.cond .leaf .leaf) (.seq (.block (.seq (.txt []) (.seq (.txt []) (.cond (.seq (.txt []) .leaf) .leaf)))) (.txt []))))))) (.seq (.txt []) .leaf)))
theorem EL (σ:Hp) (s_A:Option Addr) (s_n s_c:Nat) (f:Value) (R:Value→Hp→Prop) (h:B1 σ s_A s_n s_c f R):Ad Tryz.prog 180 #[(.slice s_A s_n s_c),f] σ R :=
 Ac Bk EP Tryz.func180 rfl (by kernel_rfl) (by kernel_rfl) (M:=B1 σ s_A s_n s_c f R) (by kernel_rfl) h
theorem DS:Am Tryz.prog 180=true:=by kernel_rfl
abbrev TM:FuncId:=137
def Jm (σ:Hp) (x_0:Option Addr) (n_0 _:Nat) (R:Value→Hp→Prop):Prop :=
 cut (α:=Hp→Prop) (fun  σ2=>∀ _:Nat→Value,rt σ2 R (.int .i64 0)) (fun J3=>∃ I6:Nat→Int→Hp→Prop,(∃ n70,I6 n70 0 σ) ∧
  ∀ n7:Nat,∀ n8:Int,∀ σ5:Hp,I6 n7 n8 σ5→∀ _:Nat→Value,bc (decide (n8 < ((n_0:Nat):Int))) (ix x_0 n_0 n8 1 (fun b9 a10 =>
  ldI σ5 .i64 b9 a10 (fun n11=>bc (!decide (n11=0)) (rt σ5 R (.int .i64 n11)) (wk .i64 (n8 + 1) (fun n12 =>
  bk σ5 n7 (fun m13 σ14=>I6 m13 n12 σ14)))))) (J3 σ5))
def QK:MAn:=(.seq (.txt []) (.seq (.txt []) (.cut ⟨[],0,[],[(3,true)]⟩ (.seq (.txt []) (.block (.loop ⟨[],0,[.slot 8 (.sc (.int .i64))],[(3,true),(6,true),(7,true)]⟩ (.seq (.txt []) (.seq (.cond .leaf .leaf) (.seq (.block (.seq (.txt []) (.seq (.txt []) (.cond (.seq (.txt []) .leaf) .leaf)))) (.txt []))))))) (.seq (.txt []) .leaf))))
theorem Qr (σ:Hp) (x_0:Option Addr) (n_0 d_1:Nat) (R:Value→Hp→Prop) (h:Jm σ x_0 n_0 d_1 R):Ad Tryz.prog 137 #[(.slice x_0 n_0 d_1)] σ R :=
 Ac Bk QK Tryz.func137 rfl (by kernel_rfl) (by kernel_rfl) (M:=Jm σ x_0 n_0 d_1 R) (by kernel_rfl) h
theorem M4:Am Tryz.prog 137=true:=by kernel_rfl
abbrev FL:FuncId:=231
def B2 (σ:Hp) (s_A:Option Addr) (s_n _:Nat) (f:Value) (R:Value→Hp→Prop):Prop :=
 cut (α:=Hp→Prop) (fun  σ2=>∀ _:Nat→Value,rt σ2 R (.int .i64 (-1))) (fun J3=>∃ I6:Nat→Int→Hp→Prop,(∃ n70,I6 n70 0 σ) ∧
  ∀ n7:Nat,∀ n8:Int,∀ σ5:Hp,I6 n7 n8 σ5→∀ _:Nat→Value,bc (decide (n8 < ((s_n:Nat):Int))) (ix s_A s_n n8 5 (fun b9 a10 =>
  ldI σ5 .i64 b9 a10 (fun n11=>ldI σ5 .i64 b9 (a10 + 1) (fun n12=>ldI σ5 .i64 b9 (a10 + 2) (fun n13 =>
  ldI σ5 .i64 b9 (a10 + 3) (fun n14=>ldB σ5 b9 (a10 + 4) (fun t15=>cl Tryz.prog f #[(.agg #[(.int .i64 n11),(.int .i64 n12),(.int .i64 n13),(.int .i64 n14),(.bool t15)])] σ5 (fun v16 σ17 =>
  ∃ t18:Bool,(v16=(.bool t18)∧bc t18 (rt σ17 R (.int .i64 n8)) (wk .i64 (n8 + 1) (fun n19=>bk σ17 n7 (fun m20 σ21 =>
  I6 m20 n19 σ21)))))))))))) (J3 σ5))
def EI:MAn:=(.seq (.txt []) (.cut ⟨[],0,[],[]⟩ (.seq (.txt []) (.block (.loop ⟨[],0,[.slot 8 (.sc (.int .i64))],[(0,true),(1,false),(7,true)]⟩ (.seq (.txt []) (.seq (.cond .leaf .leaf) (.seq (.block (.seq (.txt []) (.seq (.txt []) (.cond (.seq (.txt []) .leaf) .leaf)))) (.txt []))))))) (.seq (.txt []) .leaf)))
theorem EN (σ:Hp) (s_A:Option Addr) (s_n s_c:Nat) (f:Value) (R:Value→Hp→Prop) (h:B2 σ s_A s_n s_c f R):Ad Tryz.prog 231 #[(.slice s_A s_n s_c),f] σ R :=
 Ac Bk EI Tryz.func231 rfl (by kernel_rfl) (by kernel_rfl) (M:=B2 σ s_A s_n s_c f R) (by kernel_rfl) h
theorem DV:Am Tryz.prog 231=true:=by kernel_rfl
abbrev Ez:FuncId:=136
def GC (σ:Hp) (o_0 z_0 _:Int) (_:Bool) (_ y_0 s_0 u_0 _:Int) (_:Bool) (_ v_0:Int) (R:Value→Hp→Prop):Prop :=
 wk .i64 (y_0 - v_0) (fun n1=>wk .i64 (o_0 - s_0) (fun n2=>wk .i64 (z_0 - u_0) (fun n3 =>
  exl 3 [.int .i64] ([n1,n2,n3]:List Int) σ (fun A4 l4 c4 σ5=>cl Tryz.prog (.func (.func 137) #[] #[]) #[(.slice A4 l4 c4)] σ5 (fun v6 σ7 =>
  ∃ n8:Int,(v6=(.int .i64 n8)∧rt σ7 R (.int .i64 n8)))))))
def Om:MAn:=(.seq (.txt []) (.seq (.txt []) .leaf))
theorem N6 (σ:Hp) (o_0 z_0 b_1:Int) (a_On:Bool) (h_1 y_0 s_0 u_0 c_1:Int) (b_On:Bool) (a_1 v_0:Int) (R:Value→Hp→Prop) (h:GC σ o_0 z_0 b_1 a_On h_1 y_0 s_0 u_0 c_1 b_On a_1 v_0 R):Ad Tryz.prog 136 #[(.agg #[(.int .i64 o_0),(.int .i64 z_0),(.int .i64 b_1),(.bool a_On),(.int .i64 h_1),(.int .i64 y_0)]),(.agg #[(.int .i64 s_0),(.int .i64 u_0),(.int .i64 c_1),(.bool b_On),(.int .i64 a_1),(.int .i64 v_0)])] σ R :=
 Ac Bk Om Tryz.func136 rfl (by kernel_rfl) (by kernel_rfl) (M:=GC σ o_0 z_0 b_1 a_On h_1 y_0 s_0 u_0 c_1 b_On a_1 v_0 R) (by kernel_rfl) h
abbrev Kf:FuncId:=197
def Cw (σ:Hp) (g_0 j_0:Int) (cap0 cap1:Option Addr) (R:Value→Hp→Prop):Prop :=
 dr cap0 (fun b1 o2=>ldP σ b1 o2 (fun p3=>dr p3 (fun b4 o5=>ldI σ .i64 b4 (o5 + 3) (fun n6=>wk .i64 (n6 - j_0) (fun n7 =>
  dr cap0 (fun b8 o9=>ldP σ b8 o9 (fun p10=>dr p10 (fun b11 o12=>ldS σ b11 (o12 + 2) (fun A13 l13 _ =>
  ix A13 l13 g_0 1 (fun b14 a15=>ldP σ b14 a15 (fun p16=>dr p16 (fun b17 o18=>ldI σ .i64 b17 (o18 + 4) (fun n19 =>
  cut (α:=Hp→Prop) (fun  σ21=>∀ _:Nat→Value,rt σ21 R (.bool (decide (n19 < n7)))) (fun J22 =>
  bc (decide (n19 < n7)) (dr cap1 (fun b23 o24=>ldS σ b23 o24 (fun A25 l25 c25=>adp 206 [.int .i64,.int .i64] A25 l25 c25 σ (fun (xs26:List (Int×Int)) σ27 =>
  Be (List.length xs26 + List.length ([(g_0,j_0)]:List (Int×Int))) (exl 206 [.int .i64,.int .i64] (xs26++([(g_0,j_0)]:List (Int×Int))) σ27 (fun A28 l28 c28 σ29 =>
  dr cap1 (fun b30 o31=>st σ29 b30 o31 (.slice A28 l28 c28) (fun σ32=>J22 σ32)))))))) (J22 σ)))))))))))))))
def Av:OA:=⟨[],false,[]⟩
def Ho:MAn:=(.seq (.txt []) (.seq (.plan [] (.take 0 Av (.take 1 Av (.take 2 Av (.take 3 Av (.take 4 Av (.take 5 Av (.take 6 Av (.take 7 Av (.take 8 Av (.take 9 Av (.take 10 Av (.take 11 Av (.take 12 Av (.take 13 Av (.take 14 Av (.take 15 Av (.take 16 Av (.take 17 Av (.take 18 Av (.take 19 Av (.take 20 Av .done)))))))))))))))))))))) (.cut ⟨[true],1,[],[(5,true)]⟩ (.seq (.txt []) (.cond (.txt []) .leaf)) (.seq (.txt []) .leaf))))
theorem HM (σ:Hp) (g_0 j_0:Int) (cap0 cap1:Option Addr) (R:Value→Hp→Prop) (h:Cw σ g_0 j_0 cap0 cap1 R):Ad Tryz.prog 197 #[(.agg #[(.int .i64 g_0),(.int .i64 j_0)]),(.pointer cap0),(.pointer cap1)] σ R :=
 Ac Bk Ho Tryz.func197 rfl (by kernel_rfl) (by kernel_rfl) (M:=Cw σ g_0 j_0 cap0 cap1 R) (by kernel_rfl) h
theorem F7:Am Tryz.prog 197=true:=by kernel_rfl
abbrev Cx:FuncId:=199
def CC (σ:Hp) (p_0 _ t_0 _:Int) (R:Value→Hp→Prop):Prop :=
 wk .i64 (p_0 - t_0) (fun n1=>rt σ R (.int .i64 n1))
def Hz:MAn:=(.seq (.txt []) (.seq (.txt []) .leaf))
theorem HF (σ:Hp) (p_0 e_1 t_0 f_1:Int) (R:Value→Hp→Prop) (h:CC σ p_0 e_1 t_0 f_1 R):Ad Tryz.prog 199 #[(.agg #[(.int .i64 p_0),(.int .i64 e_1)]),(.agg #[(.int .i64 t_0),(.int .i64 f_1)])] σ R :=
 Ac Bk Hz Tryz.func199 rfl (by kernel_rfl) (by kernel_rfl) (M:=CC σ p_0 e_1 t_0 f_1 R) (by kernel_rfl) h
end Go.Proofs.YthhadkggldcolaaGreat
