/- Trimmed by wip/trim.py to what this claim rests on. -/
import Derived.Test.YthhadkggldcolaaGreatOB11
namespace Go.Proofs.YthhadkggldcolaaGreat
set_option maxRecDepth 100000
open Go.RowKit
theorem K5:Tryz.prog.follows .mixedOrders=true:=by kernel_rfl
abbrev OS:FuncId:=61
def Jv (σ:Hp) (n low high:Int) (R:Value→Hp→Prop):Prop :=
 bc (decide (low≤n)) (rt σ R (.bool (decide (n≤high)))) (rt σ R (.bool false))
def Qn:MAn:=(.seq (.txt []) (.seq (.txt [⟨[],false,[]⟩,⟨[],false,[]⟩,⟨[],false,[]⟩,⟨[],true,[]⟩]) .leaf))
theorem Q1 (σ:Hp) (n low high:Int) (R:Value→Hp→Prop) (h:Jv σ n low high R):Ad Tryz.prog 61 #[(.int .i64 n),(.int .i64 low),(.int .i64 high)] σ R :=
 Ac K5 Qn Tryz.func61 rfl (by kernel_rfl) (by kernel_rfl) (M:=Jv σ n low high R) (by kernel_rfl) h
theorem Nl:Am Tryz.prog 61=true:=by kernel_rfl
abbrev R6:FuncId:=21
def HQ (σ:Hp) (r_0:Option Addr) (a_0 q_0:Nat) (y_0:Int) (n_0:Option Addr) (o_0 x_0:Nat) (l_0:Option Addr) (j_0 w_0:Nat) (i_0:Option Addr) (f_0 s_0:Nat) (t_0:Option Addr) (u_0 v_0:Nat) (f_1:Int) (c_0:Option Addr) (b_0 e_0:Nat) (g_0:Option Addr) (d_0 h_0:Nat) (k_0 p_0 m_0:Int) (a_1:Option Addr) (z_0 _:Nat) (d_1:Option Addr) (b_1 _:Nat) (R:Value→Hp→Prop):Prop :=
 cl Tryz.prog (.func (.func 58) #[] #[]) #[(.agg #[(.slice r_0 a_0 q_0),(.int .i64 y_0)]),(.slice none 0 0)] σ (fun v1 σ2 =>
  ∃ n3:Int,(v1=(.int .i64 n3)∧bc (!decide (n3=0)) (rt σ2 R (.int .i64 n3)) (cl Tryz.prog (.func (.func 59) #[] #[]) #[(.agg #[(.slice n_0 o_0 x_0),(.slice l_0 j_0 w_0),(.slice i_0 f_0 s_0)]),(.slice t_0 u_0 v_0)] σ2 (fun v4 σ5 =>
  ∃ n6:Int,∃ n7:Int,(v4=(.tuple #[(.int .i64 n6),(.int .i64 n7)])∧bc (!decide (n7=0)) (rt σ5 R (.int .i64 n7)) (cl Tryz.prog (.func (.func 60) #[] #[]) #[(.agg #[(.slice c_0 b_0 e_0),(.slice g_0 d_0 h_0),(.int .i64 k_0),(.int .i64 p_0),(.int .i64 m_0)])] σ5 (fun v8 σ9 =>
  ∃ n10:Int,(v8=(.int .i64 n10)∧bc (!decide (n10=0)) (rt σ9 R (.int .i64 n10)) (cut (α:=Hp→Prop) (fun  σ12 =>
  ∀ _:Nat→Value,cut (α:=Hp→Prop) (fun  σ15=>∀ _:Nat→Value,rt σ15 R (.int .i64 0)) (fun J16 =>
  ∃ I19:Nat→Int→Hp→Prop,(∃ n200,I19 n200 0 σ12)∧∀ n20:Nat,∀ n21:Int,∀ σ18:Hp,I19 n20 n21 σ18→∀ _:Nat→Value,bc (decide (n21 < ((a_0:Nat):Int))) (cut (α:=Hp→Prop) (fun  σ23 =>
  ∀ _:Nat→Value,wk .i64 (n21 + 1) (fun n25=>bk σ23 n20 (fun m26 σ27=>I19 m26 n25 σ27))) (fun J24 =>
  cut (α:=Bool→Hp→Prop) (fun t31 σ29=>∀ _:Nat→Value,bc t31 (rt σ29 R (.int .i64 120)) (J24 σ29)) (fun J30 =>
  ix a_1 z_0 n21 1 (fun b32 a33=>ldI σ18 .i64 b32 a33 (fun n34=>cl Tryz.prog (.func (.func 61) #[] #[]) #[(.int .i64 n34),(.int .i64 0),(.int .i64 200)] σ18 (fun v35 σ36 =>
  ∃ t37:Bool,(v35=(.bool t37)∧bc (!t37) (J30 true σ36) (ix d_1 b_1 n21 1 (fun b38 a39 =>
  ldI σ36 .i64 b38 a39 (fun n40=>cl Tryz.prog (.func (.func 61) #[] #[]) #[(.int .i64 n40),(.int .i64 0),(.int .i64 100)] σ36 (fun v41 σ42 =>
  ∃ t43:Bool,(v41=(.bool t43)∧J30 (!t43) σ42)))))))))))) (J16 σ18))) (fun J13=>cut (α:=Bool→Hp→Prop) (fun t47 σ45 =>
  ∀ _:Nat→Value,bc t47 (rt σ45 R (.int .i64 120)) (J13 σ45)) (fun J46=>bc (!decide (((f_0:Nat):Int)=((a_0:Nat):Int))) (J46 true σ9) (bc (!decide (((d_0:Nat):Int)=((a_0:Nat):Int))) (J46 true σ9) (bc (!decide (((z_0:Nat):Int)=((a_0:Nat):Int))) (J46 true σ9) (bc (!decide (((b_1:Nat):Int)=((a_0:Nat):Int))) (J46 true σ9) (cl Tryz.prog (.func (.func 61) #[] #[]) #[(.int .i64 f_1),(.int .i64 0),(.int .i64 10000)] σ9 (fun v48 σ49 =>
  ∃ t50:Bool,(v48=(.bool t50)∧J46 (!t50) σ49)))))))))))))))))
def Aw:OA:=⟨[],false,[]⟩
def Pr:MAn:=(.seq (.txt []) (.seq (.txt []) (.seq (.seq (.txt []) (.cond (.seq (.txt []) .leaf) .leaf)) (.seq (.txt []) (.seq (.seq (.txt []) (.cond (.seq (.txt []) .leaf) .leaf)) (.seq (.txt []) (.seq (.seq (.txt []) (.cond (.seq (.txt []) .leaf) .leaf)) (.seq (.txt []) (.cut ⟨[true],1,[.slot 1 (.hb 0 0)],[(4,true)]⟩ (.cut ⟨[true],1,[.slot 1 (.hb 0 0),.slot 66 (.sc (.bool))],[(4,true)]⟩ (.txt [Aw,Aw,Aw,Aw,Aw,Aw,⟨[],true,[]⟩,Aw,Aw,Aw,Aw,Aw,Aw,Aw,⟨[],true,[]⟩,Aw,Aw,Aw,Aw,Aw,Aw,⟨[],true,[]⟩,Aw,Aw,Aw,Aw,Aw,Aw,⟨[],true,[]⟩]) (.cond (.seq (.txt []) .leaf) .leaf)) (.cut ⟨[true],1,[],[]⟩ (.seq (.txt []) (.block (.loop ⟨[true],1,[.slot 1 (.hb 0 0),.slot 5 (.sc (.int .i64))],[(4,true)]⟩ (.seq (.seq (.txt []) (.cond .leaf .leaf)) (.cut ⟨[true],1,[.slot 1 (.hb 0 0)],[(4,true),(5,true)]⟩ (.block (.cut ⟨[true],1,[.slot 1 (.hb 0 0),.slot 87 (.sc (.bool))],[(4,true),(5,true)]⟩ (.txt [Aw,Aw,Aw,Aw,Aw,Aw,Aw,⟨[],true,[]⟩]) (.cond (.seq (.txt []) .leaf) .leaf))) (.txt [])))))) (.seq (.txt []) .leaf)))))))))))
theorem PN (σ:Hp) (r_0:Option Addr) (a_0 q_0:Nat) (y_0:Int) (n_0:Option Addr) (o_0 x_0:Nat) (l_0:Option Addr) (j_0 w_0:Nat) (i_0:Option Addr) (f_0 s_0:Nat) (t_0:Option Addr) (u_0 v_0:Nat) (f_1:Int) (c_0:Option Addr) (b_0 e_0:Nat) (g_0:Option Addr) (d_0 h_0:Nat) (k_0 p_0 m_0:Int) (a_1:Option Addr) (z_0 c_1:Nat) (d_1:Option Addr) (b_1 e_1:Nat) (R:Value→Hp→Prop) (h:HQ σ r_0 a_0 q_0 y_0 n_0 o_0 x_0 l_0 j_0 w_0 i_0 f_0 s_0 t_0 u_0 v_0 f_1 c_0 b_0 e_0 g_0 d_0 h_0 k_0 p_0 m_0 a_1 z_0 c_1 d_1 b_1 e_1 R):Ad Tryz.prog 21 #[(.agg #[(.slice r_0 a_0 q_0),(.int .i64 y_0),(.slice n_0 o_0 x_0),(.slice l_0 j_0 w_0),(.slice i_0 f_0 s_0),(.slice t_0 u_0 v_0),(.int .i64 f_1),(.slice c_0 b_0 e_0),(.slice g_0 d_0 h_0),(.int .i64 k_0),(.int .i64 p_0),(.int .i64 m_0),(.slice a_1 z_0 c_1),(.slice d_1 b_1 e_1)])] σ R :=
 Ac K5 Pr Tryz.func21 rfl (by kernel_rfl) (by kernel_rfl) (M:=HQ σ r_0 a_0 q_0 y_0 n_0 o_0 x_0 l_0 j_0 w_0 i_0 f_0 s_0 t_0 u_0 v_0 f_1 c_0 b_0 e_0 g_0 d_0 h_0 k_0 p_0 m_0 a_1 z_0 c_1 d_1 b_1 e_1 R) (by kernel_rfl) h
theorem FS:Am Tryz.prog 21=true:=by kernel_rfl
abbrev TH:FuncId:=50
def Jj (σ:Hp) (_:Option Addr) (a_0 _:Nat) (_:Int) (n_0:Option Addr) (o_0 x_0:Nat) (l_0:Option Addr) (j_0 w_0:Nat) (i_0:Option Addr) (f_0 s_0:Nat) (t_0:Option Addr) (u_0 v_0:Nat) (f_1:Int) (c_0:Option Addr) (b_0 e_0:Nat) (g_0:Option Addr) (d_0 h_0:Nat) (k_0 p_0 m_0:Int) (_:Option Addr) (_ _:Nat) (_:Option Addr) (_ _:Nat) (R:Value→Hp→Prop):Prop :=
 (0≤((a_0:Nat):Int)∧((a_0:Nat):Int)≤((a_0:Nat):Int) ∧
  ((a_0:Nat):Int)≤(1000000000:Int)∧cl Tryz.prog (.func (.func 96) #[] #[]) #[(.agg #[(.slice n_0 o_0 x_0),(.slice l_0 j_0 w_0),(.slice i_0 f_0 s_0)]),(.slice t_0 u_0 v_0),(.int .i64 f_1)] σ (fun v1 σ2 =>
  ∃ A3:Option Addr,∃ l3:Nat,∃ c3:Nat,∃ n4:Int,(v1=(.tuple #[(.slice A3 l3 c3),(.int .i64 n4)]) ∧
  cut (α:=List Bool→Hp→Prop) (fun xs8 σ6=>∀ _:Nat→Value,exl 4 [.bool] xs8 σ6 (fun A9 l9 c9 σ10 =>
  rt σ10 R (.slice A9 l9 c9))) (fun J7=>∃ I13:Nat→Int→Int→List Bool→Hp→Prop,(∃ n140,I13 n140 0 0 (List.replicate (((a_0:Nat):Int):Int).toNat false:List Bool) σ2) ∧
  ∀ n14:Nat,∀ n15:Int,∀ n16:Int,∀ xs17:List Bool,∀ σ12:Hp,I13 n14 n15 n16 xs17 σ12→∀ _:Nat→Value,bc (decide (n16 < ((l3:Nat):Int))) (cut (α:=Int→List Bool→Hp→Prop) (fun n21 xs22 σ19 =>
  ∀ _:Nat→Value,wk .i64 (n16 + 1) (fun n23=>bk σ19 n14 (fun m24 σ25=>I13 m24 n21 n23 xs22 σ25))) (fun J20 =>
  ix A3 l3 n16 1 (fun b26 a27=>ldI σ12 .i64 b26 a27 (fun n28=>wk .u64 (n28) (fun n29=>(0≤n29 ∧
  wk .i64 (1 * 2 ^ (min (n29:Int).toNat (IntKind.bits .i64))) (fun n30=>wk .i64 (((BitVec.ofInt (IntKind.bits .i64) n15 ||| BitVec.ofInt (IntKind.bits .i64) n30).toNat:Int)) (fun n31 =>
  cl Tryz.prog (.func (.func 97) #[] #[]) #[(.agg #[(.slice c_0 b_0 e_0),(.slice g_0 d_0 h_0),(.int .i64 k_0),(.int .i64 p_0),(.int .i64 m_0)]),(.int .i64 n31)] σ12 (fun v32 σ33 =>
  ∃ n34:Int,∃ t35:Bool,∃ n36:Int,(v32=(.tuple #[(.int .i64 n34),(.bool t35),(.int .i64 n36)]) ∧
  bc t35 (wk .u64 (n28) (fun n37=>(0≤n37∧wk .i64 (1 * 2 ^ (min (n37:Int).toNat (IntKind.bits .i64))) (fun n38 =>
  wk .i64 (((BitVec.ofInt (IntKind.bits .i64) n15 ||| BitVec.ofInt (IntKind.bits .i64) n38).toNat:Int)) (fun n39 =>
  (0≤n28∧n28 < ((List.length xs17:Nat):Int)∧lat xs17 ((n28:Int).toNat) (fun _=>J20 n39 (List.set xs17 ((n28:Int).toNat) true) σ33))))))) (J20 n15 xs17 σ33))))))))))) (J7 xs17 σ12)))))
def QD:MAn:=(.seq (.txt []) (.seq (.txt []) (.seq (.txt []) (.seq (.txt []) (.cut ⟨[true,false],2,[.slot 3 (.hl 1 0),.modl 1 0 4 [.bool]],[]⟩ (.seq (.txt []) (.block (.loop ⟨[true,false],2,[.slot 1 (.hb 0 0),.slot 3 (.hl 1 0),.slot 6 (.sc (.int .i64)),.slot 7 (.sc (.int .i64)),.modl 1 0 4 [.bool]],[(4,true)]⟩ (.seq (.seq (.txt []) (.cond .leaf .leaf)) (.cut ⟨[true,false],2,[.slot 1 (.hb 0 0),.slot 3 (.hl 1 0),.slot 6 (.sc (.int .i64)),.modl 1 0 4 [.bool]],[(4,true),(7,true)]⟩ (.block (.seq (.txt []) (.seq (.txt []) (.seq (.txt []) (.cond (.seq (.txt []) (.txt [])) .leaf))))) (.txt [])))))) (.seq (.txt []) .leaf))))))
theorem QE (σ:Hp) (r_0:Option Addr) (a_0 q_0:Nat) (y_0:Int) (n_0:Option Addr) (o_0 x_0:Nat) (l_0:Option Addr) (j_0 w_0:Nat) (i_0:Option Addr) (f_0 s_0:Nat) (t_0:Option Addr) (u_0 v_0:Nat) (f_1:Int) (c_0:Option Addr) (b_0 e_0:Nat) (g_0:Option Addr) (d_0 h_0:Nat) (k_0 p_0 m_0:Int) (a_1:Option Addr) (z_0 c_1:Nat) (d_1:Option Addr) (b_1 e_1:Nat) (R:Value→Hp→Prop) (h:Jj σ r_0 a_0 q_0 y_0 n_0 o_0 x_0 l_0 j_0 w_0 i_0 f_0 s_0 t_0 u_0 v_0 f_1 c_0 b_0 e_0 g_0 d_0 h_0 k_0 p_0 m_0 a_1 z_0 c_1 d_1 b_1 e_1 R):Ad Tryz.prog 50 #[(.agg #[(.slice r_0 a_0 q_0),(.int .i64 y_0),(.slice n_0 o_0 x_0),(.slice l_0 j_0 w_0),(.slice i_0 f_0 s_0),(.slice t_0 u_0 v_0),(.int .i64 f_1),(.slice c_0 b_0 e_0),(.slice g_0 d_0 h_0),(.int .i64 k_0),(.int .i64 p_0),(.int .i64 m_0),(.slice a_1 z_0 c_1),(.slice d_1 b_1 e_1)])] σ R :=
 Ac K5 QD Tryz.func50 rfl (by kernel_rfl) (by kernel_rfl) (M:=Jj σ r_0 a_0 q_0 y_0 n_0 o_0 x_0 l_0 j_0 w_0 i_0 f_0 s_0 t_0 u_0 v_0 f_1 c_0 b_0 e_0 g_0 d_0 h_0 k_0 p_0 m_0 a_1 z_0 c_1 d_1 b_1 e_1 R) (by kernel_rfl) h
theorem NF:Am Tryz.prog 50=true:=by kernel_rfl
abbrev Ss:FuncId:=19
def HS (σ:Hp) (r_0:Option Addr) (a_0 q_0:Nat) (y_0:Int) (n_0:Option Addr) (o_0 x_0:Nat) (l_0:Option Addr) (j_0 w_0:Nat) (i_0:Option Addr) (f_0 s_0:Nat) (t_0:Option Addr) (u_0 v_0:Nat) (f_1:Int) (c_0:Option Addr) (b_0 e_0:Nat) (g_0:Option Addr) (d_0 h_0:Nat) (k_0 p_0 m_0:Int) (a_1:Option Addr) (z_0 c_1:Nat) (d_1:Option Addr) (b_1 e_1:Nat) (R:Value→Hp→Prop):Prop :=
 cl Tryz.prog (.func (.func 21) #[] #[]) #[(.agg #[(.slice r_0 a_0 q_0),(.int .i64 y_0),(.slice n_0 o_0 x_0),(.slice l_0 j_0 w_0),(.slice i_0 f_0 s_0),(.slice t_0 u_0 v_0),(.int .i64 f_1),(.slice c_0 b_0 e_0),(.slice g_0 d_0 h_0),(.int .i64 k_0),(.int .i64 p_0),(.int .i64 m_0),(.slice a_1 z_0 c_1),(.slice d_1 b_1 e_1)])] σ (fun v1 σ2 =>
  ∃ n3:Int,(v1=(.int .i64 n3)∧bc (!decide (n3=0)) (rt σ2 R (.tuple #[(.slice none 0 0),(.int .i64 n3)])) (cl Tryz.prog (.func (.func 50) #[] #[]) #[(.agg #[(.slice r_0 a_0 q_0),(.int .i64 y_0),(.slice n_0 o_0 x_0),(.slice l_0 j_0 w_0),(.slice i_0 f_0 s_0),(.slice t_0 u_0 v_0),(.int .i64 f_1),(.slice c_0 b_0 e_0),(.slice g_0 d_0 h_0),(.int .i64 k_0),(.int .i64 p_0),(.int .i64 m_0),(.slice a_1 z_0 c_1),(.slice d_1 b_1 e_1)])] σ2 (fun v4 σ5 =>
  ∃ A6:Option Addr,∃ l6:Nat,∃ c6:Nat,(v4=(.slice A6 l6 c6)∧cut (α:=Option Addr→Nat→Nat→Hp→Prop) (fun A10 l10 c10 σ8 =>
  ∀ _:Nat→Value,rt σ8 R (.tuple #[(.slice A10 l10 c10),(.int .i64 0)])) (fun J9=>∃ I13:Nat→Option Addr→Nat→Nat→Int→Hp→Prop,(∃ n140,I13 n140 none 0 0 0 σ5) ∧
  ∀ n14:Nat,∀ A15:Option Addr,∀ l15:Nat,∀ c15:Nat,∀ n16:Int,∀ σ12:Hp,I13 n14 A15 l15 c15 n16 σ12→∀ _:Nat→Value,bc (decide (n16 < ((l6:Nat):Int))) (cut (α:=Option Addr→Nat→Nat→Hp→Prop) (fun A20 l20 c20 σ18 =>
  ∀ _:Nat→Value,wk .i64 (n16 + 1) (fun n21=>bk σ18 n14 (fun m22 σ23=>I13 m22 A20 l20 c20 n21 σ23))) (fun J19 =>
  ix A6 l6 n16 1 (fun b24 a25=>ldB σ12 b24 a25 (fun t26=>bc t26 (adp 3 [.int .i64] A15 l15 c15 σ12 (fun (xs27:List Int) σ28 =>
  Be (List.length xs27 + List.length ([n16]:List Int)) (exl 3 [.int .i64] (xs27++([n16]:List Int)) σ28 (fun A29 l29 c29 σ30 =>
  J19 A29 l29 c29 σ30)))) (J19 A15 l15 c15 σ12))))) (J9 A15 l15 c15 σ12)))))))
def Pp:MAn:=(.seq (.txt []) (.seq (.txt []) (.seq (.seq (.txt []) (.cond (.seq (.txt []) .leaf) .leaf)) (.seq (.txt []) (.seq (.txt []) (.cut ⟨[true],1,[.slot 6 (.sc (.slc))],[]⟩ (.seq (.txt []) (.block (.loop ⟨[true],1,[.slot 6 (.sc (.slc)),.slot 7 (.sc (.int .i64))],[(5,true)]⟩ (.seq (.seq (.txt []) (.cond .leaf .leaf)) (.cut ⟨[true],1,[.slot 6 (.sc (.slc))],[(5,true),(7,true)]⟩ (.block (.seq (.txt []) (.cond (.txt []) .leaf))) (.txt [])))))) (.seq (.txt []) .leaf)))))))
theorem Pa (σ:Hp) (r_0:Option Addr) (a_0 q_0:Nat) (y_0:Int) (n_0:Option Addr) (o_0 x_0:Nat) (l_0:Option Addr) (j_0 w_0:Nat) (i_0:Option Addr) (f_0 s_0:Nat) (t_0:Option Addr) (u_0 v_0:Nat) (f_1:Int) (c_0:Option Addr) (b_0 e_0:Nat) (g_0:Option Addr) (d_0 h_0:Nat) (k_0 p_0 m_0:Int) (a_1:Option Addr) (z_0 c_1:Nat) (d_1:Option Addr) (b_1 e_1:Nat) (R:Value→Hp→Prop) (h:HS σ r_0 a_0 q_0 y_0 n_0 o_0 x_0 l_0 j_0 w_0 i_0 f_0 s_0 t_0 u_0 v_0 f_1 c_0 b_0 e_0 g_0 d_0 h_0 k_0 p_0 m_0 a_1 z_0 c_1 d_1 b_1 e_1 R):Ad Tryz.prog 19 #[(.agg #[(.slice r_0 a_0 q_0),(.int .i64 y_0),(.slice n_0 o_0 x_0),(.slice l_0 j_0 w_0),(.slice i_0 f_0 s_0),(.slice t_0 u_0 v_0),(.int .i64 f_1),(.slice c_0 b_0 e_0),(.slice g_0 d_0 h_0),(.int .i64 k_0),(.int .i64 p_0),(.int .i64 m_0),(.slice a_1 z_0 c_1),(.slice d_1 b_1 e_1)])] σ R :=
 Ac K5 Pp Tryz.func19 rfl (by kernel_rfl) (by kernel_rfl) (M:=HS σ r_0 a_0 q_0 y_0 n_0 o_0 x_0 l_0 j_0 w_0 i_0 f_0 s_0 t_0 u_0 v_0 f_1 c_0 b_0 e_0 g_0 d_0 h_0 k_0 p_0 m_0 a_1 z_0 c_1 d_1 b_1 e_1 R) (by kernel_rfl) h
theorem LT:Am Tryz.prog 19=true:=by kernel_rfl
abbrev Ti:FuncId:=17
def I1 (σ:Hp) (r_0:Option Addr) (a_0 q_0:Nat) (y_0:Int) (n_0:Option Addr) (o_0 _:Nat) (l_0:Option Addr) (j_0 _:Nat) (i_0:Option Addr) (f_0 _:Nat) (t_0:Option Addr) (u_0 v_0:Nat) (f_1:Int) (c_0:Option Addr) (b_0 e_0:Nat) (g_0:Option Addr) (d_0 h_0:Nat) (k_0 p_0 m_0:Int) (a_1:Option Addr) (z_0 c_1:Nat) (d_1:Option Addr) (b_1 e_1:Nat) (R:Value→Hp→Prop):Prop :=
 cl Tryz.prog (.func (.func 34) #[] #[]) #[(.agg #[(.slice r_0 a_0 q_0),(.int .i64 y_0)])] σ (fun v1 σ2 =>
  ∃ A3:Option Addr,∃ l3:Nat,∃ c3:Nat,∃ n4:Int,(v1=(.agg #[(.slice A3 l3 c3),(.int .i64 n4)]) ∧
  cut (α:=Option Addr→Nat→Nat→Int→Option Addr→Nat→Nat→Option Addr→Nat→Nat→Option Addr→Nat→Nat→Option Addr→Nat→Nat→Int→Option Addr→Nat→Nat→Option Addr→Nat→Nat→Int→Int→Int→Option Addr→Nat→Nat→Option Addr→Nat→Nat→Hp→Prop) (fun A8 l8 c8 n9 A10 l10 c10 A11 l11 c11 A12 l12 c12 _ _ _ n14 _ _ _ _ _ _ n17 n18 n19 _ _ _ _ _ _ σ6 =>
  ∀ _:Nat→Value,∃ ys22:List (Int×Int×Int×Int×Int),RdS [.int .i64,.int .i64,.int .i64,.int .i64,.int .i64] σ6 t_0 u_0 ys22 ∧
  Be (List.length ([]:List (Int×Int×Int×Int×Int)) + List.length ys22) (∃ ys23:List (Int×Int×Int×Int),RdS [.int .i64,.int .i64,.int .i64,.int .i64] σ6 c_0 b_0 ys23 ∧
  Be (List.length ([]:List (Int×Int×Int×Int)) + List.length ys23) (∃ ys24:List (Int×Int×Int×Int),RdS [.int .i64,.int .i64,.int .i64,.int .i64] σ6 g_0 d_0 ys24 ∧
  Be (List.length ([]:List (Int×Int×Int×Int)) + List.length ys24) (∃ ys25:List Int,RdS [.int .i64] σ6 a_1 z_0 ys25 ∧
  Be (List.length ([]:List Int) + List.length ys25) (∃ ys26:List Int,RdS [.int .i64] σ6 d_1 b_1 ys26 ∧
  Be (List.length ([]:List Int) + List.length ys26) (exl 162 [.int .i64,.int .i64,.int .i64,.int .i64,.int .i64] (([]:List (Int×Int×Int×Int×Int))++ys22) σ6 (fun A27 l27 c27 σ28 =>
  exl 164 [.int .i64,.int .i64,.int .i64,.int .i64] (([]:List (Int×Int×Int×Int))++ys23) σ28 (fun A29 l29 c29 σ30 =>
  exl 166 [.int .i64,.int .i64,.int .i64,.int .i64] (([]:List (Int×Int×Int×Int))++ys24) σ30 (fun A31 l31 c31 σ32 =>
  exl 3 [.int .i64] (([]:List Int)++ys25) σ32 (fun A33 l33 c33 σ34=>exl 3 [.int .i64] (([]:List Int)++ys26) σ34 (fun A35 l35 c35 σ36 =>
  rt σ36 R (.agg #[(.slice A8 l8 c8),(.int .i64 n9),(.slice A10 l10 c10),(.slice A11 l11 c11),(.slice A12 l12 c12),(.slice A27 l27 c27),(.int .i64 n14),(.slice A29 l29 c29),(.slice A31 l31 c31),(.int .i64 n17),(.int .i64 n18),(.int .i64 n19),(.slice A33 l33 c33),(.slice A35 l35 c35)])))))))))))) (fun J7 =>
  ((∃ ys37:List (Int×Int×Int×Bool),RdS [.int .i64,.int .i64,.int .i64,.bool] σ2 n_0 o_0 ys37 ∧
  Be (List.length ([]:List (Int×Int×Int×Bool)) + List.length ys37) (((∃ ys38:List Int,RdS [.int .i64] σ2 l_0 j_0 ys38 ∧
  Be (List.length ([]:List Int) + List.length ys38) (∃ ys39:List Int,RdS [.int .i64] σ2 i_0 f_0 ys39 ∧
  Be (List.length ([]:List Int) + List.length ys39) (exl 249 [.int .i64,.int .i64,.int .i64,.bool] (([]:List (Int×Int×Int×Bool))++ys37) σ2 (fun A40 l40 c40 σ41 =>
  exl 3 [.int .i64] (([]:List Int)++ys38) σ41 (fun A42 l42 c42 σ43=>exl 3 [.int .i64] (([]:List Int)++ys39) σ43 (fun A44 l44 c44 σ45 =>
  J7 A3 l3 c3 n4 A40 l40 c40 A42 l42 c42 A44 l44 c44 t_0 u_0 v_0 f_1 c_0 b_0 e_0 g_0 d_0 h_0 k_0 p_0 m_0 a_1 z_0 c_1 d_1 b_1 e_1 σ45)))))) ∧
  (∃ ys46:List Int,RdS [.int .i64] σ2 l_0 j_0 ys46∧Be (List.length ([]:List Int) + List.length ys46) (∃ ys47:List Int,RdS [.int .i64] σ2 i_0 f_0 ys47 ∧
  Be (List.length ([]:List Int) + List.length ys47) (exl 249 [.int .i64,.int .i64,.int .i64,.bool] (([]:List (Int×Int×Int×Bool))++ys37) σ2 (fun A48 l48 c48 σ49 =>
  exl 3 [.int .i64] (([]:List Int)++ys46) σ49 (fun A50 l50 c50 σ51=>exl 3 [.int .i64] (([]:List Int)++ys47) σ51 (fun A52 l52 c52 σ53 =>
  J7 A3 l3 c3 n4 A48 l48 c48 A50 l50 c50 A52 l52 c52 t_0 u_0 v_0 f_1 c_0 b_0 e_0 g_0 d_0 h_0 k_0 p_0 m_0 a_1 z_0 c_1 d_1 b_1 e_1 σ53))))))))) ∧
  ((∃ ys54:List (Int×Int×Int×Bool),RdS [.int .i64,.int .i64,.int .i64,.bool] σ2 n_0 o_0 ys54 ∧
  Be (List.length ([]:List (Int×Int×Int×Bool)) + List.length ys54) (((∃ ys55:List Int,RdS [.int .i64] σ2 l_0 j_0 ys55 ∧
  Be (List.length ([]:List Int) + List.length ys55) (∃ ys56:List Int,RdS [.int .i64] σ2 i_0 f_0 ys56 ∧
  Be (List.length ([]:List Int) + List.length ys56) (exl 249 [.int .i64,.int .i64,.int .i64,.bool] (([]:List (Int×Int×Int×Bool))++ys54) σ2 (fun A57 l57 c57 σ58 =>
  exl 3 [.int .i64] (([]:List Int)++ys55) σ58 (fun A59 l59 c59 σ60=>exl 3 [.int .i64] (([]:List Int)++ys56) σ60 (fun A61 l61 c61 σ62 =>
  J7 A3 l3 c3 n4 A57 l57 c57 A59 l59 c59 A61 l61 c61 t_0 u_0 v_0 f_1 c_0 b_0 e_0 g_0 d_0 h_0 k_0 p_0 m_0 a_1 z_0 c_1 d_1 b_1 e_1 σ62)))))) ∧
  (∃ ys63:List Int,RdS [.int .i64] σ2 l_0 j_0 ys63∧Be (List.length ([]:List Int) + List.length ys63) (∃ ys64:List Int,RdS [.int .i64] σ2 i_0 f_0 ys64 ∧
  Be (List.length ([]:List Int) + List.length ys64) (exl 249 [.int .i64,.int .i64,.int .i64,.bool] (([]:List (Int×Int×Int×Bool))++ys54) σ2 (fun A65 l65 c65 σ66 =>
  exl 3 [.int .i64] (([]:List Int)++ys63) σ66 (fun A67 l67 c67 σ68=>exl 3 [.int .i64] (([]:List Int)++ys64) σ68 (fun A69 l69 c69 σ70 =>
  J7 A3 l3 c3 n4 A65 l65 c65 A67 l67 c67 A69 l69 c69 t_0 u_0 v_0 f_1 c_0 b_0 e_0 g_0 d_0 h_0 k_0 p_0 m_0 a_1 z_0 c_1 d_1 b_1 e_1 σ70))))))))) ∧
  (∃ ys71:List (Int×Int×Int×Bool),RdS [.int .i64,.int .i64,.int .i64,.bool] σ2 n_0 o_0 ys71 ∧
  Be (List.length ([]:List (Int×Int×Int×Bool)) + List.length ys71) (∃ ys72:List Int,RdS [.int .i64] σ2 l_0 j_0 ys72 ∧
  Be (List.length ([]:List Int) + List.length ys72) (∃ ys73:List Int,RdS [.int .i64] σ2 i_0 f_0 ys73 ∧
  Be (List.length ([]:List Int) + List.length ys73) (exl 249 [.int .i64,.int .i64,.int .i64,.bool] (([]:List (Int×Int×Int×Bool))++ys71) σ2 (fun A74 l74 c74 σ75 =>
  exl 3 [.int .i64] (([]:List Int)++ys72) σ75 (fun A76 l76 c76 σ77=>exl 3 [.int .i64] (([]:List Int)++ys73) σ77 (fun A78 l78 c78 σ79 =>
  J7 A3 l3 c3 n4 A74 l74 c74 A76 l76 c76 A78 l78 c78 t_0 u_0 v_0 f_1 c_0 b_0 e_0 g_0 d_0 h_0 k_0 p_0 m_0 a_1 z_0 c_1 d_1 b_1 e_1 σ79)))))))) ∧
  ((∃ ys80:List (Int×Int×Int×Bool),RdS [.int .i64,.int .i64,.int .i64,.bool] σ2 n_0 o_0 ys80 ∧
  Be (List.length ([]:List (Int×Int×Int×Bool)) + List.length ys80) (∃ ys81:List Int,RdS [.int .i64] σ2 l_0 j_0 ys81 ∧
  Be (List.length ([]:List Int) + List.length ys81) (∃ ys82:List Int,RdS [.int .i64] σ2 i_0 f_0 ys82 ∧
  Be (List.length ([]:List Int) + List.length ys82) (exl 249 [.int .i64,.int .i64,.int .i64,.bool] (([]:List (Int×Int×Int×Bool))++ys80) σ2 (fun A83 l83 c83 σ84 =>
  exl 3 [.int .i64] (([]:List Int)++ys81) σ84 (fun A85 l85 c85 σ86=>exl 3 [.int .i64] (([]:List Int)++ys82) σ86 (fun A87 l87 c87 σ88 =>
  J7 A3 l3 c3 n4 A83 l83 c83 A85 l85 c85 A87 l87 c87 t_0 u_0 v_0 f_1 c_0 b_0 e_0 g_0 d_0 h_0 k_0 p_0 m_0 a_1 z_0 c_1 d_1 b_1 e_1 σ88))))))) ∧
  (∃ ys89:List (Int×Int×Int×Bool),RdS [.int .i64,.int .i64,.int .i64,.bool] σ2 n_0 o_0 ys89 ∧
  Be (List.length ([]:List (Int×Int×Int×Bool)) + List.length ys89) (∃ ys90:List Int,RdS [.int .i64] σ2 l_0 j_0 ys90 ∧
  Be (List.length ([]:List Int) + List.length ys90) (∃ ys91:List Int,RdS [.int .i64] σ2 i_0 f_0 ys91 ∧
  Be (List.length ([]:List Int) + List.length ys91) (exl 249 [.int .i64,.int .i64,.int .i64,.bool] (([]:List (Int×Int×Int×Bool))++ys89) σ2 (fun A92 l92 c92 σ93 =>
  exl 3 [.int .i64] (([]:List Int)++ys90) σ93 (fun A94 l94 c94 σ95=>exl 3 [.int .i64] (([]:List Int)++ys91) σ95 (fun A96 l96 c96 σ97 =>
  J7 A3 l3 c3 n4 A92 l92 c92 A94 l94 c94 A96 l96 c96 t_0 u_0 v_0 f_1 c_0 b_0 e_0 g_0 d_0 h_0 k_0 p_0 m_0 a_1 z_0 c_1 d_1 b_1 e_1 σ97))))))))))))
def Az:OA:=⟨[],false,[]⟩
def Cu:MPlan:=(.alt 14 false Az (.take 15 Az (.take 16 Az (.alt 17 false Az .done .done))) .done)
def JW:MPlan:=(.alt 9 false Az (.take 13 Az Cu) (.alt 13 true Az (.alt 9 false Az Cu .done) .done))
def QB:MAn:=(.seq (.txt []) (.seq (.txt []) (.seq (.txt []) (.cut ⟨[true,true,false],3,[.slot 1 (.hb 0 0),.slot 2 (.hb 1 0),.slot 3 (.hb 2 0),.modb 2 35 [.sc (.slc),.sc (.int .i64),.sc (.slc),.sc (.slc),.sc (.slc),.sc (.slc),.sc (.int .i64),.sc (.slc),.sc (.slc),.sc (.int .i64),.sc (.int .i64),.sc (.int .i64),.sc (.slc),.sc (.slc)]],[]⟩ (.plan [4,9,14,17] (.take 1 Az (.take 2 Az (.take 3 Az (.take 6 Az (.take 7 Az (.take 11 Az (.take 12 Az (.new 0 Az (.new 5 Az (.new 10 Az (.alt 4 false Az (.take 8 Az JW) (.alt 8 true Az (.alt 4 false Az JW (.alt 13 true Az (.alt 4 false Az (.alt 9 false Az Cu .done) .done) .done)) (.alt 13 true Az (.alt 4 false Az (.take 8 Az (.alt 9 false Az Cu .done)) (.alt 8 true Az (.alt 4 false Az (.alt 9 false Az Cu .done) .done) .done)) .done)))))))))))))) (.seq (.txt []) (.seq (.txt []) (.seq (.txt []) (.seq (.txt []) (.seq (.txt []) (.seq (.txt []) .leaf))))))))))
theorem QL (σ:Hp) (r_0:Option Addr) (a_0 q_0:Nat) (y_0:Int) (n_0:Option Addr) (o_0 x_0:Nat) (l_0:Option Addr) (j_0 w_0:Nat) (i_0:Option Addr) (f_0 s_0:Nat) (t_0:Option Addr) (u_0 v_0:Nat) (f_1:Int) (c_0:Option Addr) (b_0 e_0:Nat) (g_0:Option Addr) (d_0 h_0:Nat) (k_0 p_0 m_0:Int) (a_1:Option Addr) (z_0 c_1:Nat) (d_1:Option Addr) (b_1 e_1:Nat) (R:Value→Hp→Prop) (h:I1 σ r_0 a_0 q_0 y_0 n_0 o_0 x_0 l_0 j_0 w_0 i_0 f_0 s_0 t_0 u_0 v_0 f_1 c_0 b_0 e_0 g_0 d_0 h_0 k_0 p_0 m_0 a_1 z_0 c_1 d_1 b_1 e_1 R):Ad Tryz.prog 17 #[(.agg #[(.slice r_0 a_0 q_0),(.int .i64 y_0),(.slice n_0 o_0 x_0),(.slice l_0 j_0 w_0),(.slice i_0 f_0 s_0),(.slice t_0 u_0 v_0),(.int .i64 f_1),(.slice c_0 b_0 e_0),(.slice g_0 d_0 h_0),(.int .i64 k_0),(.int .i64 p_0),(.int .i64 m_0),(.slice a_1 z_0 c_1),(.slice d_1 b_1 e_1)])] σ R :=
 Ac K5 QB Tryz.func17 rfl (by kernel_rfl) (by kernel_rfl) (M:=I1 σ r_0 a_0 q_0 y_0 n_0 o_0 x_0 l_0 j_0 w_0 i_0 f_0 s_0 t_0 u_0 v_0 f_1 c_0 b_0 e_0 g_0 d_0 h_0 k_0 p_0 m_0 a_1 z_0 c_1 d_1 b_1 e_1 R) (by kernel_rfl) h
theorem MY:Am Tryz.prog 17=true:=by kernel_rfl
end Go.Proofs.YthhadkggldcolaaGreat
