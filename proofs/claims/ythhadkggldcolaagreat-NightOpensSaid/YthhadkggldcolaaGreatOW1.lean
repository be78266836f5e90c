/- Trimmed by wip/trim.py to what this claim rests on. -/
import Derived.Test.YthhadkggldcolaaGreatOB11
namespace Go.Proofs.YthhadkggldcolaaGreat
set_option maxRecDepth 100000
open Go.RowKit
theorem KS:Tryz.prog.follows .mixedOrders=true:=by kernel_rfl
abbrev Qt:FuncId:=48
def FC (σ:Hp) (R:Value→Hp→Prop):Prop :=
 cl Tryz.prog (.func (.func 95) #[] #[]) #[] σ (fun v1 σ2=>∃ A3:Option Addr,∃ l3:Nat,∃ c3:Nat,∃ n4:Int,∃ A5:Option Addr,∃ l5:Nat,∃ c5:Nat,(v1=(.tuple #[(.agg #[(.slice A3 l3 c3),(.int .i64 n4)]),(.slice A5 l5 c5)]) ∧
  exl 3 [.int .i64] ([1]:List Int) σ2 (fun A6 l6 c6 σ7=>exl 3 [.int .i64] ([100,100]:List Int) σ7 (fun A8 l8 c8 σ9 =>
  exl 164 [.int .i64,.int .i64,.int .i64,.int .i64] ([((-1),20,2,100)]:List (Int×Int×Int×Int)) σ9 (fun A10 l10 c10 σ11 =>
  exl 166 [.int .i64,.int .i64,.int .i64,.int .i64] ([(0,0,15,0),(0,0,10,0)]:List (Int×Int×Int×Int)) σ11 (fun A12 l12 c12 σ13 =>
  exl 162 [.int .i64,.int .i64,.int .i64,.int .i64,.int .i64] ([(5,4,0,0,0),(5,4,1,0,0)]:List (Int×Int×Int×Int×Int)) σ13 (fun A14 l14 c14 σ15 =>
  exl 3 [.int .i64] ([60,60]:List Int) σ15 (fun A16 l16 c16 σ17=>exl 3 [.int .i64] ([2,0]:List Int) σ17 (fun A18 l18 c18 σ19 =>
  rt σ19 R (.tuple #[(.agg #[(.slice A3 l3 c3),(.int .i64 n4),(.slice none 0 0),(.slice A6 l6 c6),(.slice A8 l8 c8),(.slice A14 l14 c14),(.int .i64 5),(.slice A10 l10 c10),(.slice A12 l12 c12),(.int .i64 50),(.int .i64 5),(.int .i64 230),(.slice A16 l16 c16),(.slice A18 l18 c18)]),(.slice A5 l5 c5)]))))))))))
def MH:MAn:=(.seq (.txt []) (.seq (.txt []) (.seq (.txt []) .leaf)))
theorem Nt (σ:Hp) (R:Value→Hp→Prop) (h:FC σ  R):Ad Tryz.prog 48 #[] σ R :=
 Ac KS MH Tryz.func48 rfl (by kernel_rfl) (by kernel_rfl) (M:=FC σ  R) (by kernel_rfl) h
theorem Kz:Am Tryz.prog 48=true:=by kernel_rfl
abbrev MD:FuncId:=16
def Ht (σ:Hp) (R:Value→Hp→Prop):Prop :=
 cl Tryz.prog (.func (.func 48) #[] #[]) #[] σ (fun v1 σ2=>∃ A3:Option Addr,∃ l3:Nat,∃ c3:Nat,∃ n4:Int,∃ A5:Option Addr,∃ l5:Nat,∃ c5:Nat,∃ A6:Option Addr,∃ l6:Nat,∃ c6:Nat,∃ A7:Option Addr,∃ l7:Nat,∃ c7:Nat,∃ A8:Option Addr,∃ l8:Nat,∃ c8:Nat,∃ n9:Int,∃ A10:Option Addr,∃ l10:Nat,∃ c10:Nat,∃ A11:Option Addr,∃ l11:Nat,∃ c11:Nat,∃ n12:Int,∃ n13:Int,∃ n14:Int,∃ A15:Option Addr,∃ l15:Nat,∃ c15:Nat,∃ A16:Option Addr,∃ l16:Nat,∃ c16:Nat,∃ A17:Option Addr,∃ l17:Nat,∃ c17:Nat,(v1=(.tuple #[(.agg #[(.slice A3 l3 c3),(.int .i64 n4),(.slice A5 l5 c5),(.slice A6 l6 c6),(.slice A7 l7 c7),(.slice A8 l8 c8),(.int .i64 n9),(.slice A10 l10 c10),(.slice A11 l11 c11),(.int .i64 n12),(.int .i64 n13),(.int .i64 n14),(.slice A15 l15 c15),(.slice A16 l16 c16)]),(.slice A17 l17 c17)]) ∧
  cl Tryz.prog (.func (.func 18) #[] #[]) #[(.agg #[(.slice A3 l3 c3),(.int .i64 n4),(.slice A5 l5 c5),(.slice A6 l6 c6),(.slice A7 l7 c7),(.slice A8 l8 c8),(.int .i64 n9),(.slice A10 l10 c10),(.slice A11 l11 c11),(.int .i64 n12),(.int .i64 n13),(.int .i64 n14),(.slice A15 l15 c15),(.slice A16 l16 c16)])] σ2 (fun v18 σ19 =>
  ∃ A20:Option Addr,∃ l20:Nat,∃ c20:Nat,∃ n21:Int,(v18=(.tuple #[(.slice A20 l20 c20),(.int .i64 n21)]) ∧
  cl Tryz.prog (.func (.func 26) #[] #[]) #[(.agg #[(.slice A3 l3 c3),(.int .i64 n4),(.slice A5 l5 c5),(.slice A6 l6 c6),(.slice A7 l7 c7),(.slice A8 l8 c8),(.int .i64 n9),(.slice A10 l10 c10),(.slice A11 l11 c11),(.int .i64 n12),(.int .i64 n13),(.int .i64 n14),(.slice A15 l15 c15),(.slice A16 l16 c16)]),(.slice A17 l17 c17)] σ19 (fun v22 σ23 =>
  ∃ n24:Int,∃ n25:Int,(v22=(.tuple #[(.int .i64 n24),(.int .i64 n25)])∧bc (decide (n21=0)) (bc (decide (n25=0)) (bc (decide (((l20:Nat):Int)=1)) (ix A20 l20 0 1 (fun b26 a27 =>
  ldI σ23 .i64 b26 a27 (fun n28=>bc (decide (n28=0)) (rt σ23 R (.bool (decide (n24=5)))) (rt σ23 R (.bool false))))) (rt σ23 R (.bool false))) (rt σ23 R (.bool false))) (rt σ23 R (.bool false))))))))
def A0:OA:=⟨[],false,[]⟩
def PG:MAn:=(.seq (.txt []) (.seq (.txt []) (.seq (.txt []) (.seq (.txt []) (.seq (.txt [A0,A0,⟨[],true,[]⟩,A0,A0,A0,⟨[],true,[]⟩,A0,A0,A0,A0,⟨[],true,[]⟩,A0,A0,A0,A0,A0,⟨[],true,[]⟩]) .leaf)))))
theorem OZ (σ:Hp) (R:Value→Hp→Prop) (h:Ht σ  R):Ad Tryz.prog 16 #[] σ R :=
 Ac KS PG Tryz.func16 rfl (by kernel_rfl) (by kernel_rfl) (M:=Ht σ  R) (by kernel_rfl) h
theorem L1:Am Tryz.prog 16=true:=by kernel_rfl
abbrev UO:FuncId:=15
def LE (σ:Hp) (_:Option Addr) (a_0 _:Nat) (_:Int) (_:Option Addr) (j_0 _:Nat) (_:Option Addr) (i_0 _:Nat) (_:Option Addr) (c_0 _:Nat) (_:Option Addr) (w_0 _:Nat) (_:Int) (_:Option Addr) (b_0 _:Nat) (_:Option Addr) (d_0 _:Nat) (_ _ _:Int) (_:Option Addr) (x_0 _:Nat) (_:Option Addr) (a_1 _:Nat) (R:Value→Hp→Prop):Prop :=
 bc (decide ((10:Int) < ((a_0:Nat):Int))) (rt σ R (.bool true)) (bc (decide ((25:Int) < ((j_0:Nat):Int))) (rt σ R (.bool true)) (bc (decide ((12:Int) < ((i_0:Nat):Int))) (rt σ R (.bool true)) (bc (decide ((15:Int) < ((c_0:Nat):Int))) (rt σ R (.bool true)) (bc (decide ((60:Int) < ((w_0:Nat):Int))) (rt σ R (.bool true)) (bc (decide ((15:Int) < ((b_0:Nat):Int))) (rt σ R (.bool true)) (bc (decide ((20:Int) < ((d_0:Nat):Int))) (rt σ R (.bool true)) (bc (decide ((15:Int) < ((x_0:Nat):Int))) (rt σ R (.bool true)) (rt σ R (.bool (decide ((15:Int) < ((a_1:Nat):Int))))))))))))
def Ap:OA:=⟨[],false,[]⟩
def RB:MAn:=(.seq (.txt []) (.seq (.txt [Ap,Ap,Ap,Ap,Ap,⟨[],true,[]⟩,Ap,Ap,Ap,Ap,Ap,Ap,⟨[],true,[]⟩,Ap,Ap,Ap,Ap,Ap,Ap,⟨[],true,[]⟩,Ap,Ap,Ap,Ap,Ap,Ap,⟨[],true,[]⟩,Ap,Ap,Ap,Ap,Ap,⟨[],true,[]⟩,Ap,Ap,Ap,Ap,Ap,Ap,⟨[],true,[]⟩,Ap,Ap,Ap,Ap,Ap,Ap,⟨[],true,[]⟩,Ap,Ap,Ap,Ap,Ap,⟨[],true,[]⟩]) .leaf))
theorem RF (σ:Hp) (h_0:Option Addr) (a_0 e_0:Nat) (u_0:Int) (o_0:Option Addr) (j_0 t_0:Nat) (r_0:Option Addr) (i_0 q_0:Nat) (l_0:Option Addr) (c_0 m_0:Nat) (y_0:Option Addr) (w_0 z_0:Nat) (f_1:Int) (f_0:Option Addr) (b_0 g_0:Nat) (n_0:Option Addr) (d_0 k_0:Nat) (p_0 v_0 s_0:Int) (c_1:Option Addr) (x_0 b_1:Nat) (e_1:Option Addr) (a_1 d_1:Nat) (R:Value→Hp→Prop) (h:LE σ h_0 a_0 e_0 u_0 o_0 j_0 t_0 r_0 i_0 q_0 l_0 c_0 m_0 y_0 w_0 z_0 f_1 f_0 b_0 g_0 n_0 d_0 k_0 p_0 v_0 s_0 c_1 x_0 b_1 e_1 a_1 d_1 R):Ad Tryz.prog 15 #[(.agg #[(.slice h_0 a_0 e_0),(.int .i64 u_0),(.slice o_0 j_0 t_0),(.slice r_0 i_0 q_0),(.slice l_0 c_0 m_0),(.slice y_0 w_0 z_0),(.int .i64 f_1),(.slice f_0 b_0 g_0),(.slice n_0 d_0 k_0),(.int .i64 p_0),(.int .i64 v_0),(.int .i64 s_0),(.slice c_1 x_0 b_1),(.slice e_1 a_1 d_1)])] σ R :=
 Ac KS RB Tryz.func15 rfl (by kernel_rfl) (by kernel_rfl) (M:=LE σ h_0 a_0 e_0 u_0 o_0 j_0 t_0 r_0 i_0 q_0 l_0 c_0 m_0 y_0 w_0 z_0 f_1 f_0 b_0 g_0 n_0 d_0 k_0 p_0 v_0 s_0 c_1 x_0 b_1 e_1 a_1 d_1 R) (by kernel_rfl) h
theorem OK:Am Tryz.prog 15=true:=by kernel_rfl
abbrev OT:FuncId:=22
def Fb (σ:Hp) (a_A:Option Addr) (a_n _:Nat) (b_A:Option Addr) (b_n _:Nat) (R:Value→Hp→Prop):Prop :=
 bc (!decide (((a_n:Nat):Int)=((b_n:Nat):Int))) (rt σ R (.bool false)) (cut (α:=Hp→Prop) (fun  σ2 =>
  ∀ _:Nat→Value,rt σ2 R (.bool true)) (fun J3=>∃ I6:Nat→Int→Hp→Prop,(∃ n70,I6 n70 0 σ) ∧
  ∀ n7:Nat,∀ n8:Int,∀ σ5:Hp,I6 n7 n8 σ5→∀ _:Nat→Value,bc (decide (n8 < ((a_n:Nat):Int))) (ix a_A a_n n8 1 (fun b9 a10 =>
  ldI σ5 .i64 b9 a10 (fun n11=>ix b_A b_n n8 1 (fun b12 a13=>ldI σ5 .i64 b12 a13 (fun n14=>bc (!decide (n11=n14)) (rt σ5 R (.bool false)) (wk .i64 (n8 + 1) (fun n15 =>
  bk σ5 n7 (fun m16 σ17=>I6 m16 n15 σ17)))))))) (J3 σ5)))
def Bi:OA:=⟨[],false,[]⟩
def Ml:MAn:=(.seq (.txt []) (.seq (.seq (.txt []) (.cond (.seq (.txt []) .leaf) .leaf)) (.cut ⟨[],0,[],[]⟩ (.seq (.txt []) (.block (.loop ⟨[],0,[.slot 5 (.sc (.int .i64))],[(0,true),(1,true)]⟩ (.seq (.seq (.txt []) (.cond .leaf .leaf)) (.seq (.block (.seq (.plan [] (.take 0 Bi (.take 1 Bi (.take 2 Bi (.take 3 Bi (.take 4 Bi (.take 5 Bi (.take 6 Bi (.take 7 Bi (.take 8 Bi .done)))))))))) (.cond (.seq (.txt []) .leaf) .leaf))) (.txt [])))))) (.seq (.txt []) .leaf))))
theorem Mu (σ:Hp) (a_A:Option Addr) (a_n a_c:Nat) (b_A:Option Addr) (b_n b_c:Nat) (R:Value→Hp→Prop) (h:Fb σ a_A a_n a_c b_A b_n b_c R):Ad Tryz.prog 22 #[(.slice a_A a_n a_c),(.slice b_A b_n b_c)] σ R :=
 Ac KS Ml Tryz.func22 rfl (by kernel_rfl) (by kernel_rfl) (M:=Fb σ a_A a_n a_c b_A b_n b_c R) (by kernel_rfl) h
theorem JR:Am Tryz.prog 22=true:=by kernel_rfl
abbrev Bq:FuncId:=3
def DO (σ:Hp) (h_0:Option Addr) (a_0 e_0:Nat) (u_0:Int) (o_0:Option Addr) (j_0 t_0:Nat) (r_0:Option Addr) (i_0 q_0:Nat) (l_0:Option Addr) (c_0 m_0:Nat) (y_0:Option Addr) (w_0 z_0:Nat) (f_1:Int) (f_0:Option Addr) (b_0 g_0:Nat) (n_0:Option Addr) (d_0 k_0:Nat) (p_0 v_0 s_0:Int) (c_1:Option Addr) (x_0 b_1:Nat) (e_1:Option Addr) (a_1 d_1:Nat) (R:Value→Hp→Prop):Prop :=
 cl Tryz.prog (.func (.func 15) #[] #[]) #[(.agg #[(.slice h_0 a_0 e_0),(.int .i64 u_0),(.slice o_0 j_0 t_0),(.slice r_0 i_0 q_0),(.slice l_0 c_0 m_0),(.slice y_0 w_0 z_0),(.int .i64 f_1),(.slice f_0 b_0 g_0),(.slice n_0 d_0 k_0),(.int .i64 p_0),(.int .i64 v_0),(.int .i64 s_0),(.slice c_1 x_0 b_1),(.slice e_1 a_1 d_1)])] σ (fun v1 σ2 =>
  ∃ t3:Bool,(v1=(.bool t3)∧bc t3 (cl Tryz.prog (.func (.func 16) #[] #[]) #[] σ2 (fun v4 σ5=>∃ t6:Bool,(v4=(.bool t6) ∧
  rt σ5 R (.bool t6)))) (cl Tryz.prog (.func (.func 17) #[] #[]) #[(.agg #[(.slice h_0 a_0 e_0),(.int .i64 u_0),(.slice o_0 j_0 t_0),(.slice r_0 i_0 q_0),(.slice l_0 c_0 m_0),(.slice y_0 w_0 z_0),(.int .i64 f_1),(.slice f_0 b_0 g_0),(.slice n_0 d_0 k_0),(.int .i64 p_0),(.int .i64 v_0),(.int .i64 s_0),(.slice c_1 x_0 b_1),(.slice e_1 a_1 d_1)])] σ2 (fun v7 σ8 =>
  ∃ A9:Option Addr,∃ l9:Nat,∃ c9:Nat,∃ n10:Int,∃ A11:Option Addr,∃ l11:Nat,∃ c11:Nat,∃ A12:Option Addr,∃ l12:Nat,∃ c12:Nat,∃ A13:Option Addr,∃ l13:Nat,∃ c13:Nat,∃ A14:Option Addr,∃ l14:Nat,∃ c14:Nat,∃ n15:Int,∃ A16:Option Addr,∃ l16:Nat,∃ c16:Nat,∃ A17:Option Addr,∃ l17:Nat,∃ c17:Nat,∃ n18:Int,∃ n19:Int,∃ n20:Int,∃ A21:Option Addr,∃ l21:Nat,∃ c21:Nat,∃ A22:Option Addr,∃ l22:Nat,∃ c22:Nat,(v7=(.agg #[(.slice A9 l9 c9),(.int .i64 n10),(.slice A11 l11 c11),(.slice A12 l12 c12),(.slice A13 l13 c13),(.slice A14 l14 c14),(.int .i64 n15),(.slice A16 l16 c16),(.slice A17 l17 c17),(.int .i64 n18),(.int .i64 n19),(.int .i64 n20),(.slice A21 l21 c21),(.slice A22 l22 c22)]) ∧
  cl Tryz.prog (.func (.func 18) #[] #[]) #[(.agg #[(.slice A9 l9 c9),(.int .i64 n10),(.slice A11 l11 c11),(.slice A12 l12 c12),(.slice A13 l13 c13),(.slice A14 l14 c14),(.int .i64 n15),(.slice A16 l16 c16),(.slice A17 l17 c17),(.int .i64 n18),(.int .i64 n19),(.int .i64 n20),(.slice A21 l21 c21),(.slice A22 l22 c22)])] σ8 (fun v23 σ24 =>
  ∃ A25:Option Addr,∃ l25:Nat,∃ c25:Nat,∃ n26:Int,(v23=(.tuple #[(.slice A25 l25 c25),(.int .i64 n26)]) ∧
  cl Tryz.prog (.func (.func 19) #[] #[]) #[(.agg #[(.slice h_0 a_0 e_0),(.int .i64 u_0),(.slice o_0 j_0 t_0),(.slice r_0 i_0 q_0),(.slice l_0 c_0 m_0),(.slice y_0 w_0 z_0),(.int .i64 f_1),(.slice f_0 b_0 g_0),(.slice n_0 d_0 k_0),(.int .i64 p_0),(.int .i64 v_0),(.int .i64 s_0),(.slice c_1 x_0 b_1),(.slice e_1 a_1 d_1)])] σ24 (fun v27 σ28 =>
  ∃ A29:Option Addr,∃ l29:Nat,∃ c29:Nat,∃ n30:Int,(v27=(.tuple #[(.slice A29 l29 c29),(.int .i64 n30)]) ∧
  cut (α:=Hp→Prop) (fun  σ32=>∀ _:Nat→Value,bc (!decide (n26=0)) (cl Tryz.prog (.func (.func 16) #[] #[]) #[] σ32 (fun v34 σ35 =>
  ∃ t36:Bool,(v34=(.bool t36)∧rt σ35 R (.bool t36)))) (cl Tryz.prog (.func (.func 23) #[] #[]) #[(.agg #[(.slice A11 l11 c11),(.slice A12 l12 c12),(.slice A13 l13 c13)]),(.slice A14 l14 c14),(.int .i64 n15)] σ32 (fun v37 σ38 =>
  ∃ A39:Option Addr,∃ l39:Nat,∃ c39:Nat,∃ n40:Int,(v37=(.tuple #[(.slice A39 l39 c39),(.int .i64 n40)]) ∧
  bc (!decide (n40=0)) (rt σ38 R (.bool false)) (cut (α:=Int→Hp→Prop) (fun n44 σ42=>∀ _:Nat→Value,
  bc (decide (n44=((l25:Nat):Int))) (cl Tryz.prog (.func (.func 16) #[] #[]) #[] σ42 (fun v45 σ46 =>
  ∃ t47:Bool,(v45=(.bool t47)∧rt σ46 R (.bool t47)))) (rt σ42 R (.bool false))) (fun J43=>∃ I50:Nat→Int→Int→Int→Hp→Prop,(∃ n510,I50 n510 0 0 0 σ38) ∧
  ∀ n51:Nat,∀ n52:Int,∀ n53:Int,∀ n54:Int,∀ σ49:Hp,I50 n51 n52 n53 n54 σ49→∀ _:Nat→Value,bc (decide (n54 < ((l39:Nat):Int))) (cut (α:=Int→Int→Hp→Prop) (fun n58 n59 σ56 =>
  ∀ _:Nat→Value,wk .i64 (n54 + 1) (fun n60=>bk σ56 n51 (fun m61 σ62=>I50 m61 n58 n59 n60 σ62))) (fun J57 =>
  cut (α:=Hp→Prop) (fun  σ64=>∀ _:Nat→Value,ix A39 l39 n54 1 (fun b66 a67=>ldI σ64 .i64 b66 a67 (fun n68 =>
  wk .u64 (n68) (fun n69=>(0≤n69∧wk .i64 (1 * 2 ^ (min (n69:Int).toNat (IntKind.bits .i64))) (fun n70 =>
  wk .i64 (((BitVec.ofInt (IntKind.bits .i64) n52 ||| BitVec.ofInt (IntKind.bits .i64) n70).toNat:Int)) (fun n71 =>
  cl Tryz.prog (.func (.func 24) #[] #[]) #[(.agg #[(.slice A16 l16 c16),(.slice A17 l17 c17),(.int .i64 n18),(.int .i64 n19),(.int .i64 n20)]),(.int .i64 n71)] σ64 (fun v72 σ73 =>
  ∃ n74:Int,∃ t75:Bool,∃ n76:Int,(v72=(.tuple #[(.int .i64 n74),(.bool t75),(.int .i64 n76)]) ∧
  cut (α:=Bool→Hp→Prop) (fun t80 σ78=>∀ _:Nat→Value,cut (α:=Hp→Prop) (fun  σ82=>∀ _:Nat→Value,
  bc t80 (wk .i64 (n53 + 1) (fun n84=>J57 n71 n84 σ82)) (J57 n52 n53 σ82)) (fun J83=>cut (α:=Bool→Hp→Prop) (fun t88 σ86 =>
  ∀ _:Nat→Value,bc t88 (rt σ86 R (.bool false)) (J83 σ86)) (fun J87=>bc (!decide (n76=0)) (J87 true σ78) (J87 (!(t75 == t80)) σ78)))) (fun J79 =>
  bc (decide (n53 < ((l25:Nat):Int))) (ix A25 l25 n53 1 (fun b89 a90=>ldI σ73 .i64 b89 a90 (fun n91 =>
  ix A39 l39 n54 1 (fun b92 a93=>ldI σ73 .i64 b92 a93 (fun n94=>J79 (decide (n91=n94)) σ73))))) (J79 false σ73))))))))))) (fun J65 =>
  cut (α:=Bool→Hp→Prop) (fun t98 σ96=>∀ _:Nat→Value,bc t98 (rt σ96 R (.bool false)) (J65 σ96)) (fun J97 =>
  ix A39 l39 n54 1 (fun b99 a100=>ldI σ49 .i64 b99 a100 (fun n101=>bc (decide (n101 < 0)) (J97 true σ49) (ix A39 l39 n54 1 (fun b102 a103 =>
  ldI σ49 .i64 b102 a103 (fun n104=>J97 (decide (((a_0:Nat):Int)≤n104)) σ49))))))))) (J43 n53 σ49))))))) (fun J33 =>
  cut (α:=Bool→Hp→Prop) (fun t108 σ106=>∀ _:Nat→Value,bc t108 (rt σ106 R (.bool false)) (J33 σ106)) (fun J107 =>
  cl Tryz.prog (.func (.func 20) #[] #[]) #[(.agg #[(.slice A9 l9 c9),(.int .i64 n10),(.slice A11 l11 c11),(.slice A12 l12 c12),(.slice A13 l13 c13),(.slice A14 l14 c14),(.int .i64 n15),(.slice A16 l16 c16),(.slice A17 l17 c17),(.int .i64 n18),(.int .i64 n19),(.int .i64 n20),(.slice A21 l21 c21),(.slice A22 l22 c22)])] σ28 (fun v109 σ110 =>
  ∃ n111:Int,(v109=(.int .i64 n111)∧(Hp.Sub σ28 σ110∧cl Tryz.prog (.func (.func 21) #[] #[]) #[(.agg #[(.slice h_0 a_0 e_0),(.int .i64 u_0),(.slice o_0 j_0 t_0),(.slice r_0 i_0 q_0),(.slice l_0 c_0 m_0),(.slice y_0 w_0 z_0),(.int .i64 f_1),(.slice f_0 b_0 g_0),(.slice n_0 d_0 k_0),(.int .i64 p_0),(.int .i64 v_0),(.int .i64 s_0),(.slice c_1 x_0 b_1),(.slice e_1 a_1 d_1)])] σ110 (fun v112 σ113 =>
  ∃ n114:Int,(v112=(.int .i64 n114)∧bc (!decide (n111=n114)) (J107 true σ113) (cl Tryz.prog (.func (.func 22) #[] #[]) #[(.slice A25 l25 c25),(.slice A29 l29 c29)] σ113 (fun v115 σ116 =>
  ∃ t117:Bool,(v115=(.bool t117)∧bc (!t117) (J107 true σ116) (J107 (!decide (n26=n30)) σ116))))))))))))))))))))
def Ah:OA:=⟨[],false,[]⟩
def ES:MPlan:=(.take 6 Ah (.take 7 Ah (.take 8 Ah (.take 9 Ah (.take 10 Ah (.take 11 Ah (.take 12 Ah (.take 13 Ah (.take 14 Ah (.take 15 Ah .done))))))))))
def KB:MAn:=(.seq (.txt []) (.seq (.seq (.txt []) (.cond (.seq (.txt []) .leaf) .leaf)) (.seq (.txt []) (.seq (.txt []) (.seq (.txt []) (.cut ⟨[true,true],2,[.slot 1 (.hb 0 0),.slot 3 (.hb 1 0)],[(4,true),(5,true)]⟩ (.cut ⟨[true,true],2,[.slot 1 (.hb 0 0),.slot 3 (.hb 1 0),.slot 48 (.sc (.bool))],[(4,true),(5,true)]⟩ (.plan [3,8] (.take 0 Ah (.take 2 Ah (.alt 1 true Ah (.alt 3 false Ah (.take 4 Ah (.take 5 ⟨[],true,[]⟩ (.take 6 Ah (.take 7 Ah (.alt 8 false Ah (.take 9 Ah (.take 10 Ah (.take 11 ⟨[],true,[]⟩ (.take 12 Ah (.take 13 Ah (.take 14 Ah (.take 15 Ah .done))))))) .done))))) .done) .done)))) (.cond (.seq (.txt []) .leaf) .leaf)) (.seq (.seq (.txt []) (.cond (.seq (.txt []) .leaf) .leaf)) (.seq (.txt []) (.seq (.seq (.txt []) (.cond (.seq (.txt []) .leaf) .leaf)) (.seq (.txt []) (.seq (.txt []) (.cut ⟨[true,true],2,[.slot 11 (.sc (.int .i64))],[(4,true)]⟩ (.seq (.txt []) (.block (.loop ⟨[true,true],2,[.slot 1 (.hb 0 0),.slot 3 (.hb 1 0),.slot 10 (.sc (.int .i64)),.slot 11 (.sc (.int .i64)),.slot 12 (.sc (.int .i64))],[(4,true),(8,true)]⟩ (.seq (.seq (.txt []) (.cond .leaf .leaf)) (.cut ⟨[true,true],2,[.slot 1 (.hb 0 0),.slot 3 (.hb 1 0),.slot 10 (.sc (.int .i64)),.slot 11 (.sc (.int .i64))],[(4,true),(8,true),(12,true)]⟩ (.block (.cut ⟨[true,true],2,[.slot 1 (.hb 0 0),.slot 3 (.hb 1 0)],[(4,true),(8,true),(10,true),(11,true),(12,true)]⟩ (.cut ⟨[true,true],2,[.slot 1 (.hb 0 0),.slot 3 (.hb 1 0),.slot 85 (.sc (.bool))],[(4,true),(8,true),(10,true),(11,true),(12,true)]⟩ (.plan [] (.take 0 Ah (.take 1 Ah (.take 2 Ah (.take 3 Ah (.take 4 Ah (.take 5 ⟨[],true,[]⟩ ES))))))) (.cond (.seq (.txt []) .leaf) .leaf)) (.seq (.txt []) (.seq (.txt []) (.cut ⟨[true,true],2,[.slot 1 (.hb 0 0),.slot 3 (.hb 1 0),.slot 17 (.sc (.bool))],[(4,true),(8,true),(10,true),(11,true),(12,true),(13,true),(15,true),(16,true)]⟩ (.plan [] (.take 0 Ah (.take 1 Ah (.take 2 Ah (.take 3 Ah (.take 4 ⟨[],true,[]⟩ (.take 5 Ah ES))))))) (.cut ⟨[true,true],2,[.slot 1 (.hb 0 0),.slot 3 (.hb 1 0)],[(4,true),(8,true),(10,true),(11,true),(12,true),(13,true),(17,true)]⟩ (.cut ⟨[true,true],2,[.slot 1 (.hb 0 0),.slot 3 (.hb 1 0),.slot 123 (.sc (.bool))],[(4,true),(8,true),(10,true),(11,true),(12,true),(13,true),(17,true)]⟩ (.txt [Ah,Ah,⟨[],true,[]⟩]) (.cond (.seq (.txt []) .leaf) .leaf)) (.seq (.txt []) (.cond (.seq (.txt []) (.txt [])) .leaf)))))))) (.txt [])))))) (.seq (.txt [Ah,Ah,Ah,Ah,⟨[],true,[]⟩]) .leaf)))))))))))))
theorem Kn (σ:Hp) (h_0:Option Addr) (a_0 e_0:Nat) (u_0:Int) (o_0:Option Addr) (j_0 t_0:Nat) (r_0:Option Addr) (i_0 q_0:Nat) (l_0:Option Addr) (c_0 m_0:Nat) (y_0:Option Addr) (w_0 z_0:Nat) (f_1:Int) (f_0:Option Addr) (b_0 g_0:Nat) (n_0:Option Addr) (d_0 k_0:Nat) (p_0 v_0 s_0:Int) (c_1:Option Addr) (x_0 b_1:Nat) (e_1:Option Addr) (a_1 d_1:Nat) (R:Value→Hp→Prop) (h:DO σ h_0 a_0 e_0 u_0 o_0 j_0 t_0 r_0 i_0 q_0 l_0 c_0 m_0 y_0 w_0 z_0 f_1 f_0 b_0 g_0 n_0 d_0 k_0 p_0 v_0 s_0 c_1 x_0 b_1 e_1 a_1 d_1 R):Ad Tryz.prog 3 #[(.agg #[(.slice h_0 a_0 e_0),(.int .i64 u_0),(.slice o_0 j_0 t_0),(.slice r_0 i_0 q_0),(.slice l_0 c_0 m_0),(.slice y_0 w_0 z_0),(.int .i64 f_1),(.slice f_0 b_0 g_0),(.slice n_0 d_0 k_0),(.int .i64 p_0),(.int .i64 v_0),(.int .i64 s_0),(.slice c_1 x_0 b_1),(.slice e_1 a_1 d_1)])] σ R :=
 Ac KS KB Tryz.func3 rfl (by kernel_rfl) (by kernel_rfl) (M:=DO σ h_0 a_0 e_0 u_0 o_0 j_0 t_0 r_0 i_0 q_0 l_0 c_0 m_0 y_0 w_0 z_0 f_1 f_0 b_0 g_0 n_0 d_0 k_0 p_0 v_0 s_0 c_1 x_0 b_1 e_1 a_1 d_1 R) (by kernel_rfl) h
end Go.Proofs.YthhadkggldcolaaGreat
