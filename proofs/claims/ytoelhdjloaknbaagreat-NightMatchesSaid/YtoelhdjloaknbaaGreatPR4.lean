/- Trimmed by wip/trim.py to what this claim rests on. -/
import Derived.Test.YtoelhdjloaknbaaGreatPB11
namespace Go.Proofs.YtoelhdjloaknbaaGreat
set_option maxRecDepth 100000
open Go.RowKit
def tkPR4:Nat->Nat->OA->MPlan->MPlan
 |0,_,_,x=>x
 |n+1,i,a,x=>.take i a (tkPR4 n (i+1) a x)
theorem KL:Tryz.prog.follows .mixedOrders=true:=by kernel_rfl
abbrev Nm:FuncId:=40
def Je (σ:Hp) (n low high:Int) (R:Value->Hp->Prop):Prop:=
 bc (decide (low<=n)) (rt σ R (.bool (decide (n<=high)))) (rt σ R (.bool false))
def PF:MAn:=(.seq (.txt []) (.seq (.txt [⟨[],false,[]⟩,⟨[],false,[]⟩,⟨[],false,[]⟩,⟨[],true,[]⟩]) .leaf))
theorem Pp (σ:Hp) (n low high:Int) (R:Value->Hp->Prop) (h:Je σ n low high R):Ad Tryz.prog 40 #[.int .i64 n,.int .i64 low,.int .i64 high] σ R:=
 Ac KL PF Tryz.func40 rfl (by kernel_rfl) (by kernel_rfl) (by kernel_rfl) h
theorem Mq:Ao Tryz.prog 40=true:=by kernel_rfl
abbrev O7:FuncId:=17
def KQ (σ:Hp) (_ _ e0 _ _ c0:Int) (R:Value->Hp->Prop):Prop:=
 cut (α:=Int->Hp->Prop) (fun n4 σ2=>∀ _:Nat->Value,bc (decide ((3:Int)<=n4)) (wk .i64 (((BitVec.ofInt (IntKind.bits .i64) c0 &&& BitVec.ofInt (IntKind.bits .i64) e0).toNat:Int)) (fun n5=>
  rt σ2 R (.bool (decide (n5=c0))))) (rt σ2 R (.bool false))) (fun J3=>∃ I8:Nat->Int->Int->Hp->Prop,(∃ n90,I8 n90 0 0 σ) /\
  ∀ n9:Nat,∀ n10 n11:Int,∀ σ7:Hp,I8 n9 n10 n11 σ7->∀ _:Nat->Value,bc (decide (n11<12)) (wk .u64 (n11) (fun n12=>
  (0<=n12/\wk .i64 (((BitVec.ofInt (IntKind.bits .i64) (Int.fdiv c0 (2^(min (n12:Int).toNat (IntKind.bits .i64)))) &&& BitVec.ofInt (IntKind.bits .i64) 1).toNat:Int)) (fun n13=>
  wk .i64 (n10+n13) (fun n14=>wk .i64 (n11+1) (fun n15=>bk σ7 n9 (fun m16 σ17=>I8 m16 n14 n15 σ17))))))) (J3 n10 σ7))
def QF:MAn:=(.seq (.txt []) (.seq (.txt []) (.cut ⟨[true,true],2,[.slot 2 (.hb 0 0),.slot 3 (.hb 1 0),.slot 5 (.sc (.int .i64))],[]⟩ (.seq (.txt []) (.block (.loop ⟨[true,true],2,[.slot 2 (.hb 0 0),.slot 3 (.hb 1 0),.slot 5 (.sc (.int .i64)),.slot 6 (.sc (.int .i64))],[]⟩ (.seq (.seq (.txt []) (.cond .leaf .leaf)) (.seq (.block (.txt [])) (.txt [])))))) (.seq (.txt [⟨[],false,[]⟩,⟨[],false,[]⟩,⟨[],true,[]⟩]) .leaf))))
theorem Qp (σ:Hp) (i0 g0 e0 h0 f0 c0:Int) (R:Value->Hp->Prop) (h:KQ σ i0 g0 e0 h0 f0 c0 R):Ad Tryz.prog 17 #[(.agg #[.int .i64 i0,.int .i64 g0,.int .i64 e0]),(.agg #[.int .i64 h0,.int .i64 f0,.int .i64 c0])] σ R:=
 Ac KL QF Tryz.func17 rfl (by kernel_rfl) (by kernel_rfl) (by kernel_rfl) h
theorem Na:Ao Tryz.prog 17=true:=by kernel_rfl
abbrev Q4:FuncId:=16
def Hx (σ:Hp) (l_A:Option Addr) (l_n l_c:Nat) (R:Value->Hp->Prop):Prop:=
 bc (decide ((60:Int)<((l_n:Nat):Int))) (rt σ R (.tuple #[.slice none 0 0,.int .i64 2])) (cut (α:=Hp->Prop) (fun  σ2=>
  ∀ _:Nat->Value,(0<=((l_n:Nat):Int)/\((l_n:Nat):Int)<=((l_n:Nat):Int)/\((l_n:Nat):Int)<=(1000000000:Int) /\
  cut (α:=Option Addr->Nat->Nat->Hp->Prop) (fun A7 l7 c7 σ5=>∀ _:Nat->Value,rt σ5 R (.tuple #[.slice A7 l7 c7,.int .i64 0])) (fun J6=>
  ∃ I10:Nat->Option Addr->Nat->Nat->List Bool->Int->Hp->Prop,(∃ n110,I10 n110 none 0 0 (List.replicate (((l_n:Nat):Int):Int).toNat false:List Bool) 0 σ2) /\
  ∀ n11:Nat,∀ A12:Option Addr,∀ l12 c12:Nat,∀ xs13:List Bool,∀ n14:Int,∀ σ9:Hp,I10 n11 A12 l12 c12 xs13 n14 σ9->∀ _:Nat->Value,bc (decide (n14<((l_n:Nat):Int))) (cut (α:=Option Addr->Nat->Nat->List Bool->Hp->Prop) (fun A18 l18 c18 xs19 σ16=>
  ∀ _:Nat->Value,wk .i64 (n14+1) (fun n20=>bk σ16 n11 (fun m21 σ22=>I10 m21 A18 l18 c18 xs19 n20 σ22))) (fun J17=>
  (0<=n14/\n14<((List.length xs13:Nat):Int)/\lat xs13 ((n14:Int).toNat) (fun _=>∃ I26:Nat->Option Addr->Nat->Nat->List Bool->Hp->Prop,(∃ n270,I26 n270 A12 l12 c12 (List.set xs13 ((n14:Int).toNat) true) σ9) /\
  ∀ n27:Nat,∀ A28:Option Addr,∀ l28 c28:Nat,∀ xs29:List Bool,∀ σ25:Hp,I26 n27 A28 l28 c28 xs29 σ25->∀ _:Nat->Value,exl 4 [.bool] xs29 σ25 (fun A30 l30 c30 σ31=>
  cl Tryz.prog (.func (.func 44) #[] #[]) #[.slice l_A l_n l_c,.slice A30 l30 c30] σ31 (fun v32 σ33=>
  ∃ n34 n35:Int,(v32=(.tuple #[.int .i64 n34,.int .i64 n35])/\adp 4 [.bool] A30 l30 c30 σ33 (fun (xs36:List Bool) σ37=>
  bc (decide (n34<0)) (J17 A28 l28 c28 xs36 σ37) ((0<=n34/\n34<((List.length xs36:Nat):Int) /\
  lat xs36 ((n34:Int).toNat) (fun _=>(0<=n35/\n35<((List.length (List.set xs36 ((n34:Int).toNat) false):Nat):Int) /\
  lat (List.set xs36 ((n34:Int).toNat) false) ((n35:Int).toNat) (fun _=>ix l_A l_n n14 3 (fun b40 a41=>
  ldI σ37 .i64 b40 a41 (fun n42=>adp 51 [.int .i64,.int .i64,.int .i64] A28 l28 c28 σ37 (fun (xs43:List (Int×Int×Int)) σ44=>
  B2 (List.length xs43+List.length ([(n34,n35,n42)]:List (Int×Int×Int))) (bk σ44 n27 (fun m45 σ46=>
  exl 51 [.int .i64,.int .i64,.int .i64] (xs43++([(n34,n35,n42)]:List (Int×Int×Int))) σ46 (fun A47 l47 c47 σ48=>
  I26 m45 A47 l47 c47 (List.set (List.set xs36 ((n34:Int).toNat) false) ((n35:Int).toNat) false) σ48))))))))))))))))))) (J6 A12 l12 c12 σ9)))) (fun J3=>
  ∃ I51:Nat->Int->Int->Hp->Prop,(∃ n520,I51 n520 0 0 σ)/\∀ n52:Nat,∀ n53 n54:Int,∀ σ50:Hp,I51 n52 n53 n54 σ50->∀ _:Nat->Value,bc (decide (n54<((l_n:Nat):Int))) (cut (α:=Int->Hp->Prop) (fun n58 σ56=>
  ∀ _:Nat->Value,wk .i64 (n54+1) (fun n59=>bk σ56 n52 (fun m60 σ61=>I51 m60 n58 n59 σ61))) (fun J57=>
  cut (α:=Hp->Prop) (fun  σ63=>∀ _:Nat->Value,ix l_A l_n n54 3 (fun b65 a66=>ldI σ63 .i64 b65 a66 (fun n67=>
  J57 n67 σ63))) (fun J64=>cut (α:=Bool->Hp->Prop) (fun t71 σ69=>∀ _:Nat->Value,bc t71 (rt σ69 R (.tuple #[.slice none 0 0,.int .i64 121])) (J64 σ69)) (fun J70=>
  ix l_A l_n n54 3 (fun b72 a73=>ldI σ50 .i64 b72 a73 (fun n74=>cl Tryz.prog (.func (.func 40) #[] #[]) #[.int .i64 n74,.int .i64 n53,.int .i64 4000] σ50 (fun v75 σ76=>
  ∃ t77:Bool,(v75=(.bool t77)/\bc (!t77) (J70 true σ76) (ix l_A l_n n54 3 (fun b78 a79=>ldI σ76 .i64 b78 (a79+1) (fun n80=>
  cl Tryz.prog (.func (.func 40) #[] #[]) #[.int .i64 n80,.int .i64 1,.int .i64 2] σ76 (fun v81 σ82=>
  ∃ t83:Bool,(v81=(.bool t83)/\bc (!t83) (J70 true σ82) (ix l_A l_n n54 3 (fun b84 a85=>ldI σ82 .i64 b84 (a85+2) (fun n86=>
  cl Tryz.prog (.func (.func 40) #[] #[]) #[.int .i64 n86,.int .i64 0,.int .i64 4095] σ82 (fun v87 σ88=>
  ∃ t89:Bool,(v87=(.bool t89)/\J70 (!t89) σ88)))))))))))))))))) (J3 σ50)))
def AJ:OA:=⟨[],false,[]⟩
def Oj:MAn:=(.seq (.txt []) (.seq (.seq (.txt []) (.cond (.seq (.txt []) .leaf) .leaf)) (.seq (.txt []) (.cut ⟨[],0,[],[(0,true)]⟩ (.seq (.txt []) (.block (.loop ⟨[],0,[.slot 4 (.sc (.int .i64)),.slot 5 (.sc (.int .i64))],[(0,true)]⟩ (.seq (.seq (.txt []) (.cond .leaf .leaf)) (.cut ⟨[],0,[.slot 4 (.sc (.int .i64))],[(0,true),(5,true)]⟩ (.block (.cut ⟨[],0,[],[(0,true),(5,true)]⟩ (.cut ⟨[],0,[.slot 45 (.sc (.bool))],[(0,true),(5,true)]⟩ (.txt [AJ,AJ,AJ,AJ,AJ,AJ,AJ,AJ,⟨[],true,[]⟩,AJ,AJ,AJ,AJ,AJ,AJ,AJ,AJ,⟨[],true,[]⟩]) (.cond (.seq (.txt []) .leaf) .leaf)) (.txt []))) (.txt [])))))) (.seq (.txt []) (.seq (.txt []) (.cut ⟨[false],1,[.slot 6 (.sc (.slc))],[]⟩ (.seq (.txt []) (.block (.loop ⟨[false],1,[.slot 6 (.sc (.slc)),.slot 7 (.lst 0 4 [.bool]),.slot 8 (.sc (.int .i64))],[(0,true)]⟩ (.seq (.seq (.txt []) (.cond .leaf .leaf)) (.cut ⟨[false],2,[.slot 6 (.sc (.slc)),.slot 7 (.lst 1 4 [.bool])],[(0,true),(8,true)]⟩ (.block (.seq (.txt []) (.block (.loop ⟨[false],1,[.slot 6 (.sc (.slc)),.slot 7 (.lst 0 4 [.bool])],[(0,true),(8,true)]⟩ (.block (.seq (.txt [AJ,AJ,⟨[],false,[.adl 7 4 [.bool]]⟩]) (.seq (.seq (.txt []) (.cond .leaf .leaf)) (.seq (.txt []) (.seq (.txt []) (.txt [])))))))))) (.txt [])))))) (.seq (.txt []) .leaf))))))))
theorem Od (σ:Hp) (l_A:Option Addr) (l_n l_c:Nat) (R:Value->Hp->Prop) (h:Hx σ l_A l_n l_c R):Ad Tryz.prog 16 #[.slice l_A l_n l_c] σ R:=
 Ac KL Oj Tryz.func16 rfl (by kernel_rfl) (by kernel_rfl) (by kernel_rfl) h
theorem LD:Ao Tryz.prog 16=true:=by kernel_rfl
abbrev Sy:FuncId:=44
def IL (σ:Hp) (l_A:Option Addr) (l_n l_c:Nat) (a0:Option Addr) (b0 d0:Nat) (R:Value->Hp->Prop):Prop:=
 cut (α:=Hp->Prop) (fun  σ2=>∀ _:Nat->Value,rt σ2 R (.tuple #[(.int .i64 (-1)),(.int .i64 (-1))])) (fun J3=>
  ∃ I6:Nat->Int->Hp->Prop,(∃ n70,I6 n70 0 σ)/\∀ n7:Nat,∀ n8:Int,∀ σ5:Hp,I6 n7 n8 σ5->∀ _:Nat->Value,bc (decide (n8<((l_n:Nat):Int))) (cut (α:=Hp->Prop) (fun  σ10=>
  ∀ _:Nat->Value,wk .i64 (n8+1) (fun n12=>bk σ10 n7 (fun m13 σ14=>I6 m13 n12 σ14))) (fun J11=>
  cut (α:=Hp->Prop) (fun  σ16=>∀ _:Nat->Value,∃ I20:Nat->Int->Hp->Prop,(∃ n210,I20 n210 0 σ16) /\
  ∀ n21:Nat,∀ n22:Int,∀ σ19:Hp,I20 n21 n22 σ19->∀ _:Nat->Value,bc (decide (n22<((l_n:Nat):Int))) (cut (α:=Hp->Prop) (fun  σ24=>
  ∀ _:Nat->Value,wk .i64 (n22+1) (fun n26=>bk σ24 n21 (fun m27 σ28=>I20 m27 n26 σ28))) (fun J25=>
  cut (α:=Bool->Hp->Prop) (fun t32 σ30=>∀ _:Nat->Value,bc t32 (rt σ30 R (.tuple #[.int .i64 n8,.int .i64 n22])) (J25 σ30)) (fun J31=>
  ix a0 b0 n22 1 (fun b33 a34=>ldB σ19 b33 a34 (fun t35=>bc t35 (ix l_A l_n n22 3 (fun b36 a37=>
  ldI σ19 .i64 b36 (a37+1) (fun n38=>bc (decide (n38=2)) (ix l_A l_n n8 3 (fun b39 a40=>ldI σ19 .i64 b39 a40 (fun n41=>
  ldI σ19 .i64 b39 (a40+1) (fun n42=>ldI σ19 .i64 b39 (a40+2) (fun n43=>ix l_A l_n n22 3 (fun b44 a45=>
  ldI σ19 .i64 b44 a45 (fun n46=>ldI σ19 .i64 b44 (a45+1) (fun n47=>ldI σ19 .i64 b44 (a45+2) (fun n48=>
  cl Tryz.prog (.func (.func 17) #[] #[]) #[(.agg #[.int .i64 n41,.int .i64 n42,.int .i64 n43]),(.agg #[.int .i64 n46,.int .i64 n47,.int .i64 n48])] σ19 (fun v49 σ50=>
  ∃ t51:Bool,(v49=(.bool t51)/\bc t51 (cl Tryz.prog (.func (.func 88) #[] #[]) #[.slice l_A l_n l_c,.slice a0 b0 d0,.int .i64 n8,.int .i64 n22] σ50 (fun v52 σ53=>
  ∃ t54:Bool,(v52=(.bool t54)/\J31 t54 σ53))) (J31 false σ50)))))))))))) (J31 false σ19)))) (J31 false σ19)))))) (J11 σ19)) (fun J17=>
  cut (α:=Bool->Hp->Prop) (fun t58 σ56=>∀ _:Nat->Value,bc t58 (J11 σ56) (J17 σ56)) (fun J57=>
  ix a0 b0 n8 1 (fun b59 a60=>ldB σ5 b59 a60 (fun t61=>bc (!t61) (J57 true σ5) (ix l_A l_n n8 3 (fun b62 a63=>
  ldI σ5 .i64 b62 (a63+1) (fun n64=>J57 (!decide (n64=1)) σ5))))))))) (J3 σ5))
def Aw:OA:=⟨[],false,[]⟩
def PB:MAn:=(.seq (.txt []) (.cut ⟨[],0,[],[]⟩ (.seq (.txt []) (.block (.loop ⟨[],0,[.slot 6 (.sc (.int .i64))],[(0,true),(1,true)]⟩ (.seq (.seq (.txt []) (.cond .leaf .leaf)) (.cut ⟨[],0,[],[(0,true),(1,true),(6,true)]⟩ (.block (.cut ⟨[],0,[],[(0,true),(1,true),(6,true)]⟩ (.cut ⟨[],0,[.slot 26 (.sc (.bool))],[(0,true),(1,true),(6,true)]⟩ (.txt [Aw,Aw,Aw,Aw,Aw,⟨[],true,[]⟩]) (.cond .leaf .leaf)) (.seq (.txt []) (.block (.loop ⟨[],0,[.slot 7 (.sc (.int .i64))],[(0,true),(1,true),(6,true)]⟩ (.seq (.seq (.txt []) (.cond .leaf .leaf)) (.cut ⟨[],0,[],[(0,true),(1,true),(6,true),(7,true)]⟩ (.block (.cut ⟨[],0,[.slot 62 (.sc (.bool))],[(0,true),(1,true),(6,true),(7,true)]⟩ (.plan [21,28] (tkPR4 4 0 Aw (.take 4 ⟨[],true,[]⟩ (tkPR4 7 5 Aw (.take 12 ⟨[],true,[]⟩ (tkPR4 8 13 Aw (.alt 21 false Aw (.take 22 Aw (.take 23 ⟨[],true,[]⟩ (tkPR4 4 24 Aw (.alt 28 false Aw (.take 29 Aw .done) .done)))) .done))))))) (.cond (.seq (.txt []) .leaf) .leaf))) (.txt [])))))))) (.txt [])))))) (.seq (.txt []) .leaf)))
theorem PG (σ:Hp) (l_A:Option Addr) (l_n l_c:Nat) (a0:Option Addr) (b0 d0:Nat) (R:Value->Hp->Prop) (h:IL σ l_A l_n l_c a0 b0 d0 R):Ad Tryz.prog 44 #[.slice l_A l_n l_c,.slice a0 b0 d0] σ R:=
 Ac KL PB Tryz.func44 rfl (by kernel_rfl) (by kernel_rfl) (by kernel_rfl) h
theorem MM:Ao Tryz.prog 44=true:=by kernel_rfl
abbrev Q5:FuncId:=88
def Hn (σ:Hp) (l_A:Option Addr) (l_n _:Nat) (a0:Option Addr) (b0 _:Nat) (child asker:Int) (R:Value->Hp->Prop):Prop:=
 cut (α:=Hp->Prop) (fun  σ2=>∀ _:Nat->Value,rt σ2 R (.bool true)) (fun J3=>∃ I6:Nat->Int->Hp->Prop,(∃ n70,I6 n70 0 σ) /\
  ∀ n7:Nat,∀ n8:Int,∀ σ5:Hp,I6 n7 n8 σ5->∀ _:Nat->Value,bc (decide (n8<((l_n:Nat):Int))) (cut (α:=Hp->Prop) (fun  σ10=>
  ∀ _:Nat->Value,wk .i64 (n8+1) (fun n12=>bk σ10 n7 (fun m13 σ14=>I6 m13 n12 σ14))) (fun J11=>
  cut (α:=Hp->Prop) (fun  σ16=>∀ _:Nat->Value,cut (α:=Bool->Hp->Prop) (fun t21 σ19=>∀ _:Nat->Value,
  bc t21 (rt σ19 R (.bool false)) (J11 σ19)) (fun J20=>ix l_A l_n n8 3 (fun b22 a23=>ldI σ16 .i64 b22 (a23+1) (fun n24=>
  bc (decide (n24=1)) (ix l_A l_n n8 3 (fun b25 a26=>ldI σ16 .i64 b25 a26 (fun n27=>ldI σ16 .i64 b25 (a26+1) (fun n28=>
  ldI σ16 .i64 b25 (a26+2) (fun n29=>ix l_A l_n asker 3 (fun b30 a31=>ldI σ16 .i64 b30 a31 (fun n32=>
  ldI σ16 .i64 b30 (a31+1) (fun n33=>ldI σ16 .i64 b30 (a31+2) (fun n34=>cl Tryz.prog (.func (.func 17) #[] #[]) #[(.agg #[.int .i64 n27,.int .i64 n28,.int .i64 n29]),(.agg #[.int .i64 n32,.int .i64 n33,.int .i64 n34])] σ16 (fun v35 σ36=>
  ∃ t37:Bool,(v35=(.bool t37)/\bc t37 (J20 true σ36) (ix l_A l_n n8 3 (fun b38 a39=>ldI σ36 .i64 b38 (a39+1) (fun n40=>
  bc (decide (n40=2)) (ix l_A l_n child 3 (fun b41 a42=>ldI σ36 .i64 b41 a42 (fun n43=>ldI σ36 .i64 b41 (a42+1) (fun n44=>
  ldI σ36 .i64 b41 (a42+2) (fun n45=>ix l_A l_n n8 3 (fun b46 a47=>ldI σ36 .i64 b46 a47 (fun n48=>
  ldI σ36 .i64 b46 (a47+1) (fun n49=>ldI σ36 .i64 b46 (a47+2) (fun n50=>cl Tryz.prog (.func (.func 17) #[] #[]) #[(.agg #[.int .i64 n43,.int .i64 n44,.int .i64 n45]),(.agg #[.int .i64 n48,.int .i64 n49,.int .i64 n50])] σ36 (fun v51 σ52=>
  ∃ t53:Bool,(v51=(.bool t53)/\J20 t53 σ52))))))))))) (J20 false σ36))))))))))))))) (ix l_A l_n n8 3 (fun b54 a55=>
  ldI σ16 .i64 b54 (a55+1) (fun n56=>bc (decide (n56=2)) (ix l_A l_n child 3 (fun b57 a58=>ldI σ16 .i64 b57 a58 (fun n59=>
  ldI σ16 .i64 b57 (a58+1) (fun n60=>ldI σ16 .i64 b57 (a58+2) (fun n61=>ix l_A l_n n8 3 (fun b62 a63=>
  ldI σ16 .i64 b62 a63 (fun n64=>ldI σ16 .i64 b62 (a63+1) (fun n65=>ldI σ16 .i64 b62 (a63+2) (fun n66=>
  cl Tryz.prog (.func (.func 17) #[] #[]) #[(.agg #[.int .i64 n59,.int .i64 n60,.int .i64 n61]),(.agg #[.int .i64 n64,.int .i64 n65,.int .i64 n66])] σ16 (fun v67 σ68=>
  ∃ t69:Bool,(v67=(.bool t69)/\J20 t69 σ68))))))))))) (J20 false σ16)))))))) (fun J17=>cut (α:=Bool->Hp->Prop) (fun t73 σ71=>
  ∀ _:Nat->Value,bc t73 (J11 σ71) (J17 σ71)) (fun J72=>ix a0 b0 n8 1 (fun b74 a75=>
  ldB σ5 b74 a75 (fun t76=>bc (!t76) (J72 true σ5) (bc (decide (n8=child)) (J72 true σ5) (J72 (decide (n8=asker)) σ5)))))))) (J3 σ5))
def Al:OA:=⟨[],false,[]⟩
def OI:MAn:=(.seq (.txt []) (.cut ⟨[],0,[],[]⟩ (.seq (.txt []) (.block (.loop ⟨[],0,[.slot 9 (.sc (.int .i64))],[(0,true),(1,true),(2,true),(3,true)]⟩ (.seq (.seq (.txt []) (.cond .leaf .leaf)) (.cut ⟨[],0,[],[(0,true),(1,true),(2,true),(3,true),(9,true)]⟩ (.block (.cut ⟨[],0,[],[(0,true),(1,true),(2,true),(3,true),(9,true)]⟩ (.cut ⟨[],0,[.slot 30 (.sc (.bool))],[(0,true),(1,true),(2,true),(3,true),(9,true)]⟩ (.txt [Al,Al,Al,Al,Al,⟨[],true,[]⟩,Al,Al,Al,Al,⟨[],true,[]⟩]) (.cond .leaf .leaf)) (.cut ⟨[],0,[.slot 66 (.sc (.bool))],[(0,true),(1,true),(2,true),(3,true),(9,true)]⟩ (.plan [15,33] (tkPR4 6 0 Al (.take 6 ⟨[],true,[]⟩ (tkPR4 8 7 Al (.alt 15 false Al (.take 16 Al (.take 17 ⟨[],true,[]⟩ (tkPR4 6 18 Al (.take 24 ⟨[],true,[]⟩ (tkPR4 8 25 Al (.alt 33 false Al (.take 34 Al (.take 35 Al .done)) .done)))))) .done))))) (.cond (.seq (.txt []) .leaf) .leaf)))) (.txt [])))))) (.seq (.txt []) .leaf)))
theorem ON (σ:Hp) (l_A:Option Addr) (l_n l_c:Nat) (a0:Option Addr) (b0 d0:Nat) (child asker:Int) (R:Value->Hp->Prop) (h:Hn σ l_A l_n l_c a0 b0 d0 child asker R):Ad Tryz.prog 88 #[.slice l_A l_n l_c,.slice a0 b0 d0,.int .i64 child,.int .i64 asker] σ R:=
 Ac KL OI Tryz.func88 rfl (by kernel_rfl) (by kernel_rfl) (by kernel_rfl) h
theorem LH:Ao Tryz.prog 88=true:=by kernel_rfl
end Go.Proofs.YtoelhdjloaknbaaGreat
