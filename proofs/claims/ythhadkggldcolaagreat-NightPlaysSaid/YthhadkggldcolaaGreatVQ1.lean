/- Trimmed by wip/trim.py to what this claim rests on. -/
import Derived.Test.YthhadkggldcolaaGreatVB11
namespace Go.Proofs.YthhadkggldcolaaGreat
set_option maxRecDepth 100000
open Go.RowKit
def tkVQ1:Nat->Nat->OA->MPlan->MPlan
 |0,_,_,x=>x
 |n+1,i,a,x=>.take i a (tkVQ1 n (i+1) a x)
theorem Bq:Tryz.prog.follows .mixedOrders=true:=by kernel_rfl
abbrev WW:FuncId:=66
def MY (σ:Hp) (_:Option Addr) (a0 _:Nat) (_:Int) (l_A:Option Addr) (l_n _:Nat) (R:Value->Hp->Prop):Prop:=
 cut (α:=Hp->Prop) (fun  σ2=>∀ _:Nat->Value,cut (α:=Hp->Prop) (fun  σ5=>∀ _:Nat->Value,
  rt σ5 R (.bool false)) (fun J6=>∃ I9:Nat->Int->Hp->Prop,(∃ n100,I9 n100 0 σ2)/\∀ n10:Nat,∀ n11:Int,∀ σ8:Hp,I9 n10 n11 σ8->∀ _:Nat->Value,bc (decide (n11<((l_n:Nat):Int))) (ix l_A l_n n11 5 (fun b12 a13=>
  ldS σ8 b12 (a13+3) (fun _ l14 _=>bc (decide ((20:Int)<((l14:Nat):Int))) (rt σ8 R (.bool true)) (wk .i64 (n11+1) (fun n15=>
  bk σ8 n10 (fun m16 σ17=>I9 m16 n15 σ17)))))) (J6 σ8))) (fun J3=>cut (α:=Bool->Hp->Prop) (fun t21 σ19=>
  ∀ _:Nat->Value,bc t21 (rt σ19 R (.bool true)) (J3 σ19)) (fun J20=>bc (decide ((10:Int)<((a0:Nat):Int))) (J20 true σ) (J20 (decide ((70:Int)<((l_n:Nat):Int))) σ)))
def Tw:MAn:=(.seq (.txt []) (.cut ⟨[true],1,[],[(1,true)]⟩ (.cut ⟨[true],1,[.slot 14 (.sc (.bool))],[(1,true)]⟩ (.txt [⟨[],false,[]⟩,⟨[],false,[]⟩,⟨[],false,[]⟩,⟨[],false,[]⟩,⟨[],true,[]⟩]) (.cond (.seq (.txt []) .leaf) .leaf)) (.cut ⟨[true],1,[],[]⟩ (.seq (.txt []) (.block (.loop ⟨[true],1,[.slot 5 (.sc (.int .i64))],[(1,true)]⟩ (.seq (.seq (.txt []) (.cond .leaf .leaf)) (.seq (.block (.seq (.txt []) (.cond (.seq (.txt []) .leaf) .leaf))) (.txt [])))))) (.seq (.txt []) .leaf))))
theorem T6 (σ:Hp) (b0:Option Addr) (a0 c0:Nat) (d0:Int) (l_A:Option Addr) (l_n l_c:Nat) (R:Value->Hp->Prop) (h:MY σ b0 a0 c0 d0 l_A l_n l_c R):Af Tryz.prog 66 #[(.agg #[.slice b0 a0 c0,.int .i64 d0]),.slice l_A l_n l_c] σ R:=
 Ae Bq Tw Tryz.func66 rfl (by kernel_rfl) (by kernel_rfl) (by kernel_rfl) h
theorem PA:Ao Tryz.prog 66=true:=by kernel_rfl
abbrev NY:FuncId:=51
def Ix (σ:Hp) (b0:Option Addr) (a0 c0:Nat) (d0:Int) (l_A:Option Addr) (l_n l_c:Nat) (R:Value->Hp->Prop):Prop:=
 cl Tryz.prog (.func (.func 98) #[] #[]) #[(.agg #[.slice b0 a0 c0,.int .i64 d0])] σ (fun v1 σ2=>
  ∃ n3:Int,(v1=(.int .i64 n3)/\bc (!decide (n3=0)) (rt σ2 R (.int .i64 n3)) (bx σ2 (.cells #[.slice b0 a0 c0,.int .i64 d0] 24) (fun b4 σ5=>
  cut (α:=Hp->Prop) (fun  σ7=>∀ _:Nat->Value,rt σ7 R (.int .i64 0)) (fun J8=>cut (α:=Bool->Hp->Prop) (fun t12 σ10=>
  ∀ _:Nat->Value,bc t12 (rt σ10 R (.int .i64 71)) (J8 σ10)) (fun J11=>bc (decide ((60:Int)<((l_n:Nat):Int))) (J11 true σ5) (cl Tryz.prog (.func (.func 102) #[] #[]) #[.slice l_A l_n l_c,(.func (.func 99) #[] #[(.pointer (some ⟨b4,0,none⟩))])] σ5 (fun v13 σ14=>
  ∃ t15:Bool,(v13=(.bool t15)/\J11 t15 σ14)))))))))
def QL:MAn:=(.seq (.txt []) (.seq (.seq (.txt []) (.seq (.txt []) (.cond (.seq (.txt []) .leaf) .leaf))) (.seq (.txt []) (.cut ⟨[false],1,[],[]⟩ (.cut ⟨[false],1,[.slot 20 (.sc (.bool))],[]⟩ (.txt [⟨[],false,[]⟩,⟨[],false,[]⟩,⟨[],false,[]⟩,⟨[],true,[]⟩]) (.cond (.seq (.txt []) .leaf) .leaf)) (.seq (.txt []) .leaf)))))
theorem Rr (σ:Hp) (b0:Option Addr) (a0 c0:Nat) (d0:Int) (l_A:Option Addr) (l_n l_c:Nat) (R:Value->Hp->Prop) (h:Ix σ b0 a0 c0 d0 l_A l_n l_c R):Af Tryz.prog 51 #[(.agg #[.slice b0 a0 c0,.int .i64 d0]),.slice l_A l_n l_c] σ R:=
 Ae Bq QL Tryz.func51 rfl (by kernel_rfl) (by kernel_rfl) (by kernel_rfl) h
theorem CB:Ao Tryz.prog 51=true:=by kernel_rfl
abbrev Qz:FuncId:=34
def JU (σ:Hp) (b0:Option Addr) (a0 _:Nat) (d0:Int) (R:Value->Hp->Prop):Prop:=
 (((∃ ys1:List (Int×Int×Int×Int×Bool),RdS [.int .i64,.int .i64,.int .i64,.int .i64,.bool] σ b0 a0 ys1 /\
  Bm (List.length ([]:List (Int×Int×Int×Int×Bool))+List.length ys1) (exl 89 [.int .i64,.int .i64,.int .i64,.int .i64,.bool] (([]:List (Int×Int×Int×Int×Bool))++ys1) σ (fun A2 l2 c2 σ3=>
  rt σ3 R (.agg #[.slice A2 l2 c2,.int .i64 d0]))))/\(∃ ys4:List (Int×Int×Int×Int×Bool),RdS [.int .i64,.int .i64,.int .i64,.int .i64,.bool] σ b0 a0 ys4 /\
  Bm (List.length ([]:List (Int×Int×Int×Int×Bool))+List.length ys4) (exl 89 [.int .i64,.int .i64,.int .i64,.int .i64,.bool] (([]:List (Int×Int×Int×Int×Bool))++ys4) σ (fun A5 l5 c5 σ6=>
  rt σ6 R (.agg #[.slice A5 l5 c5,.int .i64 d0])))))/\(∃ ys7:List (Int×Int×Int×Int×Bool),RdS [.int .i64,.int .i64,.int .i64,.int .i64,.bool] σ b0 a0 ys7 /\
  Bm (List.length ([]:List (Int×Int×Int×Int×Bool))+List.length ys7) (exl 89 [.int .i64,.int .i64,.int .i64,.int .i64,.bool] (([]:List (Int×Int×Int×Int×Bool))++ys7) σ (fun A8 l8 c8 σ9=>
  rt σ9 R (.agg #[.slice A8 l8 c8,.int .i64 d0])))))
def Bl:OA:=⟨[],false,[]⟩
def SN:MAn:=(.seq (.txt []) (.seq (.plan [3,7] (.take 1 Bl (.take 2 Bl (.take 4 Bl (.alt 0 true Bl (.alt 3 false Bl (.take 5 Bl (.take 6 Bl (.alt 7 false Bl .done .done))) (.alt 5 true Bl (.alt 3 false Bl (.take 6 Bl (.alt 7 false Bl .done .done)) .done) .done)) (.alt 5 true Bl (.alt 0 true Bl (.alt 3 false Bl (.take 6 Bl (.alt 7 false Bl .done .done)) .done) .done) .done)))))) .leaf))
theorem S6 (σ:Hp) (b0:Option Addr) (a0 c0:Nat) (d0:Int) (R:Value->Hp->Prop) (h:JU σ b0 a0 c0 d0 R):Af Tryz.prog 34 #[(.agg #[.slice b0 a0 c0,.int .i64 d0])] σ R:=
 Ae Bq SN Tryz.func34 rfl (by kernel_rfl) (by kernel_rfl) (by kernel_rfl) h
theorem OB:Ao Tryz.prog 34=true:=by kernel_rfl
abbrev Hn:FuncId:=70
def CM (σ:Hp) (l_A:Option Addr) (l_n _:Nat) (R:Value->Hp->Prop):Prop:=
 ∃ ys1:List (Int×Int×Int×(Option Addr×Nat×Nat)×Int),RdS [.int .i64,.int .i64,.int .i64,.slc,.int .i64] σ l_A l_n ys1 /\
  Bm (List.length ([]:List (Int×Int×Int×(Option Addr×Nat×Nat)×Int))+List.length ys1) (cut (α:=Option Addr->Nat->Nat->Hp->Prop) (fun A5 l5 c5 σ3=>
  ∀ _:Nat->Value,rt σ3 R (.slice A5 l5 c5)) (fun J4=>∃ I8:Nat->Option Addr->Nat->Nat->Int->Hp->Prop,(∃ n90,exl 61 [.int .i64,.int .i64,.int .i64,.slc,.int .i64] (([]:List (Int×Int×Int×(Option Addr×Nat×Nat)×Int))++ys1) σ (fun A10 l10 c10 σ11=>
  I8 n90 A10 l10 c10 0 σ11))/\∀ n9:Nat,∀ A12:Option Addr,∀ l12 c12:Nat,∀ n13:Int,∀ σ7:Hp,I8 n9 A12 l12 c12 n13 σ7->∀ _:Nat->Value,bc (decide (n13<((l12:Nat):Int))) (ix A12 l12 n13 5 (fun b14 a15=>
  ldS σ7 b14 (a15+3) (fun A16 l16 _=>∃ ys17:List Int,RdS [.int .i64] σ7 A16 l16 ys17/\Bm (List.length ([]:List Int)+List.length ys17) (ix A12 l12 n13 5 (fun b18 a19=>
  exl 3 [.int .i64] (([]:List Int)++ys17) σ7 (fun A20 l20 c20 σ21=>st σ21 b18 (a19+3) (.slice A20 l20 c20) (fun σ22=>
  wk .i64 (n13+1) (fun n23=>bk σ22 n9 (fun m24 σ25=>I8 m24 A12 l12 c12 n23 σ25))))))))) (J4 A12 l12 c12 σ7)))
def Ls:MAn:=(.seq (.txt []) (.seq (.txt []) (.cut ⟨[false],1,[.slot 3 (.sc (.slc))],[]⟩ (.seq (.txt []) (.block (.loop ⟨[false],1,[.slot 3 (.sc (.slc)),.slot 4 (.sc (.int .i64))],[]⟩ (.seq (.seq (.txt []) (.cond .leaf .leaf)) (.seq (.block (.txt [])) (.txt [])))))) (.seq (.txt []) .leaf))))
theorem Fo (σ:Hp) (l_A:Option Addr) (l_n l_c:Nat) (R:Value->Hp->Prop) (h:CM σ l_A l_n l_c R):Af Tryz.prog 70 #[.slice l_A l_n l_c] σ R:=
 Ae Bq Ls Tryz.func70 rfl (by kernel_rfl) (by kernel_rfl) (by kernel_rfl) h
theorem DP:Ao Tryz.prog 70=true:=by kernel_rfl
abbrev N4:FuncId:=58
def Iu (σ:Hp) (b0:Option Addr) (a0 c0:Nat) (d0:Int) (l_A:Option Addr) (l_n _:Nat) (R:Value->Hp->Prop):Prop:=
 cl Tryz.prog (.func (.func 106) #[] #[]) #[(.agg #[.slice b0 a0 c0,.int .i64 d0])] σ (fun v1 σ2=>
  ∃ n3:Int,(v1=(.int .i64 n3)/\bc (!decide (n3=0)) (rt σ2 R (.int .i64 n3)) (bc (decide ((60:Int)<((l_n:Nat):Int))) (rt σ2 R (.int .i64 71)) (cut (α:=Hp->Prop) (fun  σ5=>
  ∀ _:Nat->Value,rt σ5 R (.int .i64 0)) (fun J6=>∃ I9:Nat->Int->Hp->Prop,(∃ n100,I9 n100 0 σ2) /\
  ∀ n10:Nat,∀ n11:Int,∀ σ8:Hp,I9 n10 n11 σ8->∀ _:Nat->Value,bc (decide (n11<((l_n:Nat):Int))) (cut (α:=Hp->Prop) (fun  σ13=>
  ∀ _:Nat->Value,wk .i64 (n11+1) (fun n15=>bk σ13 n10 (fun m16 σ17=>I9 m16 n15 σ17))) (fun J14=>
  ix l_A l_n n11 5 (fun b18 a19=>ldI σ8 .i64 b18 a19 (fun n20=>ldI σ8 .i64 b18 (a19+1) (fun n21=>
  ldI σ8 .i64 b18 (a19+2) (fun n22=>ldS σ8 b18 (a19+3) (fun A23 l23 _=>ldI σ8 .i64 b18 (a19+4) (fun n24=>
  cut (α:=Hp->Prop) (fun  σ26=>∀ _:Nat->Value,∃ I30:Nat->Int->Hp->Prop,(∃ n310,I30 n310 0 σ26) /\
  ∀ n31:Nat,∀ n32:Int,∀ σ29:Hp,I30 n31 n32 σ29->∀ _:Nat->Value,bc (decide (n32<((l23:Nat):Int))) (ix A23 l23 n32 1 (fun b33 a34=>
  ldI σ29 .i64 b33 a34 (fun n35=>wk .i64 (((a0:Nat):Int)-1) (fun n36=>cl Tryz.prog (.func (.func 107) #[] #[]) #[.int .i64 n35,.int .i64 0,.int .i64 n36] σ29 (fun v37 σ38=>
  ∃ t39:Bool,(v37=(.bool t39)/\bc (!t39) (rt σ38 R (.int .i64 71)) (wk .i64 (n32+1) (fun n40=>
  bk σ38 n31 (fun m41 σ42=>I30 m41 n40 σ42))))))))) (J14 σ29)) (fun J27=>cut (α:=Bool->Hp->Prop) (fun t46 σ44=>
  ∀ _:Nat->Value,bc t46 (rt σ44 R (.int .i64 71)) (J27 σ44)) (fun J45=>cl Tryz.prog (.func (.func 107) #[] #[]) #[.int .i64 n20,.int .i64 0,.int .i64 2000] σ8 (fun v47 σ48=>
  ∃ t49:Bool,(v47=(.bool t49)/\bc (!t49) (J45 true σ48) (cl Tryz.prog (.func (.func 107) #[] #[]) #[.int .i64 n21,.int .i64 1,.int .i64 40] σ48 (fun v50 σ51=>
  ∃ t52:Bool,(v50=(.bool t52)/\bc (!t52) (J45 true σ51) (cl Tryz.prog (.func (.func 107) #[] #[]) #[.int .i64 n22,.int .i64 0,.int .i64 10000] σ51 (fun v53 σ54=>
  ∃ t55:Bool,(v53=(.bool t55)/\bc (!t55) (J45 true σ54) (bc (decide ((10:Int)<((l23:Nat):Int))) (J45 true σ54) (cl Tryz.prog (.func (.func 107) #[] #[]) #[.int .i64 n24,.int .i64 0,.int .i64 2000] σ54 (fun v56 σ57=>
  ∃ t58:Bool,(v56=(.bool t58)/\J45 (!t58) σ57)))))))))))))))))))))) (J6 σ8))))))
def AE:OA:=⟨[],false,[]⟩
def Re:MAn:=(.seq (.txt []) (.seq (.txt []) (.seq (.seq (.txt []) (.cond (.seq (.txt []) .leaf) .leaf)) (.seq (.seq (.txt []) (.cond (.seq (.txt []) .leaf) .leaf)) (.cut ⟨[true],1,[],[]⟩ (.seq (.txt []) (.block (.loop ⟨[true],1,[.slot 2 (.hb 0 0),.slot 6 (.sc (.int .i64))],[(1,true)]⟩ (.seq (.seq (.txt []) (.cond .leaf .leaf)) (.cut ⟨[true],1,[.slot 2 (.hb 0 0)],[(1,true),(6,true)]⟩ (.block (.seq (.txt []) (.cut ⟨[true,true],2,[.slot 2 (.hb 0 0),.slot 7 (.hb 1 0)],[(1,true),(6,true)]⟩ (.cut ⟨[true,true],2,[.slot 2 (.hb 0 0),.slot 7 (.hb 1 0),.slot 54 (.sc (.bool))],[(1,true),(6,true)]⟩ (.txt [AE,AE,AE,AE,⟨[],true,[]⟩,AE,AE,AE,AE,AE,⟨[],true,[]⟩,AE,AE,AE,AE,AE,⟨[],true,[]⟩,AE,AE,AE,AE,AE,⟨[],true,[]⟩]) (.cond (.seq (.txt []) .leaf) .leaf)) (.seq (.txt []) (.block (.loop ⟨[true,true],2,[.slot 2 (.hb 0 0),.slot 7 (.hb 1 0),.slot 8 (.sc (.int .i64))],[(1,true),(6,true)]⟩ (.seq (.seq (.txt []) (.cond .leaf .leaf)) (.seq (.block (.seq (.plan [9] (tkVQ1 9 0 AE (.alt 9 false AE (.take 10 AE .done) .done))) (.cond (.seq (.txt []) .leaf) .leaf))) (.txt []))))))))) (.txt [])))))) (.seq (.txt []) .leaf))))))
theorem Rw (σ:Hp) (b0:Option Addr) (a0 c0:Nat) (d0:Int) (l_A:Option Addr) (l_n l_c:Nat) (R:Value->Hp->Prop) (h:Iu σ b0 a0 c0 d0 l_A l_n l_c R):Af Tryz.prog 58 #[(.agg #[.slice b0 a0 c0,.int .i64 d0]),.slice l_A l_n l_c] σ R:=
 Ae Bq Re Tryz.func58 rfl (by kernel_rfl) (by kernel_rfl) (by kernel_rfl) h
theorem DA:Ao Tryz.prog 58=true:=by kernel_rfl
abbrev VG:FuncId:=68
def KB (σ:Hp) (b0:Option Addr) (a0 c0:Nat) (d0:Int) (l_A:Option Addr) (l_n l_c:Nat) (R:Value->Hp->Prop):Prop:=
 cl Tryz.prog (.func (.func 124) #[] #[]) #[(.agg #[.slice b0 a0 c0,.int .i64 d0]),.slice l_A l_n l_c,(.func (.func 125) #[] #[]),(.func (.func 126) #[] #[])] σ (fun v1 σ2=>
  ∃ A3:Option Addr,∃ l3 c3:Nat,∃ n4:Int,(v1=(.tuple #[.slice A3 l3 c3,.int .i64 n4]) /\
  rt σ2 R (.tuple #[.slice A3 l3 c3,.int .i64 n4])))
def Sf:MAn:=(.seq (.txt []) (.seq (.txt []) .leaf))
theorem SO (σ:Hp) (b0:Option Addr) (a0 c0:Nat) (d0:Int) (l_A:Option Addr) (l_n l_c:Nat) (R:Value->Hp->Prop) (h:KB σ b0 a0 c0 d0 l_A l_n l_c R):Af Tryz.prog 68 #[(.agg #[.slice b0 a0 c0,.int .i64 d0]),.slice l_A l_n l_c] σ R:=
 Ae Bq Sf Tryz.func68 rfl (by kernel_rfl) (by kernel_rfl) (by kernel_rfl) h
theorem OV:Ao Tryz.prog 68=true:=by kernel_rfl
abbrev Vu:FuncId:=33
def Kh (σ:Hp) (b0:Option Addr) (a0 c0:Nat) (d0:Int) (l_A:Option Addr) (l_n l_c:Nat) (R:Value->Hp->Prop):Prop:=
 cl Tryz.prog (.func (.func 51) #[] #[]) #[(.agg #[.slice b0 a0 c0,.int .i64 d0]),.slice l_A l_n l_c] σ (fun v1 σ2=>
  ∃ n3:Int,(v1=(.int .i64 n3)/\bc (!decide (n3=0)) (rt σ2 R (.tuple #[.slice none 0 0,.int .i64 n3])) (cl Tryz.prog (.func (.func 76) #[] #[]) #[(.agg #[.slice b0 a0 c0,.int .i64 d0]),.slice l_A l_n l_c] σ2 (fun v4 σ5=>
  ∃ p6:Option Addr,(v4=(.pointer p6)/\dr p6 (fun b7 o8=>ldS σ5 b7 (o8+4) (fun A9 l9 c9=>rt σ5 R (.tuple #[.slice A9 l9 c9,.int .i64 0]))))))))
def Sa:MAn:=(.seq (.txt []) (.seq (.seq (.txt []) (.seq (.txt []) (.cond (.seq (.txt []) .leaf) .leaf))) (.seq (.txt []) .leaf)))
theorem Sv (σ:Hp) (b0:Option Addr) (a0 c0:Nat) (d0:Int) (l_A:Option Addr) (l_n l_c:Nat) (R:Value->Hp->Prop) (h:Kh σ b0 a0 c0 d0 l_A l_n l_c R):Af Tryz.prog 33 #[(.agg #[.slice b0 a0 c0,.int .i64 d0]),.slice l_A l_n l_c] σ R:=
 Ae Bq Sa Tryz.func33 rfl (by kernel_rfl) (by kernel_rfl) (by kernel_rfl) h
theorem Pe:Ao Tryz.prog 33=true:=by kernel_rfl
abbrev V2:FuncId:=74
def Kv (σ:Hp) (b0:Option Addr) (a0 c0:Nat) (d0:Int) (l_A:Option Addr) (l_n l_c:Nat) (R:Value->Hp->Prop):Prop:=
 cl Tryz.prog (.func (.func 58) #[] #[]) #[(.agg #[.slice b0 a0 c0,.int .i64 d0]),.slice l_A l_n l_c] σ (fun v1 σ2=>
  ∃ n3:Int,(v1=(.int .i64 n3)/\bc (!decide (n3=0)) (rt σ2 R (.tuple #[.slice none 0 0,.int .i64 n3])) (cl Tryz.prog (.func (.func 128) #[] #[]) #[(.agg #[.slice b0 a0 c0,.int .i64 d0]),.slice l_A l_n l_c] σ2 (fun v4 σ5=>
  ∃ p6:Option Addr,(v4=(.pointer p6)/\dr p6 (fun b7 o8=>ldS σ5 b7 (o8+8) (fun A9 l9 c9=>cut (α:=Hp->Prop) (fun  σ11=>
  ∀ _:Nat->Value,rt σ11 R (.tuple #[.slice A9 l9 c9,.int .i64 0])) (fun J12=>∃ I15:Nat->Int->Hp->Prop,(∃ n160,I15 n160 1 σ5) /\
  ∀ n16:Nat,∀ n17:Int,∀ σ14:Hp,I15 n16 n17 σ14->∀ _:Nat->Value,bc (decide (n17<((l9:Nat):Int))) (cut (α:=Hp->Prop) (fun  σ19=>
  ∀ _:Nat->Value,wk .i64 (n17+1) (fun n21=>bk σ19 n16 (fun m22 σ23=>I15 m22 n21 σ23))) (fun J20=>
  ∃ I26:Nat->Int->Hp->Prop,(∃ n270,I26 n270 n17 σ14)/\∀ n27:Nat,∀ n28:Int,∀ σ25:Hp,I26 n27 n28 σ25->∀ _:Nat->Value,cut (α:=Hp->Prop) (fun  σ30=>
  ∀ _:Nat->Value,wk .i64 (n28-1) (fun n32=>wk .i64 (n28-1) (fun n33=>ix A9 l9 n33 6 (fun b34 a35=>
  ldI σ30 .i64 b34 a35 (fun n36=>ldI σ30 .i64 b34 (a35+1) (fun n37=>ldI σ30 .i64 b34 (a35+2) (fun n38=>
  ldB σ30 b34 (a35+3) (fun t39=>ldI σ30 .i64 b34 (a35+4) (fun n40=>ldI σ30 .i64 b34 (a35+5) (fun n41=>
  ix A9 l9 n28 6 (fun b42 a43=>ldI σ30 .i64 b42 a43 (fun n44=>ldI σ30 .i64 b42 (a43+1) (fun n45=>
  ldI σ30 .i64 b42 (a43+2) (fun n46=>ldB σ30 b42 (a43+3) (fun t47=>ldI σ30 .i64 b42 (a43+4) (fun n48=>
  ldI σ30 .i64 b42 (a43+5) (fun n49=>ix A9 l9 n28 6 (fun b50 a51=>st σ30 b50 a51 (.int .i64 n36) (fun σ52=>
  st σ52 b50 (a51+1) (.int .i64 n37) (fun σ53=>st σ53 b50 (a51+2) (.int .i64 n38) (fun σ54=>st σ54 b50 (a51+3) (.bool t39) (fun σ55=>
  st σ55 b50 (a51+4) (.int .i64 n40) (fun σ56=>st σ56 b50 (a51+5) (.int .i64 n41) (fun σ57=>ix A9 l9 n32 6 (fun b58 a59=>
  st σ57 b58 a59 (.int .i64 n44) (fun σ60=>st σ60 b58 (a59+1) (.int .i64 n45) (fun σ61=>st σ61 b58 (a59+2) (.int .i64 n46) (fun σ62=>
  st σ62 b58 (a59+3) (.bool t47) (fun σ63=>st σ63 b58 (a59+4) (.int .i64 n48) (fun σ64=>st σ64 b58 (a59+5) (.int .i64 n49) (fun σ65=>
  wk .i64 (n28-1) (fun n66=>bk σ65 n27 (fun m67 σ68=>I26 m67 n66 σ68))))))))))))))))))))))))))))))))) (fun J31=>
  cut (α:=Bool->Hp->Prop) (fun t72 σ70=>∀ _:Nat->Value,bc t72 (J31 σ70) (J20 σ70)) (fun J71=>
  bc (decide ((0:Int)<n28)) (ix A9 l9 n28 6 (fun b73 a74=>ldI σ25 .i64 b73 a74 (fun n75=>ldI σ25 .i64 b73 (a74+1) (fun n76=>
  ldI σ25 .i64 b73 (a74+2) (fun n77=>ldB σ25 b73 (a74+3) (fun t78=>ldI σ25 .i64 b73 (a74+4) (fun n79=>
  ldI σ25 .i64 b73 (a74+5) (fun n80=>wk .i64 (n28-1) (fun n81=>ix A9 l9 n81 6 (fun b82 a83=>ldI σ25 .i64 b82 a83 (fun n84=>
  ldI σ25 .i64 b82 (a83+1) (fun n85=>ldI σ25 .i64 b82 (a83+2) (fun n86=>ldB σ25 b82 (a83+3) (fun t87=>
  ldI σ25 .i64 b82 (a83+4) (fun n88=>ldI σ25 .i64 b82 (a83+5) (fun n89=>cl Tryz.prog (.func (.func 129) #[] #[]) #[(.agg #[.int .i64 n75,.int .i64 n76,.int .i64 n77,.bool t78,.int .i64 n79,.int .i64 n80]),(.agg #[.int .i64 n84,.int .i64 n85,.int .i64 n86,.bool t87,.int .i64 n88,.int .i64 n89])] σ25 (fun v90 σ91=>
  ∃ t92:Bool,(v90=(.bool t92)/\J71 t92 σ91)))))))))))))))))) (J71 false σ25))))) (J12 σ14)))))))))
def AJ:OA:=⟨[],false,[]⟩
def SE:MAn:=(.seq (.txt []) (.seq (.txt []) (.seq (.seq (.txt []) (.cond (.seq (.txt []) .leaf) .leaf)) (.seq (.txt []) (.cut ⟨[true],1,[],[(7,true)]⟩ (.seq (.txt []) (.block (.loop ⟨[true],1,[.slot 8 (.sc (.int .i64))],[(7,true)]⟩ (.seq (.seq (.txt []) (.cond .leaf .leaf)) (.cut ⟨[true],1,[],[(7,true),(8,true)]⟩ (.block (.seq (.txt []) (.block (.loop ⟨[true],1,[.slot 9 (.sc (.int .i64))],[(7,true),(8,true)]⟩ (.cut ⟨[true],1,[],[(7,true),(8,true),(9,true)]⟩ (.cut ⟨[true],1,[.slot 42 (.sc (.bool))],[(7,true),(8,true),(9,true)]⟩ (.plan [12] (.take 0 AJ (.take 1 AJ (.take 2 ⟨[],true,[]⟩ (tkVQ1 9 3 AJ (.alt 12 false AJ (.take 13 AJ .done) .done)))))) (.cond .leaf .leaf)) (.seq (.block (.plan [15,17] (tkVQ1 15 0 AJ (.alt 15 false AJ (.take 16 AJ (.alt 17 false AJ .done .done)) .done)))) (.txt []))))))) (.txt [])))))) (.seq (.txt []) .leaf))))))
theorem S7 (σ:Hp) (b0:Option Addr) (a0 c0:Nat) (d0:Int) (l_A:Option Addr) (l_n l_c:Nat) (R:Value->Hp->Prop) (h:Kv σ b0 a0 c0 d0 l_A l_n l_c R):Af Tryz.prog 74 #[(.agg #[.slice b0 a0 c0,.int .i64 d0]),.slice l_A l_n l_c] σ R:=
 Ae Bq SE Tryz.func74 rfl (by kernel_rfl) (by kernel_rfl) (by kernel_rfl) h
theorem Pd:Ao Tryz.prog 74=true:=by kernel_rfl
abbrev R7:FuncId:=95
def Gm (σ:Hp) (R:Value->Hp->Prop):Prop:=
 exl 89 [.int .i64,.int .i64,.int .i64,.int .i64,.bool] ([(4,2,3,1,false),(2,5,2,0,false)]:List (Int×Int×Int×Int×Bool)) σ (fun A1 l1 c1 σ2=>
  exl 3 [.int .i64] ([0,1]:List Int) σ2 (fun A3 l3 c3 σ4=>exl 3 [.int .i64] ([0,1]:List Int) σ4 (fun A5 l5 c5 σ6=>
  exl 61 [.int .i64,.int .i64,.int .i64,.slc,.int .i64] ([(0,3,20,(A3,l3,c3),100),(0,2,30,(A5,l5,c5),100)]:List (Int×Int×Int×(Option Addr×Nat×Nat)×Int)) σ6 (fun A7 l7 c7 σ8=>
  rt σ8 R (.tuple #[(.agg #[.slice A1 l1 c1,.int .i64 1]),.slice A7 l7 c7])))))
def Oc:MAn:=(.seq (.txt []) (.seq (.txt []) (.seq (.txt []) .leaf)))
theorem OK (σ:Hp) (R:Value->Hp->Prop) (h:Gm σ  R):Af Tryz.prog 95 #[] σ R:=
 Ae Bq Oc Tryz.func95 rfl (by kernel_rfl) (by kernel_rfl) (by kernel_rfl) h
theorem LG:Ao Tryz.prog 95=true:=by kernel_rfl
abbrev SJ:FuncId:=98
def Gg (σ:Hp) (b0:Option Addr) (a0 c0:Nat) (d0:Int) (R:Value->Hp->Prop):Prop:=
 cut (α:=Hp->Prop) (fun  σ2=>∀ _:Nat->Value,rt σ2 R (.int .i64 0)) (fun J3=>cut (α:=Bool->Hp->Prop) (fun t7 σ5=>
  ∀ _:Nat->Value,bc t7 (rt σ5 R (.int .i64 70)) (J3 σ5)) (fun J6=>bc (decide ((8:Int)<((a0:Nat):Int))) (J6 true σ) (cl Tryz.prog (.func (.func 101) #[] #[]) #[.int .i64 d0,.int .i64 0,.int .i64 100] σ (fun v8 σ9=>
  ∃ t10:Bool,(v8=(.bool t10)/\bc (!t10) (J6 true σ9) (cl Tryz.prog (.func (.func 179) #[] #[]) #[.slice b0 a0 c0,(.func (.func 178) #[] #[])] σ9 (fun v11 σ12=>
  ∃ t13:Bool,(v11=(.bool t13)/\J6 t13 σ12))))))))
def BF:OA:=⟨[],false,[]⟩
def O6:MAn:=(.seq (.txt []) (.seq (.txt []) (.cut ⟨[true],1,[],[]⟩ (.cut ⟨[true],1,[.slot 19 (.sc (.bool))],[]⟩ (.txt [BF,BF,BF,BF,⟨[],true,[]⟩,BF,BF,BF,BF,BF,⟨[],true,[]⟩]) (.cond (.seq (.txt []) .leaf) .leaf)) (.seq (.txt []) .leaf))))
theorem ON (σ:Hp) (b0:Option Addr) (a0 c0:Nat) (d0:Int) (R:Value->Hp->Prop) (h:Gg σ b0 a0 c0 d0 R):Af Tryz.prog 98 #[(.agg #[.slice b0 a0 c0,.int .i64 d0])] σ R:=
 Ae Bq O6 Tryz.func98 rfl (by kernel_rfl) (by kernel_rfl) (by kernel_rfl) h
theorem LF:Ao Tryz.prog 98=true:=by kernel_rfl
abbrev Si:FuncId:=99
def Ga (σ:Hp) (g_At e1 p0:Int) (o0:Option Addr) (k0 n0:Nat) (l0:Int) (cap0:Option Addr) (R:Value->Hp->Prop):Prop:=
 cl Tryz.prog (.func (.func 101) #[] #[]) #[.int .i64 g_At,.int .i64 0,.int .i64 2000] σ (fun v1 σ2=>
  ∃ t3:Bool,(v1=(.bool t3)/\bc (!t3) (rt σ2 R (.bool true)) (cl Tryz.prog (.func (.func 101) #[] #[]) #[.int .i64 e1,.int .i64 1,.int .i64 40] σ2 (fun v4 σ5=>
  ∃ t6:Bool,(v4=(.bool t6)/\bc (!t6) (rt σ5 R (.bool true)) (cl Tryz.prog (.func (.func 101) #[] #[]) #[.int .i64 p0,.int .i64 0,.int .i64 10000] σ5 (fun v7 σ8=>
  ∃ t9:Bool,(v7=(.bool t9)/\bc (!t9) (rt σ8 R (.bool true)) (cl Tryz.prog (.func (.func 101) #[] #[]) #[.int .i64 l0,.int .i64 0,.int .i64 2000] σ8 (fun v10 σ11=>
  ∃ t12:Bool,(v10=(.bool t12)/\bc (!t12) (rt σ11 R (.bool true)) (bc (decide ((10:Int)<((k0:Nat):Int))) (rt σ11 R (.bool true)) (cl Tryz.prog (.func (.func 57) #[] #[]) #[.slice o0 k0 n0,(.func (.func 100) #[] #[.pointer cap0])] σ11 (fun v13 σ14=>
  ∃ t15:Bool,(v13=(.bool t15)/\rt σ14 R (.bool t15))))))))))))))))
def AL:OA:=⟨[],false,[]⟩
def O0:MAn:=(.seq (.txt []) (.seq (.txt []) (.seq (.txt [AL,AL,AL,AL,⟨[],true,[]⟩,AL,AL,AL,AL,AL,⟨[],true,[]⟩,AL,AL,AL,AL,AL,⟨[],true,[]⟩,AL,AL,AL,AL,AL,⟨[],true,[]⟩,AL,AL,AL,AL,AL,⟨[],true,[]⟩]) .leaf)))
theorem Ow (σ:Hp) (g_At e1 p0:Int) (o0:Option Addr) (k0 n0:Nat) (l0:Int) (cap0:Option Addr) (R:Value->Hp->Prop) (h:Ga σ g_At e1 p0 o0 k0 n0 l0 cap0 R):Af Tryz.prog 99 #[(.agg #[.int .i64 g_At,.int .i64 e1,.int .i64 p0,.slice o0 k0 n0,.int .i64 l0]),.pointer cap0] σ R:=
 Ae Bq O0 Tryz.func99 rfl (by kernel_rfl) (by kernel_rfl) (by kernel_rfl) h
theorem LB:Ao Tryz.prog 99=true:=by kernel_rfl
def E3 (σ:Hp) (n:Int) (cap0:Option Addr) (R:Value->Hp->Prop):Prop:=
 dr cap0 (fun b1 o2=>ldS σ b1 o2 (fun _ l3 _=>wk .i64 (((l3:Nat):Int)-1) (fun n4=>cl Tryz.prog (.func (.func 101) #[] #[]) #[.int .i64 n,.int .i64 0,.int .i64 n4] σ (fun v5 σ6=>
  ∃ t7:Bool,(v5=(.bool t7)/\rt σ6 R (.bool (!t7)))))))
def LU:MAn:=(.seq (.txt []) (.seq (.txt []) .leaf))
theorem LX (σ:Hp) (n:Int) (cap0:Option Addr) (R:Value->Hp->Prop) (h:E3 σ n cap0 R):Af Tryz.prog 100 #[.int .i64 n,.pointer cap0] σ R:=
 Ae Bq LU Tryz.func100 rfl (by kernel_rfl) (by kernel_rfl) (by kernel_rfl) h
theorem Jk:Ao Tryz.prog 100=true:=by kernel_rfl
abbrev Ml:FuncId:=101
def Hl (σ:Hp) (n low high:Int) (R:Value->Hp->Prop):Prop:=
 bc (decide (low<=n)) (rt σ R (.bool (decide (n<=high)))) (rt σ R (.bool false))
def Qy:MAn:=(.seq (.txt []) (.seq (.txt [⟨[],false,[]⟩,⟨[],false,[]⟩,⟨[],false,[]⟩,⟨[],true,[]⟩]) .leaf))
theorem Qr (σ:Hp) (n low high:Int) (R:Value->Hp->Prop) (h:Hl σ n low high R):Af Tryz.prog 101 #[.int .i64 n,.int .i64 low,.int .i64 high] σ R:=
 Ae Bq Qy Tryz.func101 rfl (by kernel_rfl) (by kernel_rfl) (by kernel_rfl) h
theorem L6:Ao Tryz.prog 101=true:=by kernel_rfl
abbrev Dw:FuncId:=57
def B1 (σ:Hp) (s_A:Option Addr) (s_n s_c:Nat) (f:Value) (R:Value->Hp->Prop):Prop:=
 cl Tryz.prog (.func (.func 105) #[] #[]) #[.slice s_A s_n s_c,f] σ (fun v1 σ2=>∃ n3:Int,(v1=(.int .i64 n3) /\
  rt σ2 R (.bool (decide ((0:Int)<=n3)))))
def F6:MAn:=(.seq (.txt []) (.seq (.txt []) .leaf))
theorem CR (σ:Hp) (s_A:Option Addr) (s_n s_c:Nat) (f:Value) (R:Value->Hp->Prop) (h:B1 σ s_A s_n s_c f R):Af Tryz.prog 57 #[.slice s_A s_n s_c,f] σ R:=
 Ae Bq F6 Tryz.func57 rfl (by kernel_rfl) (by kernel_rfl) (by kernel_rfl) h
theorem Bv:Ao Tryz.prog 57=true:=by kernel_rfl
abbrev E9:FuncId:=102
def B0 (σ:Hp) (s_A:Option Addr) (s_n s_c:Nat) (f:Value) (R:Value->Hp->Prop):Prop:=
 cl Tryz.prog (.func (.func 180) #[] #[]) #[.slice s_A s_n s_c,f] σ (fun v1 σ2=>∃ n3:Int,(v1=(.int .i64 n3) /\
  rt σ2 R (.bool (decide ((0:Int)<=n3)))))
def D5:MAn:=(.seq (.txt []) (.seq (.txt []) .leaf))
theorem D1 (σ:Hp) (s_A:Option Addr) (s_n s_c:Nat) (f:Value) (R:Value->Hp->Prop) (h:B0 σ s_A s_n s_c f R):Af Tryz.prog 102 #[.slice s_A s_n s_c,f] σ R:=
 Ae Bq D5 Tryz.func102 rfl (by kernel_rfl) (by kernel_rfl) (by kernel_rfl) h
theorem Dt:Ao Tryz.prog 102=true:=by kernel_rfl
abbrev LP:FuncId:=106
def Dg (σ:Hp) (b0:Option Addr) (a0 _:Nat) (d0:Int) (R:Value->Hp->Prop):Prop:=
 cut (α:=Hp->Prop) (fun  σ2=>∀ _:Nat->Value,cut (α:=Hp->Prop) (fun  σ5=>∀ _:Nat->Value,
  rt σ5 R (.int .i64 0)) (fun J6=>∃ I9:Nat->Int->Hp->Prop,(∃ n100,I9 n100 0 σ2)/\∀ n10:Nat,∀ n11:Int,∀ σ8:Hp,I9 n10 n11 σ8->∀ _:Nat->Value,bc (decide (n11<((a0:Nat):Int))) (cut (α:=Hp->Prop) (fun  σ13=>
  ∀ _:Nat->Value,wk .i64 (n11+1) (fun n15=>bk σ13 n10 (fun m16 σ17=>I9 m16 n15 σ17))) (fun J14=>
  ix b0 a0 n11 5 (fun b18 a19=>ldI σ8 .i64 b18 a19 (fun n20=>ldI σ8 .i64 b18 (a19+1) (fun n21=>
  ldI σ8 .i64 b18 (a19+2) (fun n22=>ldI σ8 .i64 b18 (a19+3) (fun n23=>ldB σ8 b18 (a19+4) (fun _=>
  cut (α:=Bool->Hp->Prop) (fun t28 σ26=>∀ _:Nat->Value,bc t28 (rt σ26 R (.int .i64 70)) (J14 σ26)) (fun J27=>
  cl Tryz.prog (.func (.func 107) #[] #[]) #[.int .i64 n20,.int .i64 1,.int .i64 40] σ8 (fun v29 σ30=>
  ∃ t31:Bool,(v29=(.bool t31)/\bc (!t31) (J27 true σ30) (cl Tryz.prog (.func (.func 107) #[] #[]) #[.int .i64 n21,.int .i64 0,.int .i64 100] σ30 (fun v32 σ33=>
  ∃ t34:Bool,(v32=(.bool t34)/\bc (!t34) (J27 true σ33) (cl Tryz.prog (.func (.func 107) #[] #[]) #[.int .i64 n22,.int .i64 1,.int .i64 100] σ33 (fun v35 σ36=>
  ∃ t37:Bool,(v35=(.bool t37)/\bc (!t37) (J27 true σ36) (cl Tryz.prog (.func (.func 107) #[] #[]) #[.int .i64 n23,.int .i64 0,.int .i64 100] σ36 (fun v38 σ39=>
  ∃ t40:Bool,(v38=(.bool t40)/\J27 (!t40) σ39)))))))))))))))))))) (J6 σ8))) (fun J3=>cut (α:=Bool->Hp->Prop) (fun t44 σ42=>
  ∀ _:Nat->Value,bc t44 (rt σ42 R (.int .i64 70)) (J3 σ42)) (fun J43=>bc (decide ((8:Int)<((a0:Nat):Int))) (J43 true σ) (cl Tryz.prog (.func (.func 107) #[] #[]) #[.int .i64 d0,.int .i64 0,.int .i64 100] σ (fun v45 σ46=>
  ∃ t47:Bool,(v45=(.bool t47)/\J43 (!t47) σ46)))))
def AK:OA:=⟨[],false,[]⟩
def Jw:MAn:=(.seq (.txt []) (.cut ⟨[true],1,[.slot 1 (.hb 0 0)],[]⟩ (.cut ⟨[true],1,[.slot 1 (.hb 0 0),.slot 14 (.sc (.bool))],[]⟩ (.txt [AK,AK,AK,AK,⟨[],true,[]⟩]) (.cond (.seq (.txt []) .leaf) .leaf)) (.cut ⟨[true],1,[],[]⟩ (.seq (.txt []) (.block (.loop ⟨[true],1,[.slot 1 (.hb 0 0),.slot 3 (.sc (.int .i64))],[]⟩ (.seq (.seq (.txt []) (.cond .leaf .leaf)) (.cut ⟨[true],1,[.slot 1 (.hb 0 0)],[(3,true)]⟩ (.block (.seq (.txt []) (.cut ⟨[true,true],2,[.slot 1 (.hb 0 0),.slot 48 (.sc (.bool))],[(3,true)]⟩ (.txt [AK,AK,AK,AK,⟨[],true,[]⟩,AK,AK,AK,AK,AK,⟨[],true,[]⟩,AK,AK,AK,AK,AK,⟨[],true,[]⟩]) (.cond (.seq (.txt []) .leaf) .leaf)))) (.txt [])))))) (.seq (.txt []) .leaf))))
theorem JC (σ:Hp) (b0:Option Addr) (a0 c0:Nat) (d0:Int) (R:Value->Hp->Prop) (h:Dg σ b0 a0 c0 d0 R):Af Tryz.prog 106 #[(.agg #[.slice b0 a0 c0,.int .i64 d0])] σ R:=
 Ae Bq Jw Tryz.func106 rfl (by kernel_rfl) (by kernel_rfl) (by kernel_rfl) h
theorem Hf:Ao Tryz.prog 106=true:=by kernel_rfl
abbrev Qj:FuncId:=107
def Kg (σ:Hp) (n low high:Int) (R:Value->Hp->Prop):Prop:=
 bc (decide (low<=n)) (rt σ R (.bool (decide (n<=high)))) (rt σ R (.bool false))
def Sx:MAn:=(.seq (.txt []) (.seq (.txt [⟨[],false,[]⟩,⟨[],false,[]⟩,⟨[],false,[]⟩,⟨[],true,[]⟩]) .leaf))
theorem S5 (σ:Hp) (n low high:Int) (R:Value->Hp->Prop) (h:Kg σ n low high R):Af Tryz.prog 107 #[.int .i64 n,.int .i64 low,.int .i64 high] σ R:=
 Ae Bq Sx Tryz.func107 rfl (by kernel_rfl) (by kernel_rfl) (by kernel_rfl) h
theorem Oy:Ao Tryz.prog 107=true:=by kernel_rfl
abbrev Jr:FuncId:=124
def CC (σ:Hp) (b0:Option Addr) (a0 c0:Nat) (d0:Int) (l_A:Option Addr) (l_n l_c:Nat) (elements number:Value) (R:Value->Hp->Prop):Prop:=
 cl Tryz.prog (.func (.func 51) #[] #[]) #[(.agg #[.slice b0 a0 c0,.int .i64 d0]),.slice l_A l_n l_c] σ (fun v1 σ2=>
  ∃ n3:Int,(v1=(.int .i64 n3)/\bc (!decide (n3=0)) (rt σ2 R (.tuple #[.slice none 0 0,.int .i64 n3])) (cut (α:=List Int->Hp->Prop) (fun xs7 σ5=>
  ∀ _:Nat->Value,exl 3 [.int .i64] xs7 σ5 (fun A8 l8 c8 σ9=>rt σ9 R (.tuple #[.slice A8 l8 c8,.int .i64 0]))) (fun J6=>
  cl Tryz.prog (.func (.func 76) #[] #[]) #[(.agg #[.slice b0 a0 c0,.int .i64 d0]),.slice l_A l_n l_c] σ2 (fun v10 σ11=>
  ∃ p12:Option Addr,(v10=(.pointer p12)/\cl Tryz.prog elements #[.pointer p12] σ11 (fun v13 σ14=>
  ∃ A15:Option Addr,∃ l15 c15:Nat,(v13=(.slice A15 l15 c15)/\∃ I18:Nat->List Int->Int->Hp->Prop,(∃ n190,adp 3 [.int .i64] none 0 0 σ14 (fun (xs20:List Int) σ21=>
  I18 n190 xs20 0 σ21))/\∀ n19:Nat,∀ xs22:List Int,∀ n23:Int,∀ σ17:Hp,I18 n19 xs22 n23 σ17->∀ _:Nat->Value,bc (decide (n23<((l15:Nat):Int))) (ix A15 l15 n23 1 (fun b24 a25=>
  ldP σ17 b24 a25 (fun p26=>cl Tryz.prog number #[.pointer p26] σ17 (fun v27 σ28=>∃ n29:Int,(v27=(.int .i64 n29) /\
  Bm (List.length xs22+List.length ([n29]:List Int)) (wk .i64 (n23+1) (fun n30=>bk σ28 n19 (fun m31 σ32=>
  I18 m31 (xs22++([n29]:List Int)) n30 σ32)))))))) (J6 xs22 σ17)))))))))
def G6:MAn:=(.seq (.txt []) (.seq (.seq (.txt []) (.seq (.txt []) (.cond (.seq (.txt []) .leaf) .leaf))) (.cut ⟨[true],2,[.slot 8 (.lst 1 3 [.int .i64])],[]⟩ (.seq (.txt []) (.block (.loop ⟨[true],2,[.slot 8 (.lst 1 3 [.int .i64]),.slot 25 (.sc (.int .i64))],[(3,false),(23,true),(24,true)]⟩ (.seq (.txt []) (.seq (.cond .leaf .leaf) (.seq (.block (.seq (.txt []) (.txt []))) (.txt []))))))) (.seq (.txt []) .leaf))))
theorem GV (σ:Hp) (b0:Option Addr) (a0 c0:Nat) (d0:Int) (l_A:Option Addr) (l_n l_c:Nat) (elements number:Value) (R:Value->Hp->Prop) (h:CC σ b0 a0 c0 d0 l_A l_n l_c elements number R):Af Tryz.prog 124 #[(.agg #[.slice b0 a0 c0,.int .i64 d0]),.slice l_A l_n l_c,elements,number] σ R:=
 Ae Bq G6 Tryz.func124 rfl (by kernel_rfl) (by kernel_rfl) (by kernel_rfl) h
theorem F1:Ao Tryz.prog 124=true:=by kernel_rfl
abbrev SU:FuncId:=125
def F5 (σ:Hp) (n:Option Addr) (R:Value->Hp->Prop):Prop:=
 dr n (fun b1 o2=>ldS σ b1 (o2+2) (fun A3 l3 c3=>rt σ R (.slice A3 l3 c3)))
def O7:MAn:=(.seq (.txt []) (.seq (.txt []) .leaf))
theorem OI (σ:Hp) (n:Option Addr) (R:Value->Hp->Prop) (h:F5 σ n R):Af Tryz.prog 125 #[.pointer n] σ R:=
 Ae Bq O7 Tryz.func125 rfl (by kernel_rfl) (by kernel_rfl) (by kernel_rfl) h
theorem LD:Ao Tryz.prog 125=true:=by kernel_rfl
abbrev TR:FuncId:=126
def G8 (σ:Hp) (p:Option Addr) (R:Value->Hp->Prop):Prop:=
 dr p (fun b1 o2=>ldI σ .i64 b1 (o2+8) (fun n3=>rt σ R (.int .i64 n3)))
def P8:MAn:=(.seq (.txt []) (.seq (.txt []) .leaf))
theorem Qq (σ:Hp) (p:Option Addr) (R:Value->Hp->Prop) (h:G8 σ p R):Af Tryz.prog 126 #[.pointer p] σ R:=
 Ae Bq P8 Tryz.func126 rfl (by kernel_rfl) (by kernel_rfl) (by kernel_rfl) h
theorem L1:Ao Tryz.prog 126=true:=by kernel_rfl
abbrev Th:FuncId:=129
def Hy (σ:Hp) (e0 j0 _:Int) (_:Bool) (_ g0 f0 i0 _:Int) (_:Bool) (_ h0:Int) (R:Value->Hp->Prop):Prop:=
 bc (!decide (g0=h0)) (rt σ R (.bool (decide (g0<h0)))) (bc (!decide (e0=f0)) (rt σ R (.bool (decide (e0<f0)))) (rt σ R (.bool (decide (j0<i0)))))
def P0:MAn:=(.seq (.txt []) (.seq (.seq (.txt []) (.cond (.seq (.txt []) .leaf) .leaf)) (.seq (.seq (.txt []) (.cond (.seq (.txt []) .leaf) .leaf)) (.seq (.txt []) .leaf))))
theorem Ph (σ:Hp) (e0 j0 r0:Int) (a_On:Bool) (q0 g0 f0 i0 t0:Int) (b_On:Bool) (s0 h0:Int) (R:Value->Hp->Prop) (h:Hy σ e0 j0 r0 a_On q0 g0 f0 i0 t0 b_On s0 h0 R):Af Tryz.prog 129 #[(.agg #[.int .i64 e0,.int .i64 j0,.int .i64 r0,.bool a_On,.int .i64 q0,.int .i64 g0]),(.agg #[.int .i64 f0,.int .i64 i0,.int .i64 t0,.bool b_On,.int .i64 s0,.int .i64 h0])] σ R:=
 Ae Bq P0 Tryz.func129 rfl (by kernel_rfl) (by kernel_rfl) (by kernel_rfl) h
theorem Mp:Ao Tryz.prog 129=true:=by kernel_rfl
abbrev Qn:FuncId:=178
def E5 (σ:Hp) (v0 a1 z0 w0:Int) (_:Bool) (R:Value->Hp->Prop):Prop:=
 cl Tryz.prog (.func (.func 101) #[] #[]) #[.int .i64 v0,.int .i64 1,.int .i64 40] σ (fun v1 σ2=>
  ∃ t3:Bool,(v1=(.bool t3)/\bc (!t3) (rt σ2 R (.bool true)) (cl Tryz.prog (.func (.func 101) #[] #[]) #[.int .i64 a1,.int .i64 0,.int .i64 100] σ2 (fun v4 σ5=>
  ∃ t6:Bool,(v4=(.bool t6)/\bc (!t6) (rt σ5 R (.bool true)) (cl Tryz.prog (.func (.func 101) #[] #[]) #[.int .i64 z0,.int .i64 1,.int .i64 100] σ5 (fun v7 σ8=>
  ∃ t9:Bool,(v7=(.bool t9)/\bc (!t9) (rt σ8 R (.bool true)) (cl Tryz.prog (.func (.func 101) #[] #[]) #[.int .i64 w0,.int .i64 0,.int .i64 100] σ8 (fun v10 σ11=>
  ∃ t12:Bool,(v10=(.bool t12)/\rt σ11 R (.bool (!t12)))))))))))))
def AY:OA:=⟨[],false,[]⟩
def MS:MAn:=(.seq (.txt []) (.seq (.txt [AY,AY,AY,AY,⟨[],true,[]⟩,AY,AY,AY,AY,AY,⟨[],true,[]⟩,AY,AY,AY,AY,AY,⟨[],true,[]⟩]) .leaf))
theorem MZ (σ:Hp) (v0 a1 z0 w0:Int) (g1:Bool) (R:Value->Hp->Prop) (h:E5 σ v0 a1 z0 w0 g1 R):Af Tryz.prog 178 #[(.agg #[.int .i64 v0,.int .i64 a1,.int .i64 z0,.int .i64 w0,.bool g1])] σ R:=
 Ae Bq MS Tryz.func178 rfl (by kernel_rfl) (by kernel_rfl) (by kernel_rfl) h
theorem Jx:Ao Tryz.prog 178=true:=by kernel_rfl
abbrev Fh:FuncId:=179
def BZ (σ:Hp) (s_A:Option Addr) (s_n s_c:Nat) (f:Value) (R:Value->Hp->Prop):Prop:=
 cl Tryz.prog (.func (.func 231) #[] #[]) #[.slice s_A s_n s_c,f] σ (fun v1 σ2=>∃ n3:Int,(v1=(.int .i64 n3) /\
  rt σ2 R (.bool (decide ((0:Int)<=n3)))))
def D4:MAn:=(.seq (.txt []) (.seq (.txt []) .leaf))
theorem Ec (σ:Hp) (s_A:Option Addr) (s_n s_c:Nat) (f:Value) (R:Value->Hp->Prop) (h:BZ σ s_A s_n s_c f R):Af Tryz.prog 179 #[.slice s_A s_n s_c,f] σ R:=
 Ae Bq D4 Tryz.func179 rfl (by kernel_rfl) (by kernel_rfl) (by kernel_rfl) h
theorem Dr:Ao Tryz.prog 179=true:=by kernel_rfl
abbrev EW:FuncId:=105
def Cl (σ:Hp) (s_A:Option Addr) (s_n _:Nat) (f:Value) (R:Value->Hp->Prop):Prop:=
 cut (α:=Hp->Prop) (fun  σ2=>∀ _:Nat->Value,rt σ2 R (.int .i64 (-1))) (fun J3=>∃ I6:Nat->Int->Hp->Prop,(∃ n70,I6 n70 0 σ) /\
  ∀ n7:Nat,∀ n8:Int,∀ σ5:Hp,I6 n7 n8 σ5->∀ _:Nat->Value,bc (decide (n8<((s_n:Nat):Int))) (ix s_A s_n n8 1 (fun b9 a10=>
  ldI σ5 .i64 b9 a10 (fun n11=>cl Tryz.prog f #[.int .i64 n11] σ5 (fun v12 σ13=>∃ t14:Bool,(v12=(.bool t14) /\
  bc t14 (rt σ13 R (.int .i64 n8)) (wk .i64 (n8+1) (fun n15=>bk σ13 n7 (fun m16 σ17=>I6 m16 n15 σ17)))))))) (J3 σ5))
def HU:MAn:=(.seq (.txt []) (.cut ⟨[],0,[],[]⟩ (.seq (.txt []) (.block (.loop ⟨[],0,[.slot 8 (.sc (.int .i64))],[(0,true),(1,false),(7,true)]⟩ (.seq (.txt []) (.seq (.cond .leaf .leaf) (.seq (.block (.seq (.txt []) (.seq (.txt []) (.cond (.seq (.txt []) .leaf) .leaf)))) (.txt []))))))) (.seq (.txt []) .leaf)))
theorem Dx (σ:Hp) (s_A:Option Addr) (s_n s_c:Nat) (f:Value) (R:Value->Hp->Prop) (h:Cl σ s_A s_n s_c f R):Af Tryz.prog 105 #[.slice s_A s_n s_c,f] σ R:=
 Ae Bq HU Tryz.func105 rfl (by kernel_rfl) (by kernel_rfl) (by kernel_rfl) h
theorem CQ:Ao Tryz.prog 105=true:=by kernel_rfl
abbrev F2:FuncId:=180
def Cg (σ:Hp) (s_A:Option Addr) (s_n _:Nat) (f:Value) (R:Value->Hp->Prop):Prop:=
 cut (α:=Hp->Prop) (fun  σ2=>∀ _:Nat->Value,rt σ2 R (.int .i64 (-1))) (fun J3=>∃ I6:Nat->Int->Hp->Prop,(∃ n70,I6 n70 0 σ) /\
  ∀ n7:Nat,∀ n8:Int,∀ σ5:Hp,I6 n7 n8 σ5->∀ _:Nat->Value,bc (decide (n8<((s_n:Nat):Int))) (ix s_A s_n n8 5 (fun b9 a10=>
  ldI σ5 .i64 b9 a10 (fun n11=>ldI σ5 .i64 b9 (a10+1) (fun n12=>ldI σ5 .i64 b9 (a10+2) (fun n13=>
  ldS σ5 b9 (a10+3) (fun A14 l14 c14=>ldI σ5 .i64 b9 (a10+4) (fun n15=>cl Tryz.prog f #[(.agg #[.int .i64 n11,.int .i64 n12,.int .i64 n13,.slice A14 l14 c14,.int .i64 n15])] σ5 (fun v16 σ17=>
  ∃ t18:Bool,(v16=(.bool t18)/\bc t18 (rt σ17 R (.int .i64 n8)) (wk .i64 (n8+1) (fun n19=>bk σ17 n7 (fun m20 σ21=>
  I6 m20 n19 σ21)))))))))))) (J3 σ5))
def Fc:MAn:=(.seq (.txt []) (.cut ⟨[],0,[],[]⟩ (.seq (.txt []) (.block (.loop ⟨[],0,[.slot 8 (.sc (.int .i64))],[(0,true),(1,false),(7,true)]⟩ (.seq (.txt []) (.seq (.cond .leaf .leaf) (.seq (.block (.seq (.txt []) (.seq (.txt []) (.cond (.seq (.txt []) .leaf) .leaf)))) (.txt []))))))) (.seq (.txt []) .leaf)))
theorem Fb (σ:Hp) (s_A:Option Addr) (s_n s_c:Nat) (f:Value) (R:Value->Hp->Prop) (h:Cg σ s_A s_n s_c f R):Af Tryz.prog 180 #[.slice s_A s_n s_c,f] σ R:=
 Ae Bq Fc Tryz.func180 rfl (by kernel_rfl) (by kernel_rfl) (by kernel_rfl) h
theorem D7:Ao Tryz.prog 180=true:=by kernel_rfl
abbrev V4:FuncId:=137
def Ka (σ:Hp) (f1:Option Addr) (y0 _:Nat) (R:Value->Hp->Prop):Prop:=
 cut (α:=Hp->Prop) (fun  σ2=>∀ _:Nat->Value,rt σ2 R (.int .i64 0)) (fun J3=>∃ I6:Nat->Int->Hp->Prop,(∃ n70,I6 n70 0 σ) /\
  ∀ n7:Nat,∀ n8:Int,∀ σ5:Hp,I6 n7 n8 σ5->∀ _:Nat->Value,bc (decide (n8<((y0:Nat):Int))) (ix f1 y0 n8 1 (fun b9 a10=>
  ldI σ5 .i64 b9 a10 (fun n11=>bc (!decide (n11=0)) (rt σ5 R (.int .i64 n11)) (wk .i64 (n8+1) (fun n12=>
  bk σ5 n7 (fun m13 σ14=>I6 m13 n12 σ14)))))) (J3 σ5))
def SH:MAn:=(.seq (.txt []) (.seq (.txt []) (.cut ⟨[],0,[],[(3,true)]⟩ (.seq (.txt []) (.block (.loop ⟨[],0,[.slot 8 (.sc (.int .i64))],[(3,true),(6,true),(7,true)]⟩ (.seq (.txt []) (.seq (.cond .leaf .leaf) (.seq (.block (.seq (.txt []) (.seq (.txt []) (.cond (.seq (.txt []) .leaf) .leaf)))) (.txt []))))))) (.seq (.txt []) .leaf))))
theorem SQ (σ:Hp) (f1:Option Addr) (y0 h1:Nat) (R:Value->Hp->Prop) (h:Ka σ f1 y0 h1 R):Af Tryz.prog 137 #[.slice f1 y0 h1] σ R:=
 Ae Bq SH Tryz.func137 rfl (by kernel_rfl) (by kernel_rfl) (by kernel_rfl) h
theorem Om:Ao Tryz.prog 137=true:=by kernel_rfl
abbrev Gc:FuncId:=231
def Cf (σ:Hp) (s_A:Option Addr) (s_n _:Nat) (f:Value) (R:Value->Hp->Prop):Prop:=
 cut (α:=Hp->Prop) (fun  σ2=>∀ _:Nat->Value,rt σ2 R (.int .i64 (-1))) (fun J3=>∃ I6:Nat->Int->Hp->Prop,(∃ n70,I6 n70 0 σ) /\
  ∀ n7:Nat,∀ n8:Int,∀ σ5:Hp,I6 n7 n8 σ5->∀ _:Nat->Value,bc (decide (n8<((s_n:Nat):Int))) (ix s_A s_n n8 5 (fun b9 a10=>
  ldI σ5 .i64 b9 a10 (fun n11=>ldI σ5 .i64 b9 (a10+1) (fun n12=>ldI σ5 .i64 b9 (a10+2) (fun n13=>
  ldI σ5 .i64 b9 (a10+3) (fun n14=>ldB σ5 b9 (a10+4) (fun t15=>cl Tryz.prog f #[(.agg #[.int .i64 n11,.int .i64 n12,.int .i64 n13,.int .i64 n14,.bool t15])] σ5 (fun v16 σ17=>
  ∃ t18:Bool,(v16=(.bool t18)/\bc t18 (rt σ17 R (.int .i64 n8)) (wk .i64 (n8+1) (fun n19=>bk σ17 n7 (fun m20 σ21=>
  I6 m20 n19 σ21)))))))))))) (J3 σ5))
def Fa:MAn:=(.seq (.txt []) (.cut ⟨[],0,[],[]⟩ (.seq (.txt []) (.block (.loop ⟨[],0,[.slot 8 (.sc (.int .i64))],[(0,true),(1,false),(7,true)]⟩ (.seq (.txt []) (.seq (.cond .leaf .leaf) (.seq (.block (.seq (.txt []) (.seq (.txt []) (.cond (.seq (.txt []) .leaf) .leaf)))) (.txt []))))))) (.seq (.txt []) .leaf)))
theorem E8 (σ:Hp) (s_A:Option Addr) (s_n s_c:Nat) (f:Value) (R:Value->Hp->Prop) (h:Cf σ s_A s_n s_c f R):Af Tryz.prog 231 #[.slice s_A s_n s_c,f] σ R:=
 Ae Bq Fa Tryz.func231 rfl (by kernel_rfl) (by kernel_rfl) (by kernel_rfl) h
theorem D6:Ao Tryz.prog 231=true:=by kernel_rfl
abbrev EJ:FuncId:=136
def Ht (σ:Hp) (e0 j0 _:Int) (_:Bool) (_ g0 f0 i0 _:Int) (_:Bool) (_ h0:Int) (R:Value->Hp->Prop):Prop:=
 wk .i64 (g0-h0) (fun n1=>wk .i64 (e0-f0) (fun n2=>wk .i64 (j0-i0) (fun n3=>
  exl 3 [.int .i64] ([n1,n2,n3]:List Int) σ (fun A4 l4 c4 σ5=>cl Tryz.prog (.func (.func 137) #[] #[]) #[.slice A4 l4 c4] σ5 (fun v6 σ7=>
  ∃ n8:Int,(v6=(.int .i64 n8)/\rt σ7 R (.int .i64 n8)))))))
def P3:MAn:=(.seq (.txt []) (.seq (.txt []) .leaf))
theorem Ql (σ:Hp) (e0 j0 r0:Int) (a_On:Bool) (q0 g0 f0 i0 t0:Int) (b_On:Bool) (s0 h0:Int) (R:Value->Hp->Prop) (h:Ht σ e0 j0 r0 a_On q0 g0 f0 i0 t0 b_On s0 h0 R):Af Tryz.prog 136 #[(.agg #[.int .i64 e0,.int .i64 j0,.int .i64 r0,.bool a_On,.int .i64 q0,.int .i64 g0]),(.agg #[.int .i64 f0,.int .i64 i0,.int .i64 t0,.bool b_On,.int .i64 s0,.int .i64 h0])] σ R:=
 Ae Bq P3 Tryz.func136 rfl (by kernel_rfl) (by kernel_rfl) (by kernel_rfl) h
abbrev Lw:FuncId:=197
def CY (σ:Hp) (m0 u0:Int) (cap0 cap1:Option Addr) (R:Value->Hp->Prop):Prop:=
 dr cap0 (fun b1 o2=>ldP σ b1 o2 (fun p3=>dr p3 (fun b4 o5=>ldI σ .i64 b4 (o5+3) (fun n6=>wk .i64 (n6-u0) (fun n7=>
  dr cap0 (fun b8 o9=>ldP σ b8 o9 (fun p10=>dr p10 (fun b11 o12=>ldS σ b11 (o12+2) (fun A13 l13 _=>
  ix A13 l13 m0 1 (fun b14 a15=>ldP σ b14 a15 (fun p16=>dr p16 (fun b17 o18=>ldI σ .i64 b17 (o18+4) (fun n19=>
  cut (α:=Hp->Prop) (fun  σ21=>∀ _:Nat->Value,rt σ21 R (.bool (decide (n19<n7)))) (fun J22=>
  bc (decide (n19<n7)) (dr cap1 (fun b23 o24=>ldS σ b23 o24 (fun A25 l25 c25=>adp 206 [.int .i64,.int .i64] A25 l25 c25 σ (fun (xs26:List (Int×Int)) σ27=>
  Bm (List.length xs26+List.length ([(m0,u0)]:List (Int×Int))) (exl 206 [.int .i64,.int .i64] (xs26++([(m0,u0)]:List (Int×Int))) σ27 (fun A28 l28 c28 σ29=>
  dr cap1 (fun b30 o31=>st σ29 b30 o31 (.slice A28 l28 c28) (fun σ32=>J22 σ32)))))))) (J22 σ)))))))))))))))
def Az:OA:=⟨[],false,[]⟩
def IC:MAn:=(.seq (.txt []) (.seq (.plan [] (tkVQ1 21 0 Az .done)) (.cut ⟨[true],1,[],[(5,true)]⟩ (.seq (.txt []) (.cond (.txt []) .leaf)) (.seq (.txt []) .leaf))))
theorem Ic (σ:Hp) (m0 u0:Int) (cap0 cap1:Option Addr) (R:Value->Hp->Prop) (h:CY σ m0 u0 cap0 cap1 R):Af Tryz.prog 197 #[(.agg #[.int .i64 m0,.int .i64 u0]),.pointer cap0,.pointer cap1] σ R:=
 Ae Bq IC Tryz.func197 rfl (by kernel_rfl) (by kernel_rfl) (by kernel_rfl) h
theorem GI:Ao Tryz.prog 197=true:=by kernel_rfl
abbrev C1:FuncId:=199
def C6 (σ:Hp) (d1 _ x0 _:Int) (R:Value->Hp->Prop):Prop:=
 wk .i64 (d1-x0) (fun n1=>rt σ R (.int .i64 n1))
def Ie:MAn:=(.seq (.txt []) (.seq (.txt []) .leaf))
theorem IR (σ:Hp) (d1 i1 x0 j1:Int) (R:Value->Hp->Prop) (h:C6 σ d1 i1 x0 j1 R):Af Tryz.prog 199 #[(.agg #[.int .i64 d1,.int .i64 i1]),(.agg #[.int .i64 x0,.int .i64 j1])] σ R:=
 Ae Bq Ie Tryz.func199 rfl (by kernel_rfl) (by kernel_rfl) (by kernel_rfl) h
end Go.Proofs.YthhadkggldcolaaGreat
