/- Trimmed by wip/trim.py to what this claim rests on. -/
import Derived.Test.YthhadkggldcolaaGreatPB11
namespace Go.Proofs.YthhadkggldcolaaGreat
set_option maxRecDepth 100000
open Go.RowKit
theorem Bp:Tryz.prog.follows .mixedOrders=true:=by kernel_rfl
abbrev WG:FuncId:=66
def LV (σ:Hp) (_:Option Addr) (a0 _:Nat) (_:Int) (l_A:Option Addr) (l_n _:Nat) (R:Value->Hp->Prop):Prop :=
 cut (α:=Hp->Prop) (fun  σ2=>∀ _:Nat->Value,cut (α:=Hp->Prop) (fun  σ5=>∀ _:Nat->Value,
  rt σ5 R (.bool false)) (fun J6=>∃ I9:Nat->Int->Hp->Prop,(∃ n100,I9 n100 0 σ2)/\∀ n10:Nat,∀ n11:Int,∀ σ8:Hp,I9 n10 n11 σ8->∀ _:Nat->Value,bc (decide (n11 < ((l_n:Nat):Int))) (ix l_A l_n n11 5 (fun b12 a13 =>
  ldS σ8 b12 (a13 + 3) (fun _ l14 _=>bc (decide ((20:Int) < ((l14:Nat):Int))) (rt σ8 R (.bool true)) (wk .i64 (n11 + 1) (fun n15 =>
  bk σ8 n10 (fun m16 σ17=>I9 m16 n15 σ17)))))) (J6 σ8))) (fun J3=>cut (α:=Bool->Hp->Prop) (fun t21 σ19 =>
  ∀ _:Nat->Value,bc t21 (rt σ19 R (.bool true)) (J3 σ19)) (fun J20=>bc (decide ((10:Int) < ((a0:Nat):Int))) (J20 true σ) (J20 (decide ((70:Int) < ((l_n:Nat):Int))) σ)))
def Tu:MAn:=(.seq (.txt []) (.cut ⟨[true],1,[],[(1,true)]⟩ (.cut ⟨[true],1,[.slot 14 (.sc (.bool))],[(1,true)]⟩ (.txt [⟨[],false,[]⟩,⟨[],false,[]⟩,⟨[],false,[]⟩,⟨[],false,[]⟩,⟨[],true,[]⟩]) (.cond (.seq (.txt []) .leaf) .leaf)) (.cut ⟨[true],1,[],[]⟩ (.seq (.txt []) (.block (.loop ⟨[true],1,[.slot 5 (.sc (.int .i64))],[(1,true)]⟩ (.seq (.seq (.txt []) (.cond .leaf .leaf)) (.seq (.block (.seq (.txt []) (.cond (.seq (.txt []) .leaf) .leaf))) (.txt [])))))) (.seq (.txt []) .leaf))))
theorem SZ (σ:Hp) (b0:Option Addr) (a0 c0:Nat) (d0:Int) (l_A:Option Addr) (l_n l_c:Nat) (R:Value->Hp->Prop) (h:LV σ b0 a0 c0 d0 l_A l_n l_c R):Af Tryz.prog 66 #[(.agg #[.slice b0 a0 c0,.int .i64 d0]),.slice l_A l_n l_c] σ R :=
 Ae Bp Tu Tryz.func66 rfl (by kernel_rfl) (by kernel_rfl) (M:=LV σ b0 a0 c0 d0 l_A l_n l_c R) (by kernel_rfl) h
theorem Pr:Ao Tryz.prog 66=true:=by kernel_rfl
abbrev NJ:FuncId:=51
def IF (σ:Hp) (b0:Option Addr) (a0 c0:Nat) (d0:Int) (l_A:Option Addr) (l_n l_c:Nat) (R:Value->Hp->Prop):Prop :=
 cl Tryz.prog (.func (.func 98) #[] #[]) #[(.agg #[.slice b0 a0 c0,.int .i64 d0])] σ (fun v1 σ2 =>
  ∃ n3:Int,(v1=(.int .i64 n3)/\bc (!decide (n3=0)) (rt σ2 R (.int .i64 n3)) (bx σ2 (.cells #[.slice b0 a0 c0,.int .i64 d0] 24) (fun b4 σ5 =>
  cut (α:=Hp->Prop) (fun  σ7=>∀ _:Nat->Value,rt σ7 R (.int .i64 0)) (fun J8=>cut (α:=Bool->Hp->Prop) (fun t12 σ10 =>
  ∀ _:Nat->Value,bc t12 (rt σ10 R (.int .i64 71)) (J8 σ10)) (fun J11=>bc (decide ((60:Int) < ((l_n:Nat):Int))) (J11 true σ5) (cl Tryz.prog (.func (.func 102) #[] #[]) #[.slice l_A l_n l_c,(.func (.func 99) #[] #[(.pointer (some ⟨b4,0,none⟩))])] σ5 (fun v13 σ14 =>
  ∃ t15:Bool,(v13=(.bool t15)/\J11 t15 σ14)))))))))
def Rg:MAn:=(.seq (.txt []) (.seq (.seq (.txt []) (.seq (.txt []) (.cond (.seq (.txt []) .leaf) .leaf))) (.seq (.txt []) (.cut ⟨[false],1,[],[]⟩ (.cut ⟨[false],1,[.slot 20 (.sc (.bool))],[]⟩ (.txt [⟨[],false,[]⟩,⟨[],false,[]⟩,⟨[],false,[]⟩,⟨[],true,[]⟩]) (.cond (.seq (.txt []) .leaf) .leaf)) (.seq (.txt []) .leaf)))))
theorem Qw (σ:Hp) (b0:Option Addr) (a0 c0:Nat) (d0:Int) (l_A:Option Addr) (l_n l_c:Nat) (R:Value->Hp->Prop) (h:IF σ b0 a0 c0 d0 l_A l_n l_c R):Af Tryz.prog 51 #[(.agg #[.slice b0 a0 c0,.int .i64 d0]),.slice l_A l_n l_c] σ R :=
 Ae Bp Rg Tryz.func51 rfl (by kernel_rfl) (by kernel_rfl) (M:=IF σ b0 a0 c0 d0 l_A l_n l_c R) (by kernel_rfl) h
theorem Dw:Ao Tryz.prog 51=true:=by kernel_rfl
abbrev P2:FuncId:=34
def JY (σ:Hp) (b0:Option Addr) (a0 _:Nat) (d0:Int) (R:Value->Hp->Prop):Prop :=
 (((∃ ys1:List (Int×Int×Int×Int×Bool),RdS [.int .i64,.int .i64,.int .i64,.int .i64,.bool] σ b0 a0 ys1 /\
  Bj (List.length ([]:List (Int×Int×Int×Int×Bool)) + List.length ys1) (exl 89 [.int .i64,.int .i64,.int .i64,.int .i64,.bool] (([]:List (Int×Int×Int×Int×Bool))++ys1) σ (fun A2 l2 c2 σ3 =>
  rt σ3 R (.agg #[.slice A2 l2 c2,.int .i64 d0]))))/\(∃ ys4:List (Int×Int×Int×Int×Bool),RdS [.int .i64,.int .i64,.int .i64,.int .i64,.bool] σ b0 a0 ys4 /\
  Bj (List.length ([]:List (Int×Int×Int×Int×Bool)) + List.length ys4) (exl 89 [.int .i64,.int .i64,.int .i64,.int .i64,.bool] (([]:List (Int×Int×Int×Int×Bool))++ys4) σ (fun A5 l5 c5 σ6 =>
  rt σ6 R (.agg #[.slice A5 l5 c5,.int .i64 d0])))))/\(∃ ys7:List (Int×Int×Int×Int×Bool),RdS [.int .i64,.int .i64,.int .i64,.int .i64,.bool] σ b0 a0 ys7 /\
  Bj (List.length ([]:List (Int×Int×Int×Int×Bool)) + List.length ys7) (exl 89 [.int .i64,.int .i64,.int .i64,.int .i64,.bool] (([]:List (Int×Int×Int×Int×Bool))++ys7) σ (fun A8 l8 c8 σ9 =>
  rt σ9 R (.agg #[.slice A8 l8 c8,.int .i64 d0])))))
def Bi:OA:=⟨[],false,[]⟩
def SF:MAn:=(.seq (.txt []) (.seq (.plan [3,7] (.take 1 Bi (.take 2 Bi (.take 4 Bi (.alt 0 true Bi (.alt 3 false Bi (.take 5 Bi (.take 6 Bi (.alt 7 false Bi .done .done))) (.alt 5 true Bi (.alt 3 false Bi (.take 6 Bi (.alt 7 false Bi .done .done)) .done) .done)) (.alt 5 true Bi (.alt 0 true Bi (.alt 3 false Bi (.take 6 Bi (.alt 7 false Bi .done .done)) .done) .done) .done)))))) .leaf))
theorem Sf (σ:Hp) (b0:Option Addr) (a0 c0:Nat) (d0:Int) (R:Value->Hp->Prop) (h:JY σ b0 a0 c0 d0 R):Af Tryz.prog 34 #[(.agg #[.slice b0 a0 c0,.int .i64 d0])] σ R :=
 Ae Bp SF Tryz.func34 rfl (by kernel_rfl) (by kernel_rfl) (M:=JY σ b0 a0 c0 d0 R) (by kernel_rfl) h
theorem Of:Ao Tryz.prog 34=true:=by kernel_rfl
abbrev G1:FuncId:=70
def CC (σ:Hp) (l_A:Option Addr) (l_n _:Nat) (R:Value->Hp->Prop):Prop :=
 ∃ ys1:List (Int×Int×Int×(Option Addr×Nat×Nat)×Int),RdS [.int .i64,.int .i64,.int .i64,.slc,.int .i64] σ l_A l_n ys1 /\
  Bj (List.length ([]:List (Int×Int×Int×(Option Addr×Nat×Nat)×Int)) + List.length ys1) (cut (α:=Option Addr->Nat->Nat->Hp->Prop) (fun A5 l5 c5 σ3 =>
  ∀ _:Nat->Value,rt σ3 R (.slice A5 l5 c5)) (fun J4=>∃ I8:Nat->Option Addr->Nat->Nat->Int->Hp->Prop,(∃ n90,exl 61 [.int .i64,.int .i64,.int .i64,.slc,.int .i64] (([]:List (Int×Int×Int×(Option Addr×Nat×Nat)×Int))++ys1) σ (fun A10 l10 c10 σ11 =>
  I8 n90 A10 l10 c10 0 σ11))/\∀ n9:Nat,∀ A12:Option Addr,∀ l12 c12:Nat,∀ n13:Int,∀ σ7:Hp,I8 n9 A12 l12 c12 n13 σ7->∀ _:Nat->Value,bc (decide (n13 < ((l12:Nat):Int))) (ix A12 l12 n13 5 (fun b14 a15 =>
  ldS σ7 b14 (a15 + 3) (fun A16 l16 _=>∃ ys17:List Int,RdS [.int .i64] σ7 A16 l16 ys17/\Bj (List.length ([]:List Int) + List.length ys17) (ix A12 l12 n13 5 (fun b18 a19 =>
  exl 3 [.int .i64] (([]:List Int)++ys17) σ7 (fun A20 l20 c20 σ21=>st σ21 b18 (a19 + 3) (.slice A20 l20 c20) (fun σ22 =>
  wk .i64 (n13 + 1) (fun n23=>bk σ22 n9 (fun m24 σ25=>I8 m24 A12 l12 c12 n23 σ25))))))))) (J4 A12 l12 c12 σ7)))
def Lw:MAn:=(.seq (.txt []) (.seq (.txt []) (.cut ⟨[false],1,[.slot 3 (.sc (.slc))],[]⟩ (.seq (.txt []) (.block (.loop ⟨[false],1,[.slot 3 (.sc (.slc)),.slot 4 (.sc (.int .i64))],[]⟩ (.seq (.seq (.txt []) (.cond .leaf .leaf)) (.seq (.block (.txt [])) (.txt [])))))) (.seq (.txt []) .leaf))))
theorem Fd (σ:Hp) (l_A:Option Addr) (l_n l_c:Nat) (R:Value->Hp->Prop) (h:CC σ l_A l_n l_c R):Af Tryz.prog 70 #[.slice l_A l_n l_c] σ R :=
 Ae Bp Lw Tryz.func70 rfl (by kernel_rfl) (by kernel_rfl) (M:=CC σ l_A l_n l_c R) (by kernel_rfl) h
theorem DL:Ao Tryz.prog 70=true:=by kernel_rfl
abbrev NM:FuncId:=58
def Il (σ:Hp) (b0:Option Addr) (a0 c0:Nat) (d0:Int) (l_A:Option Addr) (l_n _:Nat) (R:Value->Hp->Prop):Prop :=
 cl Tryz.prog (.func (.func 106) #[] #[]) #[(.agg #[.slice b0 a0 c0,.int .i64 d0])] σ (fun v1 σ2 =>
  ∃ n3:Int,(v1=(.int .i64 n3)/\bc (!decide (n3=0)) (rt σ2 R (.int .i64 n3)) (bc (decide ((60:Int) < ((l_n:Nat):Int))) (rt σ2 R (.int .i64 71)) (cut (α:=Hp->Prop) (fun  σ5 =>
  ∀ _:Nat->Value,rt σ5 R (.int .i64 0)) (fun J6=>∃ I9:Nat->Int->Hp->Prop,(∃ n100,I9 n100 0 σ2) /\
  ∀ n10:Nat,∀ n11:Int,∀ σ8:Hp,I9 n10 n11 σ8->∀ _:Nat->Value,bc (decide (n11 < ((l_n:Nat):Int))) (cut (α:=Hp->Prop) (fun  σ13 =>
  ∀ _:Nat->Value,wk .i64 (n11 + 1) (fun n15=>bk σ13 n10 (fun m16 σ17=>I9 m16 n15 σ17))) (fun J14 =>
  ix l_A l_n n11 5 (fun b18 a19=>ldI σ8 .i64 b18 a19 (fun n20=>ldI σ8 .i64 b18 (a19 + 1) (fun n21 =>
  ldI σ8 .i64 b18 (a19 + 2) (fun n22=>ldS σ8 b18 (a19 + 3) (fun A23 l23 _=>ldI σ8 .i64 b18 (a19 + 4) (fun n24 =>
  cut (α:=Hp->Prop) (fun  σ26=>∀ _:Nat->Value,∃ I30:Nat->Int->Hp->Prop,(∃ n310,I30 n310 0 σ26) /\
  ∀ n31:Nat,∀ n32:Int,∀ σ29:Hp,I30 n31 n32 σ29->∀ _:Nat->Value,bc (decide (n32 < ((l23:Nat):Int))) (ix A23 l23 n32 1 (fun b33 a34 =>
  ldI σ29 .i64 b33 a34 (fun n35=>wk .i64 (((a0:Nat):Int) - 1) (fun n36=>cl Tryz.prog (.func (.func 107) #[] #[]) #[.int .i64 n35,.int .i64 0,.int .i64 n36] σ29 (fun v37 σ38 =>
  ∃ t39:Bool,(v37=(.bool t39)/\bc (!t39) (rt σ38 R (.int .i64 71)) (wk .i64 (n32 + 1) (fun n40 =>
  bk σ38 n31 (fun m41 σ42=>I30 m41 n40 σ42))))))))) (J14 σ29)) (fun J27=>cut (α:=Bool->Hp->Prop) (fun t46 σ44 =>
  ∀ _:Nat->Value,bc t46 (rt σ44 R (.int .i64 71)) (J27 σ44)) (fun J45=>cl Tryz.prog (.func (.func 107) #[] #[]) #[.int .i64 n20,.int .i64 0,.int .i64 2000] σ8 (fun v47 σ48 =>
  ∃ t49:Bool,(v47=(.bool t49)/\bc (!t49) (J45 true σ48) (cl Tryz.prog (.func (.func 107) #[] #[]) #[.int .i64 n21,.int .i64 1,.int .i64 40] σ48 (fun v50 σ51 =>
  ∃ t52:Bool,(v50=(.bool t52)/\bc (!t52) (J45 true σ51) (cl Tryz.prog (.func (.func 107) #[] #[]) #[.int .i64 n22,.int .i64 0,.int .i64 10000] σ51 (fun v53 σ54 =>
  ∃ t55:Bool,(v53=(.bool t55)/\bc (!t55) (J45 true σ54) (bc (decide ((10:Int) < ((l23:Nat):Int))) (J45 true σ54) (cl Tryz.prog (.func (.func 107) #[] #[]) #[.int .i64 n24,.int .i64 0,.int .i64 2000] σ54 (fun v56 σ57 =>
  ∃ t58:Bool,(v56=(.bool t58)/\J45 (!t58) σ57)))))))))))))))))))))) (J6 σ8))))))
def AE:OA:=⟨[],false,[]⟩
def Rr:MAn:=(.seq (.txt []) (.seq (.txt []) (.seq (.seq (.txt []) (.cond (.seq (.txt []) .leaf) .leaf)) (.seq (.seq (.txt []) (.cond (.seq (.txt []) .leaf) .leaf)) (.cut ⟨[true],1,[],[]⟩ (.seq (.txt []) (.block (.loop ⟨[true],1,[.slot 2 (.hb 0 0),.slot 6 (.sc (.int .i64))],[(1,true)]⟩ (.seq (.seq (.txt []) (.cond .leaf .leaf)) (.cut ⟨[true],1,[.slot 2 (.hb 0 0)],[(1,true),(6,true)]⟩ (.block (.seq (.txt []) (.cut ⟨[true,true],2,[.slot 2 (.hb 0 0),.slot 7 (.hb 1 0)],[(1,true),(6,true)]⟩ (.cut ⟨[true,true],2,[.slot 2 (.hb 0 0),.slot 7 (.hb 1 0),.slot 54 (.sc (.bool))],[(1,true),(6,true)]⟩ (.txt [AE,AE,AE,AE,⟨[],true,[]⟩,AE,AE,AE,AE,AE,⟨[],true,[]⟩,AE,AE,AE,AE,AE,⟨[],true,[]⟩,AE,AE,AE,AE,AE,⟨[],true,[]⟩]) (.cond (.seq (.txt []) .leaf) .leaf)) (.seq (.txt []) (.block (.loop ⟨[true,true],2,[.slot 2 (.hb 0 0),.slot 7 (.hb 1 0),.slot 8 (.sc (.int .i64))],[(1,true),(6,true)]⟩ (.seq (.seq (.txt []) (.cond .leaf .leaf)) (.seq (.block (.seq (.plan [9] (.take 0 AE (.take 1 AE (.take 2 AE (.take 3 AE (.take 4 AE (.take 5 AE (.take 6 AE (.take 7 AE (.take 8 AE (.alt 9 false AE (.take 10 AE .done) .done))))))))))) (.cond (.seq (.txt []) .leaf) .leaf))) (.txt []))))))))) (.txt [])))))) (.seq (.txt []) .leaf))))))
theorem Q3 (σ:Hp) (b0:Option Addr) (a0 c0:Nat) (d0:Int) (l_A:Option Addr) (l_n l_c:Nat) (R:Value->Hp->Prop) (h:Il σ b0 a0 c0 d0 l_A l_n l_c R):Af Tryz.prog 58 #[(.agg #[.slice b0 a0 c0,.int .i64 d0]),.slice l_A l_n l_c] σ R :=
 Ae Bp Rr Tryz.func58 rfl (by kernel_rfl) (by kernel_rfl) (M:=Il σ b0 a0 c0 d0 l_A l_n l_c R) (by kernel_rfl) h
theorem DF:Ao Tryz.prog 58=true:=by kernel_rfl
abbrev VP:FuncId:=68
def JM (σ:Hp) (b0:Option Addr) (a0 c0:Nat) (d0:Int) (l_A:Option Addr) (l_n l_c:Nat) (R:Value->Hp->Prop):Prop :=
 cl Tryz.prog (.func (.func 124) #[] #[]) #[(.agg #[.slice b0 a0 c0,.int .i64 d0]),.slice l_A l_n l_c,(.func (.func 125) #[] #[]),(.func (.func 126) #[] #[])] σ (fun v1 σ2 =>
  ∃ A3:Option Addr,∃ l3 c3:Nat,∃ n4:Int,(v1=(.tuple #[.slice A3 l3 c3,.int .i64 n4]) /\
  rt σ2 R (.tuple #[.slice A3 l3 c3,.int .i64 n4])))
def R4:MAn:=(.seq (.txt []) (.seq (.txt []) .leaf))
theorem SI (σ:Hp) (b0:Option Addr) (a0 c0:Nat) (d0:Int) (l_A:Option Addr) (l_n l_c:Nat) (R:Value->Hp->Prop) (h:JM σ b0 a0 c0 d0 l_A l_n l_c R):Af Tryz.prog 68 #[(.agg #[.slice b0 a0 c0,.int .i64 d0]),.slice l_A l_n l_c] σ R :=
 Ae Bp R4 Tryz.func68 rfl (by kernel_rfl) (by kernel_rfl) (M:=JM σ b0 a0 c0 d0 l_A l_n l_c R) (by kernel_rfl) h
theorem N0:Ao Tryz.prog 68=true:=by kernel_rfl
abbrev U4:FuncId:=127
def Kp (σ:Hp) (b0:Option Addr) (a0 c0:Nat) (d0:Int) (l_A:Option Addr) (l_n l_c:Nat) (R:Value->Hp->Prop):Prop :=
 cl Tryz.prog (.func (.func 58) #[] #[]) #[(.agg #[.slice b0 a0 c0,.int .i64 d0]),.slice l_A l_n l_c] σ (fun v1 σ2 =>
  ∃ n3:Int,(v1=(.int .i64 n3)/\bc (!decide (n3=0)) (rt σ2 R (.tuple #[.slice none 0 0,.int .i64 n3])) (cl Tryz.prog (.func (.func 128) #[] #[]) #[(.agg #[.slice b0 a0 c0,.int .i64 d0]),.slice l_A l_n l_c] σ2 (fun v4 σ5 =>
  ∃ p6:Option Addr,(v4=(.pointer p6)/\dr p6 (fun b7 o8=>ldS σ5 b7 (o8 + 11) (fun A9 l9 c9=>rt σ5 R (.tuple #[.slice A9 l9 c9,.int .i64 0]))))))))
def R7:MAn:=(.seq (.txt []) (.seq (.txt []) (.seq (.seq (.txt []) (.cond (.seq (.txt []) .leaf) .leaf)) (.seq (.txt []) .leaf))))
theorem RR (σ:Hp) (b0:Option Addr) (a0 c0:Nat) (d0:Int) (l_A:Option Addr) (l_n l_c:Nat) (R:Value->Hp->Prop) (h:Kp σ b0 a0 c0 d0 l_A l_n l_c R):Af Tryz.prog 127 #[(.agg #[.slice b0 a0 c0,.int .i64 d0]),.slice l_A l_n l_c] σ R :=
 Ae Bp R7 Tryz.func127 rfl (by kernel_rfl) (by kernel_rfl) (M:=Kp σ b0 a0 c0 d0 l_A l_n l_c R) (by kernel_rfl) h
theorem NZ:Ao Tryz.prog 127=true:=by kernel_rfl
abbrev RP:FuncId:=95
def Gb (σ:Hp) (R:Value->Hp->Prop):Prop :=
 exl 89 [.int .i64,.int .i64,.int .i64,.int .i64,.bool] ([(4,2,3,1,false),(2,5,2,0,false)]:List (Int×Int×Int×Int×Bool)) σ (fun A1 l1 c1 σ2 =>
  exl 3 [.int .i64] ([0,1]:List Int) σ2 (fun A3 l3 c3 σ4=>exl 3 [.int .i64] ([0,1]:List Int) σ4 (fun A5 l5 c5 σ6 =>
  exl 61 [.int .i64,.int .i64,.int .i64,.slc,.int .i64] ([(0,3,20,(A3,l3,c3),100),(0,2,30,(A5,l5,c5),100)]:List (Int×Int×Int×(Option Addr×Nat×Nat)×Int)) σ6 (fun A7 l7 c7 σ8 =>
  rt σ8 R (.tuple #[(.agg #[.slice A1 l1 c1,.int .i64 1]),.slice A7 l7 c7])))))
def N3:MAn:=(.seq (.txt []) (.seq (.txt []) (.seq (.txt []) .leaf)))
theorem Ox (σ:Hp) (R:Value->Hp->Prop) (h:Gb σ  R):Af Tryz.prog 95 #[] σ R :=
 Ae Bp N3 Tryz.func95 rfl (by kernel_rfl) (by kernel_rfl) (M:=Gb σ  R) (by kernel_rfl) h
theorem Lv:Ao Tryz.prog 95=true:=by kernel_rfl
abbrev R2:FuncId:=98
def F8 (σ:Hp) (b0:Option Addr) (a0 c0:Nat) (d0:Int) (R:Value->Hp->Prop):Prop :=
 cut (α:=Hp->Prop) (fun  σ2=>∀ _:Nat->Value,rt σ2 R (.int .i64 0)) (fun J3=>cut (α:=Bool->Hp->Prop) (fun t7 σ5 =>
  ∀ _:Nat->Value,bc t7 (rt σ5 R (.int .i64 70)) (J3 σ5)) (fun J6=>bc (decide ((8:Int) < ((a0:Nat):Int))) (J6 true σ) (cl Tryz.prog (.func (.func 101) #[] #[]) #[.int .i64 d0,.int .i64 0,.int .i64 100] σ (fun v8 σ9 =>
  ∃ t10:Bool,(v8=(.bool t10)/\bc (!t10) (J6 true σ9) (cl Tryz.prog (.func (.func 179) #[] #[]) #[.slice b0 a0 c0,(.func (.func 178) #[] #[])] σ9 (fun v11 σ12 =>
  ∃ t13:Bool,(v11=(.bool t13)/\J6 t13 σ12))))))))
def BD:OA:=⟨[],false,[]⟩
def Oc:MAn:=(.seq (.txt []) (.seq (.txt []) (.cut ⟨[true],1,[],[]⟩ (.cut ⟨[true],1,[.slot 19 (.sc (.bool))],[]⟩ (.txt [BD,BD,BD,BD,⟨[],true,[]⟩,BD,BD,BD,BD,BD,⟨[],true,[]⟩]) (.cond (.seq (.txt []) .leaf) .leaf)) (.seq (.txt []) .leaf))))
theorem Og (σ:Hp) (b0:Option Addr) (a0 c0:Nat) (d0:Int) (R:Value->Hp->Prop) (h:F8 σ b0 a0 c0 d0 R):Af Tryz.prog 98 #[(.agg #[.slice b0 a0 c0,.int .i64 d0])] σ R :=
 Ae Bp Oc Tryz.func98 rfl (by kernel_rfl) (by kernel_rfl) (M:=F8 σ b0 a0 c0 d0 R) (by kernel_rfl) h
theorem K1:Ao Tryz.prog 98=true:=by kernel_rfl
abbrev R8:FuncId:=99
def Ge (σ:Hp) (g_At y0 j0:Int) (i0:Option Addr) (e0 h0:Nat) (f0:Int) (cap0:Option Addr) (R:Value->Hp->Prop):Prop :=
 cl Tryz.prog (.func (.func 101) #[] #[]) #[.int .i64 g_At,.int .i64 0,.int .i64 2000] σ (fun v1 σ2 =>
  ∃ t3:Bool,(v1=(.bool t3)/\bc (!t3) (rt σ2 R (.bool true)) (cl Tryz.prog (.func (.func 101) #[] #[]) #[.int .i64 y0,.int .i64 1,.int .i64 40] σ2 (fun v4 σ5 =>
  ∃ t6:Bool,(v4=(.bool t6)/\bc (!t6) (rt σ5 R (.bool true)) (cl Tryz.prog (.func (.func 101) #[] #[]) #[.int .i64 j0,.int .i64 0,.int .i64 10000] σ5 (fun v7 σ8 =>
  ∃ t9:Bool,(v7=(.bool t9)/\bc (!t9) (rt σ8 R (.bool true)) (cl Tryz.prog (.func (.func 101) #[] #[]) #[.int .i64 f0,.int .i64 0,.int .i64 2000] σ8 (fun v10 σ11 =>
  ∃ t12:Bool,(v10=(.bool t12)/\bc (!t12) (rt σ11 R (.bool true)) (bc (decide ((10:Int) < ((e0:Nat):Int))) (rt σ11 R (.bool true)) (cl Tryz.prog (.func (.func 57) #[] #[]) #[.slice i0 e0 h0,(.func (.func 100) #[] #[.pointer cap0])] σ11 (fun v13 σ14 =>
  ∃ t15:Bool,(v13=(.bool t15)/\rt σ14 R (.bool t15))))))))))))))))
def AK:OA:=⟨[],false,[]⟩
def Oo:MAn:=(.seq (.txt []) (.seq (.txt []) (.seq (.txt [AK,AK,AK,AK,⟨[],true,[]⟩,AK,AK,AK,AK,AK,⟨[],true,[]⟩,AK,AK,AK,AK,AK,⟨[],true,[]⟩,AK,AK,AK,AK,AK,⟨[],true,[]⟩,AK,AK,AK,AK,AK,⟨[],true,[]⟩]) .leaf)))
theorem OU (σ:Hp) (g_At y0 j0:Int) (i0:Option Addr) (e0 h0:Nat) (f0:Int) (cap0:Option Addr) (R:Value->Hp->Prop) (h:Ge σ g_At y0 j0 i0 e0 h0 f0 cap0 R):Af Tryz.prog 99 #[(.agg #[.int .i64 g_At,.int .i64 y0,.int .i64 j0,.slice i0 e0 h0,.int .i64 f0]),.pointer cap0] σ R :=
 Ae Bp Oo Tryz.func99 rfl (by kernel_rfl) (by kernel_rfl) (M:=Ge σ g_At y0 j0 i0 e0 h0 f0 cap0 R) (by kernel_rfl) h
theorem Lp:Ao Tryz.prog 99=true:=by kernel_rfl
def EZ (σ:Hp) (n:Int) (cap0:Option Addr) (R:Value->Hp->Prop):Prop :=
 dr cap0 (fun b1 o2=>ldS σ b1 o2 (fun _ l3 _=>wk .i64 (((l3:Nat):Int) - 1) (fun n4=>cl Tryz.prog (.func (.func 101) #[] #[]) #[.int .i64 n,.int .i64 0,.int .i64 n4] σ (fun v5 σ6 =>
  ∃ t7:Bool,(v5=(.bool t7)/\rt σ6 R (.bool (!t7)))))))
def Ms:MAn:=(.seq (.txt []) (.seq (.txt []) .leaf))
theorem LH (σ:Hp) (n:Int) (cap0:Option Addr) (R:Value->Hp->Prop) (h:EZ σ n cap0 R):Af Tryz.prog 100 #[.int .i64 n,.pointer cap0] σ R :=
 Ae Bp Ms Tryz.func100 rfl (by kernel_rfl) (by kernel_rfl) (M:=EZ σ n cap0 R) (by kernel_rfl) h
theorem Jq:Ao Tryz.prog 100=true:=by kernel_rfl
abbrev Md:FuncId:=101
def GS (σ:Hp) (n low high:Int) (R:Value->Hp->Prop):Prop :=
 bc (decide (low<=n)) (rt σ R (.bool (decide (n<=high)))) (rt σ R (.bool false))
def P1:MAn:=(.seq (.txt []) (.seq (.txt [⟨[],false,[]⟩,⟨[],false,[]⟩,⟨[],false,[]⟩,⟨[],true,[]⟩]) .leaf))
theorem Qi (σ:Hp) (n low high:Int) (R:Value->Hp->Prop) (h:GS σ n low high R):Af Tryz.prog 101 #[.int .i64 n,.int .i64 low,.int .i64 high] σ R :=
 Ae Bp P1 Tryz.func101 rfl (by kernel_rfl) (by kernel_rfl) (M:=GS σ n low high R) (by kernel_rfl) h
theorem LR:Ao Tryz.prog 101=true:=by kernel_rfl
abbrev Dq:FuncId:=57
def BY (σ:Hp) (s_A:Option Addr) (s_n s_c:Nat) (f:Value) (R:Value->Hp->Prop):Prop :=
 cl Tryz.prog (.func (.func 105) #[] #[]) #[.slice s_A s_n s_c,f] σ (fun v1 σ2=>∃ n3:Int,(v1=(.int .i64 n3) /\
  rt σ2 R (.bool (decide ((0:Int)<=n3)))))
def F2:MAn:=(.seq (.txt []) (.seq (.txt []) .leaf))
theorem CL (σ:Hp) (s_A:Option Addr) (s_n s_c:Nat) (f:Value) (R:Value->Hp->Prop) (h:BY σ s_A s_n s_c f R):Af Tryz.prog 57 #[.slice s_A s_n s_c,f] σ R :=
 Ae Bp F2 Tryz.func57 rfl (by kernel_rfl) (by kernel_rfl) (M:=BY σ s_A s_n s_c f R) (by kernel_rfl) h
theorem Bq:Ao Tryz.prog 57=true:=by kernel_rfl
abbrev E5:FuncId:=102
def BX (σ:Hp) (s_A:Option Addr) (s_n s_c:Nat) (f:Value) (R:Value->Hp->Prop):Prop :=
 cl Tryz.prog (.func (.func 180) #[] #[]) #[.slice s_A s_n s_c,f] σ (fun v1 σ2=>∃ n3:Int,(v1=(.int .i64 n3) /\
  rt σ2 R (.bool (decide ((0:Int)<=n3)))))
def Ek:MAn:=(.seq (.txt []) (.seq (.txt []) .leaf))
theorem Eg (σ:Hp) (s_A:Option Addr) (s_n s_c:Nat) (f:Value) (R:Value->Hp->Prop) (h:BX σ s_A s_n s_c f R):Af Tryz.prog 102 #[.slice s_A s_n s_c,f] σ R :=
 Ae Bp Ek Tryz.func102 rfl (by kernel_rfl) (by kernel_rfl) (M:=BX σ s_A s_n s_c f R) (by kernel_rfl) h
theorem Dk:Ao Tryz.prog 102=true:=by kernel_rfl
abbrev LL:FuncId:=106
def C7 (σ:Hp) (b0:Option Addr) (a0 _:Nat) (d0:Int) (R:Value->Hp->Prop):Prop :=
 cut (α:=Hp->Prop) (fun  σ2=>∀ _:Nat->Value,cut (α:=Hp->Prop) (fun  σ5=>∀ _:Nat->Value,
  rt σ5 R (.int .i64 0)) (fun J6=>∃ I9:Nat->Int->Hp->Prop,(∃ n100,I9 n100 0 σ2)/\∀ n10:Nat,∀ n11:Int,∀ σ8:Hp,I9 n10 n11 σ8->∀ _:Nat->Value,bc (decide (n11 < ((a0:Nat):Int))) (cut (α:=Hp->Prop) (fun  σ13 =>
  ∀ _:Nat->Value,wk .i64 (n11 + 1) (fun n15=>bk σ13 n10 (fun m16 σ17=>I9 m16 n15 σ17))) (fun J14 =>
  ix b0 a0 n11 5 (fun b18 a19=>ldI σ8 .i64 b18 a19 (fun n20=>ldI σ8 .i64 b18 (a19 + 1) (fun n21 =>
  ldI σ8 .i64 b18 (a19 + 2) (fun n22=>ldI σ8 .i64 b18 (a19 + 3) (fun n23=>ldB σ8 b18 (a19 + 4) (fun _ =>
  cut (α:=Bool->Hp->Prop) (fun t28 σ26=>∀ _:Nat->Value,bc t28 (rt σ26 R (.int .i64 70)) (J14 σ26)) (fun J27 =>
  cl Tryz.prog (.func (.func 107) #[] #[]) #[.int .i64 n20,.int .i64 1,.int .i64 40] σ8 (fun v29 σ30 =>
  ∃ t31:Bool,(v29=(.bool t31)/\bc (!t31) (J27 true σ30) (cl Tryz.prog (.func (.func 107) #[] #[]) #[.int .i64 n21,.int .i64 0,.int .i64 100] σ30 (fun v32 σ33 =>
  ∃ t34:Bool,(v32=(.bool t34)/\bc (!t34) (J27 true σ33) (cl Tryz.prog (.func (.func 107) #[] #[]) #[.int .i64 n22,.int .i64 1,.int .i64 100] σ33 (fun v35 σ36 =>
  ∃ t37:Bool,(v35=(.bool t37)/\bc (!t37) (J27 true σ36) (cl Tryz.prog (.func (.func 107) #[] #[]) #[.int .i64 n23,.int .i64 0,.int .i64 100] σ36 (fun v38 σ39 =>
  ∃ t40:Bool,(v38=(.bool t40)/\J27 (!t40) σ39)))))))))))))))))))) (J6 σ8))) (fun J3=>cut (α:=Bool->Hp->Prop) (fun t44 σ42 =>
  ∀ _:Nat->Value,bc t44 (rt σ42 R (.int .i64 70)) (J3 σ42)) (fun J43=>bc (decide ((8:Int) < ((a0:Nat):Int))) (J43 true σ) (cl Tryz.prog (.func (.func 107) #[] #[]) #[.int .i64 d0,.int .i64 0,.int .i64 100] σ (fun v45 σ46 =>
  ∃ t47:Bool,(v45=(.bool t47)/\J43 (!t47) σ46)))))
def AJ:OA:=⟨[],false,[]⟩
def I1:MAn:=(.seq (.txt []) (.cut ⟨[true],1,[.slot 1 (.hb 0 0)],[]⟩ (.cut ⟨[true],1,[.slot 1 (.hb 0 0),.slot 14 (.sc (.bool))],[]⟩ (.txt [AJ,AJ,AJ,AJ,⟨[],true,[]⟩]) (.cond (.seq (.txt []) .leaf) .leaf)) (.cut ⟨[true],1,[],[]⟩ (.seq (.txt []) (.block (.loop ⟨[true],1,[.slot 1 (.hb 0 0),.slot 3 (.sc (.int .i64))],[]⟩ (.seq (.seq (.txt []) (.cond .leaf .leaf)) (.cut ⟨[true],1,[.slot 1 (.hb 0 0)],[(3,true)]⟩ (.block (.seq (.txt []) (.cut ⟨[true,true],2,[.slot 1 (.hb 0 0),.slot 48 (.sc (.bool))],[(3,true)]⟩ (.txt [AJ,AJ,AJ,AJ,⟨[],true,[]⟩,AJ,AJ,AJ,AJ,AJ,⟨[],true,[]⟩,AJ,AJ,AJ,AJ,AJ,⟨[],true,[]⟩]) (.cond (.seq (.txt []) .leaf) .leaf)))) (.txt [])))))) (.seq (.txt []) .leaf))))
theorem Jw (σ:Hp) (b0:Option Addr) (a0 c0:Nat) (d0:Int) (R:Value->Hp->Prop) (h:C7 σ b0 a0 c0 d0 R):Af Tryz.prog 106 #[(.agg #[.slice b0 a0 c0,.int .i64 d0])] σ R :=
 Ae Bp I1 Tryz.func106 rfl (by kernel_rfl) (by kernel_rfl) (M:=C7 σ b0 a0 c0 d0 R) (by kernel_rfl) h
theorem GU:Ao Tryz.prog 106=true:=by kernel_rfl
abbrev O6:FuncId:=107
def JD (σ:Hp) (n low high:Int) (R:Value->Hp->Prop):Prop :=
 bc (decide (low<=n)) (rt σ R (.bool (decide (n<=high)))) (rt σ R (.bool false))
def SH:MAn:=(.seq (.txt []) (.seq (.txt [⟨[],false,[]⟩,⟨[],false,[]⟩,⟨[],false,[]⟩,⟨[],true,[]⟩]) .leaf))
theorem Sl (σ:Hp) (n low high:Int) (R:Value->Hp->Prop) (h:JD σ n low high R):Af Tryz.prog 107 #[.int .i64 n,.int .i64 low,.int .i64 high] σ R :=
 Ae Bp SH Tryz.func107 rfl (by kernel_rfl) (by kernel_rfl) (M:=JD σ n low high R) (by kernel_rfl) h
theorem OH:Ao Tryz.prog 107=true:=by kernel_rfl
abbrev Ja:FuncId:=124
def Cv (σ:Hp) (b0:Option Addr) (a0 c0:Nat) (d0:Int) (l_A:Option Addr) (l_n l_c:Nat) (elements number:Value) (R:Value->Hp->Prop):Prop :=
 cl Tryz.prog (.func (.func 51) #[] #[]) #[(.agg #[.slice b0 a0 c0,.int .i64 d0]),.slice l_A l_n l_c] σ (fun v1 σ2 =>
  ∃ n3:Int,(v1=(.int .i64 n3)/\bc (!decide (n3=0)) (rt σ2 R (.tuple #[.slice none 0 0,.int .i64 n3])) (cut (α:=List Int->Hp->Prop) (fun xs7 σ5 =>
  ∀ _:Nat->Value,exl 3 [.int .i64] xs7 σ5 (fun A8 l8 c8 σ9=>rt σ9 R (.tuple #[.slice A8 l8 c8,.int .i64 0]))) (fun J6 =>
  cl Tryz.prog (.func (.func 76) #[] #[]) #[(.agg #[.slice b0 a0 c0,.int .i64 d0]),.slice l_A l_n l_c] σ2 (fun v10 σ11 =>
  ∃ p12:Option Addr,(v10=(.pointer p12)/\cl Tryz.prog elements #[.pointer p12] σ11 (fun v13 σ14 =>
  ∃ A15:Option Addr,∃ l15 c15:Nat,(v13=(.slice A15 l15 c15)/\∃ I18:Nat->List Int->Int->Hp->Prop,(∃ n190,adp 3 [.int .i64] none 0 0 σ14 (fun (xs20:List Int) σ21 =>
  I18 n190 xs20 0 σ21))/\∀ n19:Nat,∀ xs22:List Int,∀ n23:Int,∀ σ17:Hp,I18 n19 xs22 n23 σ17->∀ _:Nat->Value,bc (decide (n23 < ((l15:Nat):Int))) (ix A15 l15 n23 1 (fun b24 a25 =>
  ldP σ17 b24 a25 (fun p26=>cl Tryz.prog number #[.pointer p26] σ17 (fun v27 σ28=>∃ n29:Int,(v27=(.int .i64 n29) /\
  Bj (List.length xs22 + List.length ([n29]:List Int)) (wk .i64 (n23 + 1) (fun n30=>bk σ28 n19 (fun m31 σ32 =>
  I18 m31 (xs22++([n29]:List Int)) n30 σ32)))))))) (J6 xs22 σ17)))))))))
def Hs:MAn:=(.seq (.txt []) (.seq (.seq (.txt []) (.seq (.txt []) (.cond (.seq (.txt []) .leaf) .leaf))) (.cut ⟨[true],2,[.slot 8 (.lst 1 3 [.int .i64])],[]⟩ (.seq (.txt []) (.block (.loop ⟨[true],2,[.slot 8 (.lst 1 3 [.int .i64]),.slot 25 (.sc (.int .i64))],[(3,false),(23,true),(24,true)]⟩ (.seq (.txt []) (.seq (.cond .leaf .leaf) (.seq (.block (.seq (.txt []) (.txt []))) (.txt []))))))) (.seq (.txt []) .leaf))))
theorem Ht (σ:Hp) (b0:Option Addr) (a0 c0:Nat) (d0:Int) (l_A:Option Addr) (l_n l_c:Nat) (elements number:Value) (R:Value->Hp->Prop) (h:Cv σ b0 a0 c0 d0 l_A l_n l_c elements number R):Af Tryz.prog 124 #[(.agg #[.slice b0 a0 c0,.int .i64 d0]),.slice l_A l_n l_c,elements,number] σ R :=
 Ae Bp Hs Tryz.func124 rfl (by kernel_rfl) (by kernel_rfl) (M:=Cv σ b0 a0 c0 d0 l_A l_n l_c elements number R) (by kernel_rfl) h
theorem FM:Ao Tryz.prog 124=true:=by kernel_rfl
abbrev R0:FuncId:=125
def F4 (σ:Hp) (n:Option Addr) (R:Value->Hp->Prop):Prop :=
 dr n (fun b1 o2=>ldS σ b1 (o2 + 2) (fun A3 l3 c3=>rt σ R (.slice A3 l3 c3)))
def Oj:MAn:=(.seq (.txt []) (.seq (.txt []) .leaf))
theorem OV (σ:Hp) (n:Option Addr) (R:Value->Hp->Prop) (h:F4 σ n R):Af Tryz.prog 125 #[.pointer n] σ R :=
 Ae Bp Oj Tryz.func125 rfl (by kernel_rfl) (by kernel_rfl) (M:=F4 σ n R) (by kernel_rfl) h
theorem Lr:Ao Tryz.prog 125=true:=by kernel_rfl
abbrev TA:FuncId:=126
def Hd (σ:Hp) (p:Option Addr) (R:Value->Hp->Prop):Prop :=
 dr p (fun b1 o2=>ldI σ .i64 b1 (o2 + 8) (fun n3=>rt σ R (.int .i64 n3)))
def Pn:MAn:=(.seq (.txt []) (.seq (.txt []) .leaf))
theorem Ph (σ:Hp) (p:Option Addr) (R:Value->Hp->Prop) (h:Hd σ p R):Af Tryz.prog 126 #[.pointer p] σ R :=
 Ae Bp Pn Tryz.func126 rfl (by kernel_rfl) (by kernel_rfl) (M:=Hd σ p R) (by kernel_rfl) h
theorem LY:Ao Tryz.prog 126=true:=by kernel_rfl
abbrev Pm:FuncId:=178
def EM (σ:Hp) (o0 t0 n0 l0:Int) (_:Bool) (R:Value->Hp->Prop):Prop :=
 cl Tryz.prog (.func (.func 101) #[] #[]) #[.int .i64 o0,.int .i64 1,.int .i64 40] σ (fun v1 σ2 =>
  ∃ t3:Bool,(v1=(.bool t3)/\bc (!t3) (rt σ2 R (.bool true)) (cl Tryz.prog (.func (.func 101) #[] #[]) #[.int .i64 t0,.int .i64 0,.int .i64 100] σ2 (fun v4 σ5 =>
  ∃ t6:Bool,(v4=(.bool t6)/\bc (!t6) (rt σ5 R (.bool true)) (cl Tryz.prog (.func (.func 101) #[] #[]) #[.int .i64 n0,.int .i64 1,.int .i64 100] σ5 (fun v7 σ8 =>
  ∃ t9:Bool,(v7=(.bool t9)/\bc (!t9) (rt σ8 R (.bool true)) (cl Tryz.prog (.func (.func 101) #[] #[]) #[.int .i64 l0,.int .i64 0,.int .i64 100] σ8 (fun v10 σ11 =>
  ∃ t12:Bool,(v10=(.bool t12)/\rt σ11 R (.bool (!t12)))))))))))))
def AV:OA:=⟨[],false,[]⟩
def Mn:MAn:=(.seq (.txt []) (.seq (.txt [AV,AV,AV,AV,⟨[],true,[]⟩,AV,AV,AV,AV,AV,⟨[],true,[]⟩,AV,AV,AV,AV,AV,⟨[],true,[]⟩]) .leaf))
theorem Mp (σ:Hp) (o0 t0 n0 l0:Int) (g1:Bool) (R:Value->Hp->Prop) (h:EM σ o0 t0 n0 l0 g1 R):Af Tryz.prog 178 #[(.agg #[.int .i64 o0,.int .i64 t0,.int .i64 n0,.int .i64 l0,.bool g1])] σ R :=
 Ae Bp Mn Tryz.func178 rfl (by kernel_rfl) (by kernel_rfl) (M:=EM σ o0 t0 n0 l0 g1 R) (by kernel_rfl) h
theorem Jh:Ao Tryz.prog 178=true:=by kernel_rfl
abbrev E8:FuncId:=179
def BT (σ:Hp) (s_A:Option Addr) (s_n s_c:Nat) (f:Value) (R:Value->Hp->Prop):Prop :=
 cl Tryz.prog (.func (.func 231) #[] #[]) #[.slice s_A s_n s_c,f] σ (fun v1 σ2=>∃ n3:Int,(v1=(.int .i64 n3) /\
  rt σ2 R (.bool (decide ((0:Int)<=n3)))))
def D2:MAn:=(.seq (.txt []) (.seq (.txt []) .leaf))
theorem Ea (σ:Hp) (s_A:Option Addr) (s_n s_c:Nat) (f:Value) (R:Value->Hp->Prop) (h:BT σ s_A s_n s_c f R):Af Tryz.prog 179 #[.slice s_A s_n s_c,f] σ R :=
 Ae Bp D2 Tryz.func179 rfl (by kernel_rfl) (by kernel_rfl) (M:=BT σ s_A s_n s_c f R) (by kernel_rfl) h
theorem Dn:Ao Tryz.prog 179=true:=by kernel_rfl
abbrev EL:FuncId:=105
def Cg (σ:Hp) (s_A:Option Addr) (s_n _:Nat) (f:Value) (R:Value->Hp->Prop):Prop :=
 cut (α:=Hp->Prop) (fun  σ2=>∀ _:Nat->Value,rt σ2 R (.int .i64 (-1))) (fun J3=>∃ I6:Nat->Int->Hp->Prop,(∃ n70,I6 n70 0 σ) /\
  ∀ n7:Nat,∀ n8:Int,∀ σ5:Hp,I6 n7 n8 σ5->∀ _:Nat->Value,bc (decide (n8 < ((s_n:Nat):Int))) (ix s_A s_n n8 1 (fun b9 a10 =>
  ldI σ5 .i64 b9 a10 (fun n11=>cl Tryz.prog f #[.int .i64 n11] σ5 (fun v12 σ13=>∃ t14:Bool,(v12=(.bool t14) /\
  bc t14 (rt σ13 R (.int .i64 n8)) (wk .i64 (n8 + 1) (fun n15=>bk σ13 n7 (fun m16 σ17=>I6 m16 n15 σ17)))))))) (J3 σ5))
def Hx:MAn:=(.seq (.txt []) (.cut ⟨[],0,[],[]⟩ (.seq (.txt []) (.block (.loop ⟨[],0,[.slot 8 (.sc (.int .i64))],[(0,true),(1,false),(7,true)]⟩ (.seq (.txt []) (.seq (.cond .leaf .leaf) (.seq (.block (.seq (.txt []) (.seq (.txt []) (.cond (.seq (.txt []) .leaf) .leaf)))) (.txt []))))))) (.seq (.txt []) .leaf)))
theorem Dr (σ:Hp) (s_A:Option Addr) (s_n s_c:Nat) (f:Value) (R:Value->Hp->Prop) (h:Cg σ s_A s_n s_c f R):Af Tryz.prog 105 #[.slice s_A s_n s_c,f] σ R :=
 Ae Bp Hx Tryz.func105 rfl (by kernel_rfl) (by kernel_rfl) (M:=Cg σ s_A s_n s_c f R) (by kernel_rfl) h
theorem CK:Ao Tryz.prog 105=true:=by kernel_rfl
abbrev Ga:FuncId:=180
def Cc (σ:Hp) (s_A:Option Addr) (s_n _:Nat) (f:Value) (R:Value->Hp->Prop):Prop :=
 cut (α:=Hp->Prop) (fun  σ2=>∀ _:Nat->Value,rt σ2 R (.int .i64 (-1))) (fun J3=>∃ I6:Nat->Int->Hp->Prop,(∃ n70,I6 n70 0 σ) /\
  ∀ n7:Nat,∀ n8:Int,∀ σ5:Hp,I6 n7 n8 σ5->∀ _:Nat->Value,bc (decide (n8 < ((s_n:Nat):Int))) (ix s_A s_n n8 5 (fun b9 a10 =>
  ldI σ5 .i64 b9 a10 (fun n11=>ldI σ5 .i64 b9 (a10 + 1) (fun n12=>ldI σ5 .i64 b9 (a10 + 2) (fun n13 =>
  ldS σ5 b9 (a10 + 3) (fun A14 l14 c14=>ldI σ5 .i64 b9 (a10 + 4) (fun n15=>cl Tryz.prog f #[(.agg #[.int .i64 n11,.int .i64 n12,.int .i64 n13,.slice A14 l14 c14,.int .i64 n15])] σ5 (fun v16 σ17 =>
  ∃ t18:Bool,(v16=(.bool t18)/\bc t18 (rt σ17 R (.int .i64 n8)) (wk .i64 (n8 + 1) (fun n19=>bk σ17 n7 (fun m20 σ21 =>
  I6 m20 n19 σ21)))))))))))) (J3 σ5))
def E6:MAn:=(.seq (.txt []) (.cut ⟨[],0,[],[]⟩ (.seq (.txt []) (.block (.loop ⟨[],0,[.slot 8 (.sc (.int .i64))],[(0,true),(1,false),(7,true)]⟩ (.seq (.txt []) (.seq (.cond .leaf .leaf) (.seq (.block (.seq (.txt []) (.seq (.txt []) (.cond (.seq (.txt []) .leaf) .leaf)))) (.txt []))))))) (.seq (.txt []) .leaf)))
theorem Fb (σ:Hp) (s_A:Option Addr) (s_n s_c:Nat) (f:Value) (R:Value->Hp->Prop) (h:Cc σ s_A s_n s_c f R):Af Tryz.prog 180 #[.slice s_A s_n s_c,f] σ R :=
 Ae Bp E6 Tryz.func180 rfl (by kernel_rfl) (by kernel_rfl) (M:=Cc σ s_A s_n s_c f R) (by kernel_rfl) h
theorem DW:Ao Tryz.prog 180=true:=by kernel_rfl
abbrev VL:FuncId:=137
def JZ (σ:Hp) (v0:Option Addr) (p0 _:Nat) (R:Value->Hp->Prop):Prop :=
 cut (α:=Hp->Prop) (fun  σ2=>∀ _:Nat->Value,rt σ2 R (.int .i64 0)) (fun J3=>∃ I6:Nat->Int->Hp->Prop,(∃ n70,I6 n70 0 σ) /\
  ∀ n7:Nat,∀ n8:Int,∀ σ5:Hp,I6 n7 n8 σ5->∀ _:Nat->Value,bc (decide (n8 < ((p0:Nat):Int))) (ix v0 p0 n8 1 (fun b9 a10 =>
  ldI σ5 .i64 b9 a10 (fun n11=>bc (!decide (n11=0)) (rt σ5 R (.int .i64 n11)) (wk .i64 (n8 + 1) (fun n12 =>
  bk σ5 n7 (fun m13 σ14=>I6 m13 n12 σ14)))))) (J3 σ5))
def R1:MAn:=(.seq (.txt []) (.seq (.txt []) (.cut ⟨[],0,[],[(3,true)]⟩ (.seq (.txt []) (.block (.loop ⟨[],0,[.slot 8 (.sc (.int .i64))],[(3,true),(6,true),(7,true)]⟩ (.seq (.txt []) (.seq (.cond .leaf .leaf) (.seq (.block (.seq (.txt []) (.seq (.txt []) (.cond (.seq (.txt []) .leaf) .leaf)))) (.txt []))))))) (.seq (.txt []) .leaf))))
theorem RM (σ:Hp) (v0:Option Addr) (p0 e1:Nat) (R:Value->Hp->Prop) (h:JZ σ v0 p0 e1 R):Af Tryz.prog 137 #[.slice v0 p0 e1] σ R :=
 Ae Bp R1 Tryz.func137 rfl (by kernel_rfl) (by kernel_rfl) (M:=JZ σ v0 p0 e1 R) (by kernel_rfl) h
theorem NS:Ao Tryz.prog 137=true:=by kernel_rfl
abbrev F5:FuncId:=231
def Cd (σ:Hp) (s_A:Option Addr) (s_n _:Nat) (f:Value) (R:Value->Hp->Prop):Prop :=
 cut (α:=Hp->Prop) (fun  σ2=>∀ _:Nat->Value,rt σ2 R (.int .i64 (-1))) (fun J3=>∃ I6:Nat->Int->Hp->Prop,(∃ n70,I6 n70 0 σ) /\
  ∀ n7:Nat,∀ n8:Int,∀ σ5:Hp,I6 n7 n8 σ5->∀ _:Nat->Value,bc (decide (n8 < ((s_n:Nat):Int))) (ix s_A s_n n8 5 (fun b9 a10 =>
  ldI σ5 .i64 b9 a10 (fun n11=>ldI σ5 .i64 b9 (a10 + 1) (fun n12=>ldI σ5 .i64 b9 (a10 + 2) (fun n13 =>
  ldI σ5 .i64 b9 (a10 + 3) (fun n14=>ldB σ5 b9 (a10 + 4) (fun t15=>cl Tryz.prog f #[(.agg #[.int .i64 n11,.int .i64 n12,.int .i64 n13,.int .i64 n14,.bool t15])] σ5 (fun v16 σ17 =>
  ∃ t18:Bool,(v16=(.bool t18)/\bc t18 (rt σ17 R (.int .i64 n8)) (wk .i64 (n8 + 1) (fun n19=>bk σ17 n7 (fun m20 σ21 =>
  I6 m20 n19 σ21)))))))))))) (J3 σ5))
def E0:MAn:=(.seq (.txt []) (.cut ⟨[],0,[],[]⟩ (.seq (.txt []) (.block (.loop ⟨[],0,[.slot 8 (.sc (.int .i64))],[(0,true),(1,false),(7,true)]⟩ (.seq (.txt []) (.seq (.cond .leaf .leaf) (.seq (.block (.seq (.txt []) (.seq (.txt []) (.cond (.seq (.txt []) .leaf) .leaf)))) (.txt []))))))) (.seq (.txt []) .leaf)))
theorem E3 (σ:Hp) (s_A:Option Addr) (s_n s_c:Nat) (f:Value) (R:Value->Hp->Prop) (h:Cd σ s_A s_n s_c f R):Af Tryz.prog 231 #[.slice s_A s_n s_c,f] σ R :=
 Ae Bp E0 Tryz.func231 rfl (by kernel_rfl) (by kernel_rfl) (M:=Cd σ s_A s_n s_c f R) (by kernel_rfl) h
theorem DX:Ao Tryz.prog 231=true:=by kernel_rfl
abbrev EJ:FuncId:=136
def G7 (σ:Hp) (s0 z0 _:Int) (_:Bool) (_ u0 r0 x0 _:Int) (_:Bool) (_ w0:Int) (R:Value->Hp->Prop):Prop :=
 wk .i64 (u0 - w0) (fun n1=>wk .i64 (s0 - r0) (fun n2=>wk .i64 (z0 - x0) (fun n3 =>
  exl 3 [.int .i64] ([n1,n2,n3]:List Int) σ (fun A4 l4 c4 σ5=>cl Tryz.prog (.func (.func 137) #[] #[]) #[.slice A4 l4 c4] σ5 (fun v6 σ7 =>
  ∃ n8:Int,(v6=(.int .i64 n8)/\rt σ7 R (.int .i64 n8)))))))
def PP:MAn:=(.seq (.txt []) (.seq (.txt []) .leaf))
theorem Pj (σ:Hp) (s0 z0 j1:Int) (a_On:Bool) (a1 u0 r0 x0 h1:Int) (b_On:Bool) (i1 w0:Int) (R:Value->Hp->Prop) (h:G7 σ s0 z0 j1 a_On a1 u0 r0 x0 h1 b_On i1 w0 R):Af Tryz.prog 136 #[(.agg #[.int .i64 s0,.int .i64 z0,.int .i64 j1,.bool a_On,.int .i64 a1,.int .i64 u0]),(.agg #[.int .i64 r0,.int .i64 x0,.int .i64 h1,.bool b_On,.int .i64 i1,.int .i64 w0])] σ R :=
 Ae Bp PP Tryz.func136 rfl (by kernel_rfl) (by kernel_rfl) (M:=G7 σ s0 z0 j1 a_On a1 u0 r0 x0 h1 b_On i1 w0 R) (by kernel_rfl) h
abbrev Lt:FuncId:=197
def CX (σ:Hp) (g0 k0:Int) (cap0 cap1:Option Addr) (R:Value->Hp->Prop):Prop :=
 dr cap0 (fun b1 o2=>ldP σ b1 o2 (fun p3=>dr p3 (fun b4 o5=>ldI σ .i64 b4 (o5 + 3) (fun n6=>wk .i64 (n6 - k0) (fun n7 =>
  dr cap0 (fun b8 o9=>ldP σ b8 o9 (fun p10=>dr p10 (fun b11 o12=>ldS σ b11 (o12 + 2) (fun A13 l13 _ =>
  ix A13 l13 g0 1 (fun b14 a15=>ldP σ b14 a15 (fun p16=>dr p16 (fun b17 o18=>ldI σ .i64 b17 (o18 + 4) (fun n19 =>
  cut (α:=Hp->Prop) (fun  σ21=>∀ _:Nat->Value,rt σ21 R (.bool (decide (n19 < n7)))) (fun J22 =>
  bc (decide (n19 < n7)) (dr cap1 (fun b23 o24=>ldS σ b23 o24 (fun A25 l25 c25=>adp 206 [.int .i64,.int .i64] A25 l25 c25 σ (fun (xs26:List (Int×Int)) σ27 =>
  Bj (List.length xs26 + List.length ([(g0,k0)]:List (Int×Int))) (exl 206 [.int .i64,.int .i64] (xs26++([(g0,k0)]:List (Int×Int))) σ27 (fun A28 l28 c28 σ29 =>
  dr cap1 (fun b30 o31=>st σ29 b30 o31 (.slice A28 l28 c28) (fun σ32=>J22 σ32)))))))) (J22 σ)))))))))))))))
def Az:OA:=⟨[],false,[]⟩
def Ie:MAn:=(.seq (.txt []) (.seq (.plan [] (.take 0 Az (.take 1 Az (.take 2 Az (.take 3 Az (.take 4 Az (.take 5 Az (.take 6 Az (.take 7 Az (.take 8 Az (.take 9 Az (.take 10 Az (.take 11 Az (.take 12 Az (.take 13 Az (.take 14 Az (.take 15 Az (.take 16 Az (.take 17 Az (.take 18 Az (.take 19 Az (.take 20 Az .done)))))))))))))))))))))) (.cut ⟨[true],1,[],[(5,true)]⟩ (.seq (.txt []) (.cond (.txt []) .leaf)) (.seq (.txt []) .leaf))))
theorem H6 (σ:Hp) (g0 k0:Int) (cap0 cap1:Option Addr) (R:Value->Hp->Prop) (h:CX σ g0 k0 cap0 cap1 R):Af Tryz.prog 197 #[(.agg #[.int .i64 g0,.int .i64 k0]),.pointer cap0,.pointer cap1] σ R :=
 Ae Bp Ie Tryz.func197 rfl (by kernel_rfl) (by kernel_rfl) (M:=CX σ g0 k0 cap0 cap1 R) (by kernel_rfl) h
theorem GA:Ao Tryz.prog 197=true:=by kernel_rfl
abbrev CS:FuncId:=199
def CQ (σ:Hp) (m0 _ q0 _:Int) (R:Value->Hp->Prop):Prop :=
 wk .i64 (m0 - q0) (fun n1=>rt σ R (.int .i64 n1))
def Im:MAn:=(.seq (.txt []) (.seq (.txt []) .leaf))
theorem IN (σ:Hp) (m0 f1 q0 d1:Int) (R:Value->Hp->Prop) (h:CQ σ m0 f1 q0 d1 R):Af Tryz.prog 199 #[(.agg #[.int .i64 m0,.int .i64 f1]),(.agg #[.int .i64 q0,.int .i64 d1])] σ R :=
 Ae Bp Im Tryz.func199 rfl (by kernel_rfl) (by kernel_rfl) (M:=CQ σ m0 f1 q0 d1 R) (by kernel_rfl) h
end Go.Proofs.YthhadkggldcolaaGreat
