/- Trimmed by wip/trim.py to what this claim rests on. -/
import Derived.Test.YthhadkggldcolaaGreatYB11
namespace Go.Proofs.YthhadkggldcolaaGreat
set_option maxRecDepth 100000
open Go.RowKit
def tkYQ1:Nat->Nat->OA->MPlan->MPlan
 |0,_,_,x=>x
 |n+1,i,a,x=>.take i a (tkYQ1 n (i+1) a x)
theorem Bb:Tryz.prog.follows .mixedOrders=true:=by kernel_rfl
abbrev Tg:FuncId:=66
def KL (σ:Hp) (_:Option Addr) (a0 _:Nat) (_:Int) (l_A:Option Addr) (l_n _:Nat) (R:Value->Hp->Prop):Prop:=
 cut (α:=Hp->Prop) (fun  σ2=>∀ _:Nat->Value,cut (α:=Hp->Prop) (fun  σ5=>∀ _:Nat->Value,
  rt σ5 R (.bool false)) (fun J6=>∃ I9:Nat->Int->Hp->Prop,(∃ n100,I9 n100 0 σ2)/\∀ n10:Nat,∀ n11:Int,∀ σ8:Hp,I9 n10 n11 σ8->∀ _:Nat->Value,bc (decide (n11<((l_n:Nat):Int))) (ix l_A l_n n11 5 (fun b12 a13=>
  ldS σ8 b12 (a13+3) (fun _ l14 _=>bc (decide ((20:Int)<((l14:Nat):Int))) (rt σ8 R (.bool true)) (wk .i64 (n11+1) (fun n15=>
  bk σ8 n10 (fun m16 σ17=>I9 m16 n15 σ17)))))) (J6 σ8))) (fun J3=>cut (α:=Bool->Hp->Prop) (fun t21 σ19=>
  ∀ _:Nat->Value,bc t21 (rt σ19 R (.bool true)) (J3 σ19)) (fun J20=>bc (decide ((10:Int)<((a0:Nat):Int))) (J20 true σ) (J20 (decide ((70:Int)<((l_n:Nat):Int))) σ)))
def Qb:MAn:=(.seq (.txt []) (.cut ⟨[true],1,[],[(1,true)]⟩ (.cut ⟨[true],1,[.slot 14 (.sc (.bool))],[(1,true)]⟩ (.txt [⟨[],false,[]⟩,⟨[],false,[]⟩,⟨[],false,[]⟩,⟨[],false,[]⟩,⟨[],true,[]⟩]) (.cond (.seq (.txt []) .leaf) .leaf)) (.cut ⟨[true],1,[],[]⟩ (.seq (.txt []) (.block (.loop ⟨[true],1,[.slot 5 (.sc (.int .i64))],[(1,true)]⟩ (.seq (.seq (.txt []) (.cond .leaf .leaf)) (.seq (.block (.seq (.txt []) (.cond (.seq (.txt []) .leaf) .leaf))) (.txt [])))))) (.seq (.txt []) .leaf))))
theorem PJ (σ:Hp) (b0:Option Addr) (a0 c0:Nat) (d0:Int) (l_A:Option Addr) (l_n l_c:Nat) (R:Value->Hp->Prop) (h:KL σ b0 a0 c0 d0 l_A l_n l_c R):Ae Tryz.prog 66 #[(.agg #[.slice b0 a0 c0,.int .i64 d0]),.slice l_A l_n l_c] σ R:=
 Ad Bb Qb Tryz.func66 rfl (by kernel_rfl) (by kernel_rfl) (by kernel_rfl) h
theorem MY:Ao Tryz.prog 66=true:=by kernel_rfl
abbrev LF:FuncId:=51
def G7 (σ:Hp) (b0:Option Addr) (a0 c0:Nat) (d0:Int) (l_A:Option Addr) (l_n l_c:Nat) (R:Value->Hp->Prop):Prop:=
 cl Tryz.prog (.func (.func 98) #[] #[]) #[(.agg #[.slice b0 a0 c0,.int .i64 d0])] σ (fun v1 σ2=>
  ∃ n3:Int,(v1=(.int .i64 n3)/\bc (!decide (n3=0)) (rt σ2 R (.int .i64 n3)) (bx σ2 (.cells #[.slice b0 a0 c0,.int .i64 d0] 24) (fun b4 σ5=>
  cut (α:=Hp->Prop) (fun  σ7=>∀ _:Nat->Value,rt σ7 R (.int .i64 0)) (fun J8=>cut (α:=Bool->Hp->Prop) (fun t12 σ10=>
  ∀ _:Nat->Value,bc t12 (rt σ10 R (.int .i64 71)) (J8 σ10)) (fun J11=>bc (decide ((60:Int)<((l_n:Nat):Int))) (J11 true σ5) (cl Tryz.prog (.func (.func 102) #[] #[]) #[.slice l_A l_n l_c,(.func (.func 99) #[] #[(.pointer (some ⟨b4,0,none⟩))])] σ5 (fun v13 σ14=>
  ∃ t15:Bool,(v13=(.bool t15)/\J11 t15 σ14)))))))))
def N4:MAn:=(.seq (.txt []) (.seq (.seq (.txt []) (.seq (.txt []) (.cond (.seq (.txt []) .leaf) .leaf))) (.seq (.txt []) (.cut ⟨[false],1,[],[]⟩ (.cut ⟨[false],1,[.slot 20 (.sc (.bool))],[]⟩ (.txt [⟨[],false,[]⟩,⟨[],false,[]⟩,⟨[],false,[]⟩,⟨[],true,[]⟩]) (.cond (.seq (.txt []) .leaf) .leaf)) (.seq (.txt []) .leaf)))))
theorem Ov (σ:Hp) (b0:Option Addr) (a0 c0:Nat) (d0:Int) (l_A:Option Addr) (l_n l_c:Nat) (R:Value->Hp->Prop) (h:G7 σ b0 a0 c0 d0 l_A l_n l_c R):Ae Tryz.prog 51 #[(.agg #[.slice b0 a0 c0,.int .i64 d0]),.slice l_A l_n l_c] σ R:=
 Ad Bb N4 Tryz.func51 rfl (by kernel_rfl) (by kernel_rfl) (by kernel_rfl) h
theorem B6:Ao Tryz.prog 51=true:=by kernel_rfl
abbrev No:FuncId:=34
def IY (σ:Hp) (b0:Option Addr) (a0 _:Nat) (d0:Int) (R:Value->Hp->Prop):Prop:=
 (((∃ ys1:List (Int×Int×Int×Int×Bool),RdS [.int .i64,.int .i64,.int .i64,.int .i64,.bool] σ b0 a0 ys1 /\
  AZ (List.length ([]:List (Int×Int×Int×Int×Bool))+List.length ys1) (exl 89 [.int .i64,.int .i64,.int .i64,.int .i64,.bool] (([]:List (Int×Int×Int×Int×Bool))++ys1) σ (fun A2 l2 c2 σ3=>
  rt σ3 R (.agg #[.slice A2 l2 c2,.int .i64 d0]))))/\(∃ ys4:List (Int×Int×Int×Int×Bool),RdS [.int .i64,.int .i64,.int .i64,.int .i64,.bool] σ b0 a0 ys4 /\
  AZ (List.length ([]:List (Int×Int×Int×Int×Bool))+List.length ys4) (exl 89 [.int .i64,.int .i64,.int .i64,.int .i64,.bool] (([]:List (Int×Int×Int×Int×Bool))++ys4) σ (fun A5 l5 c5 σ6=>
  rt σ6 R (.agg #[.slice A5 l5 c5,.int .i64 d0])))))/\(∃ ys7:List (Int×Int×Int×Int×Bool),RdS [.int .i64,.int .i64,.int .i64,.int .i64,.bool] σ b0 a0 ys7 /\
  AZ (List.length ([]:List (Int×Int×Int×Int×Bool))+List.length ys7) (exl 89 [.int .i64,.int .i64,.int .i64,.int .i64,.bool] (([]:List (Int×Int×Int×Int×Bool))++ys7) σ (fun A8 l8 c8 σ9=>
  rt σ9 R (.agg #[.slice A8 l8 c8,.int .i64 d0])))))
def AQ:OA:=⟨[],false,[]⟩
def Pq:MAn:=(.seq (.txt []) (.seq (.plan [3,7] (.take 1 AQ (.take 2 AQ (.take 4 AQ (.alt 0 true AQ (.alt 3 false AQ (.take 5 AQ (.take 6 AQ (.alt 7 false AQ .done .done))) (.alt 5 true AQ (.alt 3 false AQ (.take 6 AQ (.alt 7 false AQ .done .done)) .done) .done)) (.alt 5 true AQ (.alt 0 true AQ (.alt 3 false AQ (.take 6 AQ (.alt 7 false AQ .done .done)) .done) .done) .done)))))) .leaf))
theorem Pt (σ:Hp) (b0:Option Addr) (a0 c0:Nat) (d0:Int) (R:Value->Hp->Prop) (h:IY σ b0 a0 c0 d0 R):Ae Tryz.prog 34 #[(.agg #[.slice b0 a0 c0,.int .i64 d0])] σ R:=
 Ad Bb Pq Tryz.func34 rfl (by kernel_rfl) (by kernel_rfl) (by kernel_rfl) h
theorem Gg:Ao Tryz.prog 34=true:=by kernel_rfl
abbrev LR:FuncId:=70
def DJ (σ:Hp) (l_A:Option Addr) (l_n _:Nat) (R:Value->Hp->Prop):Prop:=
 ∃ ys1:List (Int×Int×Int×(Option Addr×Nat×Nat)×Int),RdS [.int .i64,.int .i64,.int .i64,.slc,.int .i64] σ l_A l_n ys1 /\
  AZ (List.length ([]:List (Int×Int×Int×(Option Addr×Nat×Nat)×Int))+List.length ys1) (cut (α:=Option Addr->Nat->Nat->Hp->Prop) (fun A5 l5 c5 σ3=>
  ∀ _:Nat->Value,rt σ3 R (.slice A5 l5 c5)) (fun J4=>∃ I8:Nat->Option Addr->Nat->Nat->Int->Hp->Prop,(∃ n90,exl 61 [.int .i64,.int .i64,.int .i64,.slc,.int .i64] (([]:List (Int×Int×Int×(Option Addr×Nat×Nat)×Int))++ys1) σ (fun A10 l10 c10 σ11=>
  I8 n90 A10 l10 c10 0 σ11))/\∀ n9:Nat,∀ A12:Option Addr,∀ l12 c12:Nat,∀ n13:Int,∀ σ7:Hp,I8 n9 A12 l12 c12 n13 σ7->∀ _:Nat->Value,bc (decide (n13<((l12:Nat):Int))) (ix A12 l12 n13 5 (fun b14 a15=>
  ldS σ7 b14 (a15+3) (fun A16 l16 _=>∃ ys17:List Int,RdS [.int .i64] σ7 A16 l16 ys17/\AZ (List.length ([]:List Int)+List.length ys17) (ix A12 l12 n13 5 (fun b18 a19=>
  exl 3 [.int .i64] (([]:List Int)++ys17) σ7 (fun A20 l20 c20 σ21=>st σ21 b18 (a19+3) (.slice A20 l20 c20) (fun σ22=>
  wk .i64 (n13+1) (fun n23=>bk σ22 n9 (fun m24 σ25=>I8 m24 A12 l12 c12 n23 σ25))))))))) (J4 A12 l12 c12 σ7)))
def JB:MAn:=(.seq (.txt []) (.seq (.txt []) (.cut ⟨[false],1,[.slot 3 (.sc (.slc))],[]⟩ (.seq (.txt []) (.block (.loop ⟨[false],1,[.slot 3 (.sc (.slc)),.slot 4 (.sc (.int .i64))],[]⟩ (.seq (.seq (.txt []) (.cond .leaf .leaf)) (.seq (.block (.txt [])) (.txt [])))))) (.seq (.txt []) .leaf))))
theorem JJ (σ:Hp) (l_A:Option Addr) (l_n l_c:Nat) (R:Value->Hp->Prop) (h:DJ σ l_A l_n l_c R):Ae Tryz.prog 70 #[.slice l_A l_n l_c] σ R:=
 Ad Bb JB Tryz.func70 rfl (by kernel_rfl) (by kernel_rfl) (by kernel_rfl) h
theorem Hz:Ao Tryz.prog 70=true:=by kernel_rfl
abbrev RC:FuncId:=68
def II (σ:Hp) (b0:Option Addr) (a0 c0:Nat) (d0:Int) (l_A:Option Addr) (l_n l_c:Nat) (R:Value->Hp->Prop):Prop:=
 cl Tryz.prog (.func (.func 124) #[] #[]) #[(.agg #[.slice b0 a0 c0,.int .i64 d0]),.slice l_A l_n l_c,(.func (.func 125) #[] #[]),(.func (.func 126) #[] #[])] σ (fun v1 σ2=>
  ∃ A3:Option Addr,∃ l3 c3:Nat,∃ n4:Int,(v1=(.tuple #[.slice A3 l3 c3,.int .i64 n4]) /\
  rt σ2 R (.tuple #[.slice A3 l3 c3,.int .i64 n4])))
def O0:MAn:=(.seq (.txt []) (.seq (.txt []) .leaf))
theorem O4 (σ:Hp) (b0:Option Addr) (a0 c0:Nat) (d0:Int) (l_A:Option Addr) (l_n l_c:Nat) (R:Value->Hp->Prop) (h:II σ b0 a0 c0 d0 l_A l_n l_c R):Ae Tryz.prog 68 #[(.agg #[.slice b0 a0 c0,.int .i64 d0]),.slice l_A l_n l_c] σ R:=
 Ad Bb O0 Tryz.func68 rfl (by kernel_rfl) (by kernel_rfl) (by kernel_rfl) h
theorem Mf:Ao Tryz.prog 68=true:=by kernel_rfl
abbrev Nw:FuncId:=33
def IJ (σ:Hp) (b0:Option Addr) (a0 c0:Nat) (d0:Int) (l_A:Option Addr) (l_n l_c:Nat) (R:Value->Hp->Prop):Prop:=
 cl Tryz.prog (.func (.func 51) #[] #[]) #[(.agg #[.slice b0 a0 c0,.int .i64 d0]),.slice l_A l_n l_c] σ (fun v1 σ2=>
  ∃ n3:Int,(v1=(.int .i64 n3)/\bc (!decide (n3=0)) (rt σ2 R (.tuple #[.slice none 0 0,.int .i64 n3])) (cl Tryz.prog (.func (.func 76) #[] #[]) #[(.agg #[.slice b0 a0 c0,.int .i64 d0]),.slice l_A l_n l_c] σ2 (fun v4 σ5=>
  ∃ p6:Option Addr,(v4=(.pointer p6)/\dr p6 (fun b7 o8=>ldS σ5 b7 (o8+4) (fun A9 l9 c9=>rt σ5 R (.tuple #[.slice A9 l9 c9,.int .i64 0]))))))))
def Pw:MAn:=(.seq (.txt []) (.seq (.seq (.txt []) (.seq (.txt []) (.cond (.seq (.txt []) .leaf) .leaf))) (.seq (.txt []) .leaf)))
theorem Pf (σ:Hp) (b0:Option Addr) (a0 c0:Nat) (d0:Int) (l_A:Option Addr) (l_n l_c:Nat) (R:Value->Hp->Prop) (h:IJ σ b0 a0 c0 d0 l_A l_n l_c R):Ae Tryz.prog 33 #[(.agg #[.slice b0 a0 c0,.int .i64 d0]),.slice l_A l_n l_c] σ R:=
 Ad Bb Pw Tryz.func33 rfl (by kernel_rfl) (by kernel_rfl) (by kernel_rfl) h
theorem F4:Ao Tryz.prog 33=true:=by kernel_rfl
abbrev O6:FuncId:=95
def Fh (σ:Hp) (R:Value->Hp->Prop):Prop:=
 exl 89 [.int .i64,.int .i64,.int .i64,.int .i64,.bool] ([(4,2,3,1,false),(2,5,2,0,false)]:List (Int×Int×Int×Int×Bool)) σ (fun A1 l1 c1 σ2=>
  exl 3 [.int .i64] ([0,1]:List Int) σ2 (fun A3 l3 c3 σ4=>exl 3 [.int .i64] ([0,1]:List Int) σ4 (fun A5 l5 c5 σ6=>
  exl 61 [.int .i64,.int .i64,.int .i64,.slc,.int .i64] ([(0,3,20,(A3,l3,c3),100),(0,2,30,(A5,l5,c5),100)]:List (Int×Int×Int×(Option Addr×Nat×Nat)×Int)) σ6 (fun A7 l7 c7 σ8=>
  rt σ8 R (.tuple #[(.agg #[.slice A1 l1 c1,.int .i64 1]),.slice A7 l7 c7])))))
def LX:MAn:=(.seq (.txt []) (.seq (.txt []) (.seq (.txt []) .leaf)))
theorem Mu (σ:Hp) (R:Value->Hp->Prop) (h:Fh σ  R):Ae Tryz.prog 95 #[] σ R:=
 Ad Bb LX Tryz.func95 rfl (by kernel_rfl) (by kernel_rfl) (by kernel_rfl) h
theorem Jy:Ao Tryz.prog 95=true:=by kernel_rfl
abbrev Pp:FuncId:=98
def Ft (σ:Hp) (b0:Option Addr) (a0 c0:Nat) (d0:Int) (R:Value->Hp->Prop):Prop:=
 cut (α:=Hp->Prop) (fun  σ2=>∀ _:Nat->Value,rt σ2 R (.int .i64 0)) (fun J3=>cut (α:=Bool->Hp->Prop) (fun t7 σ5=>
  ∀ _:Nat->Value,bc t7 (rt σ5 R (.int .i64 70)) (J3 σ5)) (fun J6=>bc (decide ((8:Int)<((a0:Nat):Int))) (J6 true σ) (cl Tryz.prog (.func (.func 101) #[] #[]) #[.int .i64 d0,.int .i64 0,.int .i64 100] σ (fun v8 σ9=>
  ∃ t10:Bool,(v8=(.bool t10)/\bc (!t10) (J6 true σ9) (cl Tryz.prog (.func (.func 179) #[] #[]) #[.slice b0 a0 c0,(.func (.func 178) #[] #[])] σ9 (fun v11 σ12=>
  ∃ t13:Bool,(v11=(.bool t13)/\J6 t13 σ12))))))))
def Bd:OA:=⟨[],false,[]⟩
def LW:MAn:=(.seq (.txt []) (.seq (.txt []) (.cut ⟨[true],1,[],[]⟩ (.cut ⟨[true],1,[.slot 19 (.sc (.bool))],[]⟩ (.txt [Bd,Bd,Bd,Bd,⟨[],true,[]⟩,Bd,Bd,Bd,Bd,Bd,⟨[],true,[]⟩]) (.cond (.seq (.txt []) .leaf) .leaf)) (.seq (.txt []) .leaf))))
theorem Me (σ:Hp) (b0:Option Addr) (a0 c0:Nat) (d0:Int) (R:Value->Hp->Prop) (h:Ft σ b0 a0 c0 d0 R):Ae Tryz.prog 98 #[(.agg #[.slice b0 a0 c0,.int .i64 d0])] σ R:=
 Ad Bb LW Tryz.func98 rfl (by kernel_rfl) (by kernel_rfl) (by kernel_rfl) h
theorem JL:Ao Tryz.prog 98=true:=by kernel_rfl
abbrev Pg:FuncId:=99
def Fk (σ:Hp) (g_At u0 j0:Int) (i0:Option Addr) (e0 h0:Nat) (f0:Int) (cap0:Option Addr) (R:Value->Hp->Prop):Prop:=
 cl Tryz.prog (.func (.func 101) #[] #[]) #[.int .i64 g_At,.int .i64 0,.int .i64 2000] σ (fun v1 σ2=>
  ∃ t3:Bool,(v1=(.bool t3)/\bc (!t3) (rt σ2 R (.bool true)) (cl Tryz.prog (.func (.func 101) #[] #[]) #[.int .i64 u0,.int .i64 1,.int .i64 40] σ2 (fun v4 σ5=>
  ∃ t6:Bool,(v4=(.bool t6)/\bc (!t6) (rt σ5 R (.bool true)) (cl Tryz.prog (.func (.func 101) #[] #[]) #[.int .i64 j0,.int .i64 0,.int .i64 10000] σ5 (fun v7 σ8=>
  ∃ t9:Bool,(v7=(.bool t9)/\bc (!t9) (rt σ8 R (.bool true)) (cl Tryz.prog (.func (.func 101) #[] #[]) #[.int .i64 f0,.int .i64 0,.int .i64 2000] σ8 (fun v10 σ11=>
  ∃ t12:Bool,(v10=(.bool t12)/\bc (!t12) (rt σ11 R (.bool true)) (bc (decide ((10:Int)<((e0:Nat):Int))) (rt σ11 R (.bool true)) (cl Tryz.prog (.func (.func 57) #[] #[]) #[.slice i0 e0 h0,(.func (.func 100) #[] #[.pointer cap0])] σ11 (fun v13 σ14=>
  ∃ t15:Bool,(v13=(.bool t15)/\rt σ14 R (.bool t15))))))))))))))))
def Ax:OA:=⟨[],false,[]⟩
def LP:MAn:=(.seq (.txt []) (.seq (.txt []) (.seq (.txt [Ax,Ax,Ax,Ax,⟨[],true,[]⟩,Ax,Ax,Ax,Ax,Ax,⟨[],true,[]⟩,Ax,Ax,Ax,Ax,Ax,⟨[],true,[]⟩,Ax,Ax,Ax,Ax,Ax,⟨[],true,[]⟩,Ax,Ax,Ax,Ax,Ax,⟨[],true,[]⟩]) .leaf)))
theorem LT (σ:Hp) (g_At u0 j0:Int) (i0:Option Addr) (e0 h0:Nat) (f0:Int) (cap0:Option Addr) (R:Value->Hp->Prop) (h:Fk σ g_At u0 j0 i0 e0 h0 f0 cap0 R):Ae Tryz.prog 99 #[(.agg #[.int .i64 g_At,.int .i64 u0,.int .i64 j0,.slice i0 e0 h0,.int .i64 f0]),.pointer cap0] σ R:=
 Ad Bb LP Tryz.func99 rfl (by kernel_rfl) (by kernel_rfl) (by kernel_rfl) h
theorem JN:Ao Tryz.prog 99=true:=by kernel_rfl
def D7 (σ:Hp) (n:Int) (cap0:Option Addr) (R:Value->Hp->Prop):Prop:=
 dr cap0 (fun b1 o2=>ldS σ b1 o2 (fun _ l3 _=>wk .i64 (((l3:Nat):Int)-1) (fun n4=>cl Tryz.prog (.func (.func 101) #[] #[]) #[.int .i64 n,.int .i64 0,.int .i64 n4] σ (fun v5 σ6=>
  ∃ t7:Bool,(v5=(.bool t7)/\rt σ6 R (.bool (!t7)))))))
def KS:MAn:=(.seq (.txt []) (.seq (.txt []) .leaf))
theorem Ko (σ:Hp) (n:Int) (cap0:Option Addr) (R:Value->Hp->Prop) (h:D7 σ n cap0 R):Ae Tryz.prog 100 #[.int .i64 n,.pointer cap0] σ R:=
 Ad Bb KS Tryz.func100 rfl (by kernel_rfl) (by kernel_rfl) (by kernel_rfl) h
theorem H8:Ao Tryz.prog 100=true:=by kernel_rfl
abbrev Kb:FuncId:=101
def Gu (σ:Hp) (n low high:Int) (R:Value->Hp->Prop):Prop:=
 bc (decide (low<=n)) (rt σ R (.bool (decide (n<=high)))) (rt σ R (.bool false))
def M2:MAn:=(.seq (.txt []) (.seq (.txt [⟨[],false,[]⟩,⟨[],false,[]⟩,⟨[],false,[]⟩,⟨[],true,[]⟩]) .leaf))
theorem NF (σ:Hp) (n low high:Int) (R:Value->Hp->Prop) (h:Gu σ n low high R):Ae Tryz.prog 101 #[.int .i64 n,.int .i64 low,.int .i64 high] σ R:=
 Ad Bb M2 Tryz.func101 rfl (by kernel_rfl) (by kernel_rfl) (by kernel_rfl) h
theorem KW:Ao Tryz.prog 101=true:=by kernel_rfl
abbrev C1:FuncId:=57
def Bx (σ:Hp) (s_A:Option Addr) (s_n s_c:Nat) (f:Value) (R:Value->Hp->Prop):Prop:=
 cl Tryz.prog (.func (.func 105) #[] #[]) #[.slice s_A s_n s_c,f] σ (fun v1 σ2=>∃ n3:Int,(v1=(.int .i64 n3) /\
  rt σ2 R (.bool (decide ((0:Int)<=n3)))))
def Fx:MAn:=(.seq (.txt []) (.seq (.txt []) .leaf))
theorem Cl (σ:Hp) (s_A:Option Addr) (s_n s_c:Nat) (f:Value) (R:Value->Hp->Prop) (h:Bx σ s_A s_n s_c f R):Ae Tryz.prog 57 #[.slice s_A s_n s_c,f] σ R:=
 Ad Bb Fx Tryz.func57 rfl (by kernel_rfl) (by kernel_rfl) (by kernel_rfl) h
theorem AW:Ao Tryz.prog 57=true:=by kernel_rfl
abbrev EH:FuncId:=102
def Br (σ:Hp) (s_A:Option Addr) (s_n s_c:Nat) (f:Value) (R:Value->Hp->Prop):Prop:=
 cl Tryz.prog (.func (.func 180) #[] #[]) #[.slice s_A s_n s_c,f] σ (fun v1 σ2=>∃ n3:Int,(v1=(.int .i64 n3) /\
  rt σ2 R (.bool (decide ((0:Int)<=n3)))))
def DI:MAn:=(.seq (.txt []) (.seq (.txt []) .leaf))
theorem DC (σ:Hp) (s_A:Option Addr) (s_n s_c:Nat) (f:Value) (R:Value->Hp->Prop) (h:Br σ s_A s_n s_c f R):Ae Tryz.prog 102 #[.slice s_A s_n s_c,f] σ R:=
 Ad Bb DI Tryz.func102 rfl (by kernel_rfl) (by kernel_rfl) (by kernel_rfl) h
theorem CY:Ao Tryz.prog 102=true:=by kernel_rfl
abbrev HL:FuncId:=124
def B8 (σ:Hp) (b0:Option Addr) (a0 c0:Nat) (d0:Int) (l_A:Option Addr) (l_n l_c:Nat) (elements number:Value) (R:Value->Hp->Prop):Prop:=
 cl Tryz.prog (.func (.func 51) #[] #[]) #[(.agg #[.slice b0 a0 c0,.int .i64 d0]),.slice l_A l_n l_c] σ (fun v1 σ2=>
  ∃ n3:Int,(v1=(.int .i64 n3)/\bc (!decide (n3=0)) (rt σ2 R (.tuple #[.slice none 0 0,.int .i64 n3])) (cut (α:=List Int->Hp->Prop) (fun xs7 σ5=>
  ∀ _:Nat->Value,exl 3 [.int .i64] xs7 σ5 (fun A8 l8 c8 σ9=>rt σ9 R (.tuple #[.slice A8 l8 c8,.int .i64 0]))) (fun J6=>
  cl Tryz.prog (.func (.func 76) #[] #[]) #[(.agg #[.slice b0 a0 c0,.int .i64 d0]),.slice l_A l_n l_c] σ2 (fun v10 σ11=>
  ∃ p12:Option Addr,(v10=(.pointer p12)/\cl Tryz.prog elements #[.pointer p12] σ11 (fun v13 σ14=>
  ∃ A15:Option Addr,∃ l15 c15:Nat,(v13=(.slice A15 l15 c15)/\∃ I18:Nat->List Int->Int->Hp->Prop,(∃ n190,adp 3 [.int .i64] none 0 0 σ14 (fun (xs20:List Int) σ21=>
  I18 n190 xs20 0 σ21))/\∀ n19:Nat,∀ xs22:List Int,∀ n23:Int,∀ σ17:Hp,I18 n19 xs22 n23 σ17->∀ _:Nat->Value,bc (decide (n23<((l15:Nat):Int))) (ix A15 l15 n23 1 (fun b24 a25=>
  ldP σ17 b24 a25 (fun p26=>cl Tryz.prog number #[.pointer p26] σ17 (fun v27 σ28=>∃ n29:Int,(v27=(.int .i64 n29) /\
  AZ (List.length xs22+List.length ([n29]:List Int)) (wk .i64 (n23+1) (fun n30=>bk σ28 n19 (fun m31 σ32=>
  I18 m31 (xs22++([n29]:List Int)) n30 σ32)))))))) (J6 xs22 σ17)))))))))
def F7:MAn:=(.seq (.txt []) (.seq (.seq (.txt []) (.seq (.txt []) (.cond (.seq (.txt []) .leaf) .leaf))) (.cut ⟨[true],2,[.slot 8 (.lst 1 3 [.int .i64])],[]⟩ (.seq (.txt []) (.block (.loop ⟨[true],2,[.slot 8 (.lst 1 3 [.int .i64]),.slot 25 (.sc (.int .i64))],[(3,false),(23,true),(24,true)]⟩ (.seq (.txt []) (.seq (.cond .leaf .leaf) (.seq (.block (.seq (.txt []) (.txt []))) (.txt []))))))) (.seq (.txt []) .leaf))))
theorem Gt (σ:Hp) (b0:Option Addr) (a0 c0:Nat) (d0:Int) (l_A:Option Addr) (l_n l_c:Nat) (elements number:Value) (R:Value->Hp->Prop) (h:B8 σ b0 a0 c0 d0 l_A l_n l_c elements number R):Ae Tryz.prog 124 #[(.agg #[.slice b0 a0 c0,.int .i64 d0]),.slice l_A l_n l_c,elements,number] σ R:=
 Ad Bb F7 Tryz.func124 rfl (by kernel_rfl) (by kernel_rfl) (by kernel_rfl) h
theorem E8:Ao Tryz.prog 124=true:=by kernel_rfl
abbrev Pe:FuncId:=125
def Ff (σ:Hp) (n:Option Addr) (R:Value->Hp->Prop):Prop:=
 dr n (fun b1 o2=>ldS σ b1 (o2+2) (fun A3 l3 c3=>rt σ R (.slice A3 l3 c3)))
def Mr:MAn:=(.seq (.txt []) (.seq (.txt []) .leaf))
theorem Mg (σ:Hp) (n:Option Addr) (R:Value->Hp->Prop) (h:Ff σ n R):Ae Tryz.prog 125 #[.pointer n] σ R:=
 Ad Bb Mr Tryz.func125 rfl (by kernel_rfl) (by kernel_rfl) (by kernel_rfl) h
theorem Js:Ao Tryz.prog 125=true:=by kernel_rfl
abbrev PK:FuncId:=126
def Gv (σ:Hp) (p:Option Addr) (R:Value->Hp->Prop):Prop:=
 dr p (fun b1 o2=>ldI σ .i64 b1 (o2+8) (fun n3=>rt σ R (.int .i64 n3)))
def MN:MAn:=(.seq (.txt []) (.seq (.txt []) .leaf))
theorem MB (σ:Hp) (p:Option Addr) (R:Value->Hp->Prop) (h:Gv σ p R):Ae Tryz.prog 126 #[.pointer p] σ R:=
 Ad Bb MN Tryz.func126 rfl (by kernel_rfl) (by kernel_rfl) (by kernel_rfl) h
theorem KH:Ao Tryz.prog 126=true:=by kernel_rfl
abbrev Nq:FuncId:=178
def Et (σ:Hp) (l0 s0 r0 t0:Int) (_:Bool) (R:Value->Hp->Prop):Prop:=
 cl Tryz.prog (.func (.func 101) #[] #[]) #[.int .i64 l0,.int .i64 1,.int .i64 40] σ (fun v1 σ2=>
  ∃ t3:Bool,(v1=(.bool t3)/\bc (!t3) (rt σ2 R (.bool true)) (cl Tryz.prog (.func (.func 101) #[] #[]) #[.int .i64 s0,.int .i64 0,.int .i64 100] σ2 (fun v4 σ5=>
  ∃ t6:Bool,(v4=(.bool t6)/\bc (!t6) (rt σ5 R (.bool true)) (cl Tryz.prog (.func (.func 101) #[] #[]) #[.int .i64 r0,.int .i64 1,.int .i64 100] σ5 (fun v7 σ8=>
  ∃ t9:Bool,(v7=(.bool t9)/\bc (!t9) (rt σ8 R (.bool true)) (cl Tryz.prog (.func (.func 101) #[] #[]) #[.int .i64 t0,.int .i64 0,.int .i64 100] σ8 (fun v10 σ11=>
  ∃ t12:Bool,(v10=(.bool t12)/\rt σ11 R (.bool (!t12)))))))))))))
def AH:OA:=⟨[],false,[]⟩
def KA:MAn:=(.seq (.txt []) (.seq (.txt [AH,AH,AH,AH,⟨[],true,[]⟩,AH,AH,AH,AH,AH,⟨[],true,[]⟩,AH,AH,AH,AH,AH,⟨[],true,[]⟩]) .leaf))
theorem J2 (σ:Hp) (l0 s0 r0 t0:Int) (h1:Bool) (R:Value->Hp->Prop) (h:Et σ l0 s0 r0 t0 h1 R):Ae Tryz.prog 178 #[(.agg #[.int .i64 l0,.int .i64 s0,.int .i64 r0,.int .i64 t0,.bool h1])] σ R:=
 Ad Bb KA Tryz.func178 rfl (by kernel_rfl) (by kernel_rfl) (by kernel_rfl) h
theorem H5:Ao Tryz.prog 178=true:=by kernel_rfl
abbrev EF:FuncId:=179
def Bu (σ:Hp) (s_A:Option Addr) (s_n s_c:Nat) (f:Value) (R:Value->Hp->Prop):Prop:=
 cl Tryz.prog (.func (.func 231) #[] #[]) #[.slice s_A s_n s_c,f] σ (fun v1 σ2=>∃ n3:Int,(v1=(.int .i64 n3) /\
  rt σ2 R (.bool (decide ((0:Int)<=n3)))))
def DA:MAn:=(.seq (.txt []) (.seq (.txt []) .leaf))
theorem DH (σ:Hp) (s_A:Option Addr) (s_n s_c:Nat) (f:Value) (R:Value->Hp->Prop) (h:Bu σ s_A s_n s_c f R):Ae Tryz.prog 179 #[.slice s_A s_n s_c,f] σ R:=
 Ad Bb DA Tryz.func179 rfl (by kernel_rfl) (by kernel_rfl) (by kernel_rfl) h
theorem CW:Ao Tryz.prog 179=true:=by kernel_rfl
abbrev Ef:FuncId:=105
def BS (σ:Hp) (s_A:Option Addr) (s_n _:Nat) (f:Value) (R:Value->Hp->Prop):Prop:=
 cut (α:=Hp->Prop) (fun  σ2=>∀ _:Nat->Value,rt σ2 R (.int .i64 (-1))) (fun J3=>∃ I6:Nat->Int->Hp->Prop,(∃ n70,I6 n70 0 σ) /\
  ∀ n7:Nat,∀ n8:Int,∀ σ5:Hp,I6 n7 n8 σ5->∀ _:Nat->Value,bc (decide (n8<((s_n:Nat):Int))) (ix s_A s_n n8 1 (fun b9 a10=>
  ldI σ5 .i64 b9 a10 (fun n11=>cl Tryz.prog f #[.int .i64 n11] σ5 (fun v12 σ13=>∃ t14:Bool,(v12=(.bool t14) /\
  bc t14 (rt σ13 R (.int .i64 n8)) (wk .i64 (n8+1) (fun n15=>bk σ13 n7 (fun m16 σ17=>I6 m16 n15 σ17)))))))) (J3 σ5))
def GR:MAn:=(.seq (.txt []) (.cut ⟨[],0,[],[]⟩ (.seq (.txt []) (.block (.loop ⟨[],0,[.slot 8 (.sc (.int .i64))],[(0,true),(1,false),(7,true)]⟩ (.seq (.txt []) (.seq (.cond .leaf .leaf) (.seq (.block (.seq (.txt []) (.seq (.txt []) (.cond (.seq (.txt []) .leaf) .leaf)))) (.txt []))))))) (.seq (.txt []) .leaf)))
theorem C0 (σ:Hp) (s_A:Option Addr) (s_n s_c:Nat) (f:Value) (R:Value->Hp->Prop) (h:BS σ s_A s_n s_c f R):Ae Tryz.prog 105 #[.slice s_A s_n s_c,f] σ R:=
 Ad Bb GR Tryz.func105 rfl (by kernel_rfl) (by kernel_rfl) (by kernel_rfl) h
theorem Ck:Ao Tryz.prog 105=true:=by kernel_rfl
abbrev Fz:FuncId:=180
def BP (σ:Hp) (s_A:Option Addr) (s_n _:Nat) (f:Value) (R:Value->Hp->Prop):Prop:=
 cut (α:=Hp->Prop) (fun  σ2=>∀ _:Nat->Value,rt σ2 R (.int .i64 (-1))) (fun J3=>∃ I6:Nat->Int->Hp->Prop,(∃ n70,I6 n70 0 σ) /\
  ∀ n7:Nat,∀ n8:Int,∀ σ5:Hp,I6 n7 n8 σ5->∀ _:Nat->Value,bc (decide (n8<((s_n:Nat):Int))) (ix s_A s_n n8 5 (fun b9 a10=>
  ldI σ5 .i64 b9 a10 (fun n11=>ldI σ5 .i64 b9 (a10+1) (fun n12=>ldI σ5 .i64 b9 (a10+2) (fun n13=>
  ldS σ5 b9 (a10+3) (fun A14 l14 c14=>ldI σ5 .i64 b9 (a10+4) (fun n15=>cl Tryz.prog f #[(.agg #[.int .i64 n11,.int .i64 n12,.int .i64 n13,.slice A14 l14 c14,.int .i64 n15])] σ5 (fun v16 σ17=>
  ∃ t18:Bool,(v16=(.bool t18)/\bc t18 (rt σ17 R (.int .i64 n8)) (wk .i64 (n8+1) (fun n19=>bk σ17 n7 (fun m20 σ21=>
  I6 m20 n19 σ21)))))))))))) (J3 σ5))
def EI:MAn:=(.seq (.txt []) (.cut ⟨[],0,[],[]⟩ (.seq (.txt []) (.block (.loop ⟨[],0,[.slot 8 (.sc (.int .i64))],[(0,true),(1,false),(7,true)]⟩ (.seq (.txt []) (.seq (.cond .leaf .leaf) (.seq (.block (.seq (.txt []) (.seq (.txt []) (.cond (.seq (.txt []) .leaf) .leaf)))) (.txt []))))))) (.seq (.txt []) .leaf)))
theorem Ez (σ:Hp) (s_A:Option Addr) (s_n s_c:Nat) (f:Value) (R:Value->Hp->Prop) (h:BP σ s_A s_n s_c f R):Ae Tryz.prog 180 #[.slice s_A s_n s_c,f] σ R:=
 Ad Bb EI Tryz.func180 rfl (by kernel_rfl) (by kernel_rfl) (by kernel_rfl) h
theorem DD:Ao Tryz.prog 180=true:=by kernel_rfl
abbrev RN:FuncId:=137
def Jg (σ:Hp) (x0:Option Addr) (n0 _:Nat) (R:Value->Hp->Prop):Prop:=
 cut (α:=Hp->Prop) (fun  σ2=>∀ _:Nat->Value,rt σ2 R (.int .i64 0)) (fun J3=>∃ I6:Nat->Int->Hp->Prop,(∃ n70,I6 n70 0 σ) /\
  ∀ n7:Nat,∀ n8:Int,∀ σ5:Hp,I6 n7 n8 σ5->∀ _:Nat->Value,bc (decide (n8<((n0:Nat):Int))) (ix x0 n0 n8 1 (fun b9 a10=>
  ldI σ5 .i64 b9 a10 (fun n11=>bc (!decide (n11=0)) (rt σ5 R (.int .i64 n11)) (wk .i64 (n8+1) (fun n12=>
  bk σ5 n7 (fun m13 σ14=>I6 m13 n12 σ14)))))) (J3 σ5))
def Pn:MAn:=(.seq (.txt []) (.seq (.txt []) (.cut ⟨[],0,[],[(3,true)]⟩ (.seq (.txt []) (.block (.loop ⟨[],0,[.slot 8 (.sc (.int .i64))],[(3,true),(6,true),(7,true)]⟩ (.seq (.txt []) (.seq (.cond .leaf .leaf) (.seq (.block (.seq (.txt []) (.seq (.txt []) (.cond (.seq (.txt []) .leaf) .leaf)))) (.txt []))))))) (.seq (.txt []) .leaf))))
theorem Pv (σ:Hp) (x0:Option Addr) (n0 j1:Nat) (R:Value->Hp->Prop) (h:Jg σ x0 n0 j1 R):Ae Tryz.prog 137 #[.slice x0 n0 j1] σ R:=
 Ad Bb Pn Tryz.func137 rfl (by kernel_rfl) (by kernel_rfl) (by kernel_rfl) h
theorem Mq:Ao Tryz.prog 137=true:=by kernel_rfl
abbrev Fp:FuncId:=231
def BN (σ:Hp) (s_A:Option Addr) (s_n _:Nat) (f:Value) (R:Value->Hp->Prop):Prop:=
 cut (α:=Hp->Prop) (fun  σ2=>∀ _:Nat->Value,rt σ2 R (.int .i64 (-1))) (fun J3=>∃ I6:Nat->Int->Hp->Prop,(∃ n70,I6 n70 0 σ) /\
  ∀ n7:Nat,∀ n8:Int,∀ σ5:Hp,I6 n7 n8 σ5->∀ _:Nat->Value,bc (decide (n8<((s_n:Nat):Int))) (ix s_A s_n n8 5 (fun b9 a10=>
  ldI σ5 .i64 b9 a10 (fun n11=>ldI σ5 .i64 b9 (a10+1) (fun n12=>ldI σ5 .i64 b9 (a10+2) (fun n13=>
  ldI σ5 .i64 b9 (a10+3) (fun n14=>ldB σ5 b9 (a10+4) (fun t15=>cl Tryz.prog f #[(.agg #[.int .i64 n11,.int .i64 n12,.int .i64 n13,.int .i64 n14,.bool t15])] σ5 (fun v16 σ17=>
  ∃ t18:Bool,(v16=(.bool t18)/\bc t18 (rt σ17 R (.int .i64 n8)) (wk .i64 (n8+1) (fun n19=>bk σ17 n7 (fun m20 σ21=>
  I6 m20 n19 σ21)))))))))))) (J3 σ5))
def EB:MAn:=(.seq (.txt []) (.cut ⟨[],0,[],[]⟩ (.seq (.txt []) (.block (.loop ⟨[],0,[.slot 8 (.sc (.int .i64))],[(0,true),(1,false),(7,true)]⟩ (.seq (.txt []) (.seq (.cond .leaf .leaf) (.seq (.block (.seq (.txt []) (.seq (.txt []) (.cond (.seq (.txt []) .leaf) .leaf)))) (.txt []))))))) (.seq (.txt []) .leaf)))
theorem EE (σ:Hp) (s_A:Option Addr) (s_n s_c:Nat) (f:Value) (R:Value->Hp->Prop) (h:BN σ s_A s_n s_c f R):Ae Tryz.prog 231 #[.slice s_A s_n s_c,f] σ R:=
 Ad Bb EB Tryz.func231 rfl (by kernel_rfl) (by kernel_rfl) (by kernel_rfl) h
theorem Dz:Ao Tryz.prog 231=true:=by kernel_rfl
abbrev Ej:FuncId:=136
def F2 (σ:Hp) (q0 y0 _:Int) (_:Bool) (_ v0 p0 w0 _:Int) (_:Bool) (_ z0:Int) (R:Value->Hp->Prop):Prop:=
 wk .i64 (v0-z0) (fun n1=>wk .i64 (q0-p0) (fun n2=>wk .i64 (y0-w0) (fun n3=>
  exl 3 [.int .i64] ([n1,n2,n3]:List Int) σ (fun A4 l4 c4 σ5=>cl Tryz.prog (.func (.func 137) #[] #[]) #[.slice A4 l4 c4] σ5 (fun v6 σ7=>
  ∃ n8:Int,(v6=(.int .i64 n8)/\rt σ7 R (.int .i64 n8)))))))
def Np:MAn:=(.seq (.txt []) (.seq (.txt []) .leaf))
theorem Ny (σ:Hp) (q0 y0 g1:Int) (a_On:Bool) (a1 v0 p0 w0 e1:Int) (b_On:Bool) (d1 z0:Int) (R:Value->Hp->Prop) (h:F2 σ q0 y0 g1 a_On a1 v0 p0 w0 e1 b_On d1 z0 R):Ae Tryz.prog 136 #[(.agg #[.int .i64 q0,.int .i64 y0,.int .i64 g1,.bool a_On,.int .i64 a1,.int .i64 v0]),(.agg #[.int .i64 p0,.int .i64 w0,.int .i64 e1,.bool b_On,.int .i64 d1,.int .i64 z0])] σ R:=
 Ad Bb Np Tryz.func136 rfl (by kernel_rfl) (by kernel_rfl) (by kernel_rfl) h
abbrev JG:FuncId:=197
def Cz (σ:Hp) (g0 k0:Int) (cap0 cap1:Option Addr) (R:Value->Hp->Prop):Prop:=
 dr cap0 (fun b1 o2=>ldP σ b1 o2 (fun p3=>dr p3 (fun b4 o5=>ldI σ .i64 b4 (o5+3) (fun n6=>wk .i64 (n6-k0) (fun n7=>
  dr cap0 (fun b8 o9=>ldP σ b8 o9 (fun p10=>dr p10 (fun b11 o12=>ldS σ b11 (o12+2) (fun A13 l13 _=>
  ix A13 l13 g0 1 (fun b14 a15=>ldP σ b14 a15 (fun p16=>dr p16 (fun b17 o18=>ldI σ .i64 b17 (o18+4) (fun n19=>
  cut (α:=Hp->Prop) (fun  σ21=>∀ _:Nat->Value,rt σ21 R (.bool (decide (n19<n7)))) (fun J22=>
  bc (decide (n19<n7)) (dr cap1 (fun b23 o24=>ldS σ b23 o24 (fun A25 l25 c25=>adp 206 [.int .i64,.int .i64] A25 l25 c25 σ (fun (xs26:List (Int×Int)) σ27=>
  AZ (List.length xs26+List.length ([(g0,k0)]:List (Int×Int))) (exl 206 [.int .i64,.int .i64] (xs26++([(g0,k0)]:List (Int×Int))) σ27 (fun A28 l28 c28 σ29=>
  dr cap1 (fun b30 o31=>st σ29 b30 o31 (.slice A28 l28 c28) (fun σ32=>J22 σ32)))))))) (J22 σ)))))))))))))))
def Ar:OA:=⟨[],false,[]⟩
def HF:MAn:=(.seq (.txt []) (.seq (.plan [] (tkYQ1 21 0 Ar .done)) (.cut ⟨[true],1,[],[(5,true)]⟩ (.seq (.txt []) (.cond (.txt []) .leaf)) (.seq (.txt []) .leaf))))
theorem Hw (σ:Hp) (g0 k0:Int) (cap0 cap1:Option Addr) (R:Value->Hp->Prop) (h:Cz σ g0 k0 cap0 cap1 R):Ae Tryz.prog 197 #[(.agg #[.int .i64 g0,.int .i64 k0]),.pointer cap0,.pointer cap1] σ R:=
 Ad Bb HF Tryz.func197 rfl (by kernel_rfl) (by kernel_rfl) (by kernel_rfl) h
theorem FQ:Ao Tryz.prog 197=true:=by kernel_rfl
abbrev Cw:FuncId:=199
def Ct (σ:Hp) (o0 _ m0 _:Int) (R:Value->Hp->Prop):Prop:=
 wk .i64 (o0-m0) (fun n1=>rt σ R (.int .i64 n1))
def Ho:MAn:=(.seq (.txt []) (.seq (.txt []) .leaf))
theorem Ht (σ:Hp) (o0 f1 m0 i1:Int) (R:Value->Hp->Prop) (h:Ct σ o0 f1 m0 i1 R):Ae Tryz.prog 199 #[(.agg #[.int .i64 o0,.int .i64 f1]),(.agg #[.int .i64 m0,.int .i64 i1])] σ R:=
 Ad Bb Ho Tryz.func199 rfl (by kernel_rfl) (by kernel_rfl) (by kernel_rfl) h
end Go.Proofs.YthhadkggldcolaaGreat
