/- Trimmed by wip/trim.py to what this claim rests on. -/
import Derived.Test.YthhadkggldcolaaGreatZB11
namespace Go.Proofs.YthhadkggldcolaaGreat
set_option maxRecDepth 100000
open Go.RowKit
theorem Ql:Tryz.prog.follows .mixedOrders=true:=by kernel_rfl
abbrev N8:FuncId:=61
def Jd (σ:Hp) (n low high:Int) (R:Value->Hp->Prop):Prop:=
 bc (decide (low<=n)) (rt σ R (.bool (decide (n<=high)))) (rt σ R (.bool false))
def PQ:MAn:=(.seq (.txt []) (.seq (.txt [⟨[],false,[]⟩,⟨[],false,[]⟩,⟨[],false,[]⟩,⟨[],true,[]⟩]) .leaf))
theorem P3 (σ:Hp) (n low high:Int) (R:Value->Hp->Prop) (h:Jd σ n low high R):Ae Tryz.prog 61 #[.int .i64 n,.int .i64 low,.int .i64 high] σ R:=
 Ad Ql PQ Tryz.func61 rfl (by kernel_rfl) (by kernel_rfl) (by kernel_rfl) h
theorem M2:An Tryz.prog 61=true:=by kernel_rfl
abbrev Mc:FuncId:=21
def HP (σ:Hp) (t0:Option Addr) (g0 s0:Nat) (z0:Int) (o0:Option Addr) (p0 e1:Nat) (j0:Option Addr) (k0 d1:Nat) (h0:Option Addr) (e0 a1:Nat) (r0:Option Addr) (q0 v0:Nat) (f1:Int) (a0:Option Addr) (b0 d0:Nat) (f0:Option Addr) (c0 i0:Nat) (m0 n0 l0:Int) (w0:Option Addr) (u0 _:Nat) (y0:Option Addr) (x0 _:Nat) (R:Value->Hp->Prop):Prop:=
 cl Tryz.prog (.func (.func 58) #[] #[]) #[(.agg #[.slice t0 g0 s0,.int .i64 z0]),.slice none 0 0] σ (fun v1 σ2=>
  ∃ n3:Int,(v1=(.int .i64 n3)/\bc (!decide (n3=0)) (rt σ2 R (.int .i64 n3)) (cl Tryz.prog (.func (.func 59) #[] #[]) #[(.agg #[.slice o0 p0 e1,.slice j0 k0 d1,.slice h0 e0 a1]),.slice r0 q0 v0] σ2 (fun v4 σ5=>
  ∃ n6 n7:Int,(v4=(.tuple #[.int .i64 n6,.int .i64 n7])/\bc (!decide (n7=0)) (rt σ5 R (.int .i64 n7)) (cl Tryz.prog (.func (.func 60) #[] #[]) #[(.agg #[.slice a0 b0 d0,.slice f0 c0 i0,.int .i64 m0,.int .i64 n0,.int .i64 l0])] σ5 (fun v8 σ9=>
  ∃ n10:Int,(v8=(.int .i64 n10)/\bc (!decide (n10=0)) (rt σ9 R (.int .i64 n10)) (cut (α:=Hp->Prop) (fun  σ12=>
  ∀ _:Nat->Value,cut (α:=Hp->Prop) (fun  σ15=>∀ _:Nat->Value,rt σ15 R (.int .i64 0)) (fun J16=>
  ∃ I19:Nat->Int->Hp->Prop,(∃ n200,I19 n200 0 σ12)/\∀ n20:Nat,∀ n21:Int,∀ σ18:Hp,I19 n20 n21 σ18->∀ _:Nat->Value,bc (decide (n21<((g0:Nat):Int))) (cut (α:=Hp->Prop) (fun  σ23=>
  ∀ _:Nat->Value,wk .i64 (n21+1) (fun n25=>bk σ23 n20 (fun m26 σ27=>I19 m26 n25 σ27))) (fun J24=>
  cut (α:=Bool->Hp->Prop) (fun t31 σ29=>∀ _:Nat->Value,bc t31 (rt σ29 R (.int .i64 120)) (J24 σ29)) (fun J30=>
  ix w0 u0 n21 1 (fun b32 a33=>ldI σ18 .i64 b32 a33 (fun n34=>cl Tryz.prog (.func (.func 61) #[] #[]) #[.int .i64 n34,.int .i64 0,.int .i64 200] σ18 (fun v35 σ36=>
  ∃ t37:Bool,(v35=(.bool t37)/\bc (!t37) (J30 true σ36) (ix y0 x0 n21 1 (fun b38 a39=>
  ldI σ36 .i64 b38 a39 (fun n40=>cl Tryz.prog (.func (.func 61) #[] #[]) #[.int .i64 n40,.int .i64 0,.int .i64 100] σ36 (fun v41 σ42=>
  ∃ t43:Bool,(v41=(.bool t43)/\J30 (!t43) σ42)))))))))))) (J16 σ18))) (fun J13=>cut (α:=Bool->Hp->Prop) (fun t47 σ45=>
  ∀ _:Nat->Value,bc t47 (rt σ45 R (.int .i64 120)) (J13 σ45)) (fun J46=>bc (!decide (((e0:Nat):Int)=((g0:Nat):Int))) (J46 true σ9) (bc (!decide (((c0:Nat):Int)=((g0:Nat):Int))) (J46 true σ9) (bc (!decide (((u0:Nat):Int)=((g0:Nat):Int))) (J46 true σ9) (bc (!decide (((x0:Nat):Int)=((g0:Nat):Int))) (J46 true σ9) (cl Tryz.prog (.func (.func 61) #[] #[]) #[.int .i64 f1,.int .i64 0,.int .i64 10000] σ9 (fun v48 σ49=>
  ∃ t50:Bool,(v48=(.bool t50)/\J46 (!t50) σ49)))))))))))))))))
def Aw:OA:=⟨[],false,[]⟩
def Pc:MAn:=(.seq (.txt []) (.seq (.txt []) (.seq (.seq (.txt []) (.cond (.seq (.txt []) .leaf) .leaf)) (.seq (.txt []) (.seq (.seq (.txt []) (.cond (.seq (.txt []) .leaf) .leaf)) (.seq (.txt []) (.seq (.seq (.txt []) (.cond (.seq (.txt []) .leaf) .leaf)) (.seq (.txt []) (.cut ⟨[true],1,[.slot 1 (.hb 0 0)],[(4,true)]⟩ (.cut ⟨[true],1,[.slot 1 (.hb 0 0),.slot 66 (.sc (.bool))],[(4,true)]⟩ (.txt [Aw,Aw,Aw,Aw,Aw,Aw,⟨[],true,[]⟩,Aw,Aw,Aw,Aw,Aw,Aw,Aw,⟨[],true,[]⟩,Aw,Aw,Aw,Aw,Aw,Aw,⟨[],true,[]⟩,Aw,Aw,Aw,Aw,Aw,Aw,⟨[],true,[]⟩]) (.cond (.seq (.txt []) .leaf) .leaf)) (.cut ⟨[true],1,[],[]⟩ (.seq (.txt []) (.block (.loop ⟨[true],1,[.slot 1 (.hb 0 0),.slot 5 (.sc (.int .i64))],[(4,true)]⟩ (.seq (.seq (.txt []) (.cond .leaf .leaf)) (.cut ⟨[true],1,[.slot 1 (.hb 0 0)],[(4,true),(5,true)]⟩ (.block (.cut ⟨[true],1,[.slot 1 (.hb 0 0),.slot 87 (.sc (.bool))],[(4,true),(5,true)]⟩ (.txt [Aw,Aw,Aw,Aw,Aw,Aw,Aw,⟨[],true,[]⟩]) (.cond (.seq (.txt []) .leaf) .leaf))) (.txt [])))))) (.seq (.txt []) .leaf)))))))))))
theorem Oy (σ:Hp) (t0:Option Addr) (g0 s0:Nat) (z0:Int) (o0:Option Addr) (p0 e1:Nat) (j0:Option Addr) (k0 d1:Nat) (h0:Option Addr) (e0 a1:Nat) (r0:Option Addr) (q0 v0:Nat) (f1:Int) (a0:Option Addr) (b0 d0:Nat) (f0:Option Addr) (c0 i0:Nat) (m0 n0 l0:Int) (w0:Option Addr) (u0 b1:Nat) (y0:Option Addr) (x0 c1:Nat) (R:Value->Hp->Prop) (h:HP σ t0 g0 s0 z0 o0 p0 e1 j0 k0 d1 h0 e0 a1 r0 q0 v0 f1 a0 b0 d0 f0 c0 i0 m0 n0 l0 w0 u0 b1 y0 x0 c1 R):Ae Tryz.prog 21 #[(.agg #[.slice t0 g0 s0,.int .i64 z0,.slice o0 p0 e1,.slice j0 k0 d1,.slice h0 e0 a1,.slice r0 q0 v0,.int .i64 f1,.slice a0 b0 d0,.slice f0 c0 i0,.int .i64 m0,.int .i64 n0,.int .i64 l0,.slice w0 u0 b1,.slice y0 x0 c1])] σ R:=
 Ad Ql Pc Tryz.func21 rfl (by kernel_rfl) (by kernel_rfl) (by kernel_rfl) h
theorem LK:An Tryz.prog 21=true:=by kernel_rfl
abbrev SH:FuncId:=17
def IP (σ:Hp) (t0:Option Addr) (g0 s0:Nat) (z0:Int) (o0:Option Addr) (p0 _:Nat) (j0:Option Addr) (k0 _:Nat) (h0:Option Addr) (e0 _:Nat) (r0:Option Addr) (q0 v0:Nat) (f1:Int) (a0:Option Addr) (b0 d0:Nat) (f0:Option Addr) (c0 i0:Nat) (m0 n0 l0:Int) (w0:Option Addr) (u0 b1:Nat) (y0:Option Addr) (x0 c1:Nat) (R:Value->Hp->Prop):Prop:=
 cl Tryz.prog (.func (.func 34) #[] #[]) #[(.agg #[.slice t0 g0 s0,.int .i64 z0])] σ (fun v1 σ2=>
  ∃ A3:Option Addr,∃ l3 c3:Nat,∃ n4:Int,(v1=(.agg #[.slice A3 l3 c3,.int .i64 n4]) /\
  cut (α:=Option Addr->Nat->Nat->Int->Option Addr->Nat->Nat->Option Addr->Nat->Nat->Option Addr->Nat->Nat->Option Addr->Nat->Nat->Int->Option Addr->Nat->Nat->Option Addr->Nat->Nat->Int->Int->Int->Option Addr->Nat->Nat->Option Addr->Nat->Nat->Hp->Prop) (fun A8 l8 c8 n9 A10 l10 c10 A11 l11 c11 A12 l12 c12 _ _ _ n14 _ _ _ _ _ _ n17 n18 n19 _ _ _ _ _ _ σ6=>
  ∀ _:Nat->Value,∃ ys22:List (Int×Int×Int×Int×Int),RdS [.int .i64,.int .i64,.int .i64,.int .i64,.int .i64] σ6 r0 q0 ys22 /\
  Bc (List.length ([]:List (Int×Int×Int×Int×Int))+List.length ys22) (∃ ys23:List (Int×Int×Int×Int),RdS [.int .i64,.int .i64,.int .i64,.int .i64] σ6 a0 b0 ys23 /\
  Bc (List.length ([]:List (Int×Int×Int×Int))+List.length ys23) (∃ ys24:List (Int×Int×Int×Int),RdS [.int .i64,.int .i64,.int .i64,.int .i64] σ6 f0 c0 ys24 /\
  Bc (List.length ([]:List (Int×Int×Int×Int))+List.length ys24) (∃ ys25:List Int,RdS [.int .i64] σ6 w0 u0 ys25 /\
  Bc (List.length ([]:List Int)+List.length ys25) (∃ ys26:List Int,RdS [.int .i64] σ6 y0 x0 ys26 /\
  Bc (List.length ([]:List Int)+List.length ys26) (exl 162 [.int .i64,.int .i64,.int .i64,.int .i64,.int .i64] (([]:List (Int×Int×Int×Int×Int))++ys22) σ6 (fun A27 l27 c27 σ28=>
  exl 164 [.int .i64,.int .i64,.int .i64,.int .i64] (([]:List (Int×Int×Int×Int))++ys23) σ28 (fun A29 l29 c29 σ30=>
  exl 166 [.int .i64,.int .i64,.int .i64,.int .i64] (([]:List (Int×Int×Int×Int))++ys24) σ30 (fun A31 l31 c31 σ32=>
  exl 3 [.int .i64] (([]:List Int)++ys25) σ32 (fun A33 l33 c33 σ34=>exl 3 [.int .i64] (([]:List Int)++ys26) σ34 (fun A35 l35 c35 σ36=>
  rt σ36 R (.agg #[.slice A8 l8 c8,.int .i64 n9,.slice A10 l10 c10,.slice A11 l11 c11,.slice A12 l12 c12,.slice A27 l27 c27,.int .i64 n14,.slice A29 l29 c29,.slice A31 l31 c31,.int .i64 n17,.int .i64 n18,.int .i64 n19,.slice A33 l33 c33,.slice A35 l35 c35])))))))))))) (fun J7=>
  ((∃ ys37:List (Int×Int×Int×Bool),RdS [.int .i64,.int .i64,.int .i64,.bool] σ2 o0 p0 ys37 /\
  Bc (List.length ([]:List (Int×Int×Int×Bool))+List.length ys37) (((∃ ys38:List Int,RdS [.int .i64] σ2 j0 k0 ys38 /\
  Bc (List.length ([]:List Int)+List.length ys38) (∃ ys39:List Int,RdS [.int .i64] σ2 h0 e0 ys39 /\
  Bc (List.length ([]:List Int)+List.length ys39) (exl 249 [.int .i64,.int .i64,.int .i64,.bool] (([]:List (Int×Int×Int×Bool))++ys37) σ2 (fun A40 l40 c40 σ41=>
  exl 3 [.int .i64] (([]:List Int)++ys38) σ41 (fun A42 l42 c42 σ43=>exl 3 [.int .i64] (([]:List Int)++ys39) σ43 (fun A44 l44 c44 σ45=>
  J7 A3 l3 c3 n4 A40 l40 c40 A42 l42 c42 A44 l44 c44 r0 q0 v0 f1 a0 b0 d0 f0 c0 i0 m0 n0 l0 w0 u0 b1 y0 x0 c1 σ45)))))) /\
  (∃ ys46:List Int,RdS [.int .i64] σ2 j0 k0 ys46/\Bc (List.length ([]:List Int)+List.length ys46) (∃ ys47:List Int,RdS [.int .i64] σ2 h0 e0 ys47 /\
  Bc (List.length ([]:List Int)+List.length ys47) (exl 249 [.int .i64,.int .i64,.int .i64,.bool] (([]:List (Int×Int×Int×Bool))++ys37) σ2 (fun A48 l48 c48 σ49=>
  exl 3 [.int .i64] (([]:List Int)++ys46) σ49 (fun A50 l50 c50 σ51=>exl 3 [.int .i64] (([]:List Int)++ys47) σ51 (fun A52 l52 c52 σ53=>
  J7 A3 l3 c3 n4 A48 l48 c48 A50 l50 c50 A52 l52 c52 r0 q0 v0 f1 a0 b0 d0 f0 c0 i0 m0 n0 l0 w0 u0 b1 y0 x0 c1 σ53))))))))) /\
  ((∃ ys54:List (Int×Int×Int×Bool),RdS [.int .i64,.int .i64,.int .i64,.bool] σ2 o0 p0 ys54 /\
  Bc (List.length ([]:List (Int×Int×Int×Bool))+List.length ys54) (((∃ ys55:List Int,RdS [.int .i64] σ2 j0 k0 ys55 /\
  Bc (List.length ([]:List Int)+List.length ys55) (∃ ys56:List Int,RdS [.int .i64] σ2 h0 e0 ys56 /\
  Bc (List.length ([]:List Int)+List.length ys56) (exl 249 [.int .i64,.int .i64,.int .i64,.bool] (([]:List (Int×Int×Int×Bool))++ys54) σ2 (fun A57 l57 c57 σ58=>
  exl 3 [.int .i64] (([]:List Int)++ys55) σ58 (fun A59 l59 c59 σ60=>exl 3 [.int .i64] (([]:List Int)++ys56) σ60 (fun A61 l61 c61 σ62=>
  J7 A3 l3 c3 n4 A57 l57 c57 A59 l59 c59 A61 l61 c61 r0 q0 v0 f1 a0 b0 d0 f0 c0 i0 m0 n0 l0 w0 u0 b1 y0 x0 c1 σ62)))))) /\
  (∃ ys63:List Int,RdS [.int .i64] σ2 j0 k0 ys63/\Bc (List.length ([]:List Int)+List.length ys63) (∃ ys64:List Int,RdS [.int .i64] σ2 h0 e0 ys64 /\
  Bc (List.length ([]:List Int)+List.length ys64) (exl 249 [.int .i64,.int .i64,.int .i64,.bool] (([]:List (Int×Int×Int×Bool))++ys54) σ2 (fun A65 l65 c65 σ66=>
  exl 3 [.int .i64] (([]:List Int)++ys63) σ66 (fun A67 l67 c67 σ68=>exl 3 [.int .i64] (([]:List Int)++ys64) σ68 (fun A69 l69 c69 σ70=>
  J7 A3 l3 c3 n4 A65 l65 c65 A67 l67 c67 A69 l69 c69 r0 q0 v0 f1 a0 b0 d0 f0 c0 i0 m0 n0 l0 w0 u0 b1 y0 x0 c1 σ70))))))))) /\
  (∃ ys71:List (Int×Int×Int×Bool),RdS [.int .i64,.int .i64,.int .i64,.bool] σ2 o0 p0 ys71 /\
  Bc (List.length ([]:List (Int×Int×Int×Bool))+List.length ys71) (∃ ys72:List Int,RdS [.int .i64] σ2 j0 k0 ys72 /\
  Bc (List.length ([]:List Int)+List.length ys72) (∃ ys73:List Int,RdS [.int .i64] σ2 h0 e0 ys73 /\
  Bc (List.length ([]:List Int)+List.length ys73) (exl 249 [.int .i64,.int .i64,.int .i64,.bool] (([]:List (Int×Int×Int×Bool))++ys71) σ2 (fun A74 l74 c74 σ75=>
  exl 3 [.int .i64] (([]:List Int)++ys72) σ75 (fun A76 l76 c76 σ77=>exl 3 [.int .i64] (([]:List Int)++ys73) σ77 (fun A78 l78 c78 σ79=>
  J7 A3 l3 c3 n4 A74 l74 c74 A76 l76 c76 A78 l78 c78 r0 q0 v0 f1 a0 b0 d0 f0 c0 i0 m0 n0 l0 w0 u0 b1 y0 x0 c1 σ79)))))))) /\
  ((∃ ys80:List (Int×Int×Int×Bool),RdS [.int .i64,.int .i64,.int .i64,.bool] σ2 o0 p0 ys80 /\
  Bc (List.length ([]:List (Int×Int×Int×Bool))+List.length ys80) (∃ ys81:List Int,RdS [.int .i64] σ2 j0 k0 ys81 /\
  Bc (List.length ([]:List Int)+List.length ys81) (∃ ys82:List Int,RdS [.int .i64] σ2 h0 e0 ys82 /\
  Bc (List.length ([]:List Int)+List.length ys82) (exl 249 [.int .i64,.int .i64,.int .i64,.bool] (([]:List (Int×Int×Int×Bool))++ys80) σ2 (fun A83 l83 c83 σ84=>
  exl 3 [.int .i64] (([]:List Int)++ys81) σ84 (fun A85 l85 c85 σ86=>exl 3 [.int .i64] (([]:List Int)++ys82) σ86 (fun A87 l87 c87 σ88=>
  J7 A3 l3 c3 n4 A83 l83 c83 A85 l85 c85 A87 l87 c87 r0 q0 v0 f1 a0 b0 d0 f0 c0 i0 m0 n0 l0 w0 u0 b1 y0 x0 c1 σ88))))))) /\
  (∃ ys89:List (Int×Int×Int×Bool),RdS [.int .i64,.int .i64,.int .i64,.bool] σ2 o0 p0 ys89 /\
  Bc (List.length ([]:List (Int×Int×Int×Bool))+List.length ys89) (∃ ys90:List Int,RdS [.int .i64] σ2 j0 k0 ys90 /\
  Bc (List.length ([]:List Int)+List.length ys90) (∃ ys91:List Int,RdS [.int .i64] σ2 h0 e0 ys91 /\
  Bc (List.length ([]:List Int)+List.length ys91) (exl 249 [.int .i64,.int .i64,.int .i64,.bool] (([]:List (Int×Int×Int×Bool))++ys89) σ2 (fun A92 l92 c92 σ93=>
  exl 3 [.int .i64] (([]:List Int)++ys90) σ93 (fun A94 l94 c94 σ95=>exl 3 [.int .i64] (([]:List Int)++ys91) σ95 (fun A96 l96 c96 σ97=>
  J7 A3 l3 c3 n4 A92 l92 c92 A94 l94 c94 A96 l96 c96 r0 q0 v0 f1 a0 b0 d0 f0 c0 i0 m0 n0 l0 w0 u0 b1 y0 x0 c1 σ97))))))))))))
def Az:OA:=⟨[],false,[]⟩
def Cs:MPlan:=(.alt 14 false Az (.take 15 Az (.take 16 Az (.alt 17 false Az .done .done))) .done)
def JK:MPlan:=(.alt 9 false Az (.take 13 Az Cs) (.alt 13 true Az (.alt 9 false Az Cs .done) .done))
def Pz:MAn:=(.seq (.txt []) (.seq (.txt []) (.seq (.txt []) (.cut ⟨[true,true,false],3,[.slot 1 (.hb 0 0),.slot 2 (.hb 1 0),.slot 3 (.hb 2 0),.modb 2 35 [.sc (.slc),.sc (.int .i64),.sc (.slc),.sc (.slc),.sc (.slc),.sc (.slc),.sc (.int .i64),.sc (.slc),.sc (.slc),.sc (.int .i64),.sc (.int .i64),.sc (.int .i64),.sc (.slc),.sc (.slc)]],[]⟩ (.plan [4,9,14,17] (.take 1 Az (.take 2 Az (.take 3 Az (.take 6 Az (.take 7 Az (.take 11 Az (.take 12 Az (.new 0 Az (.new 5 Az (.new 10 Az (.alt 4 false Az (.take 8 Az JK) (.alt 8 true Az (.alt 4 false Az JK (.alt 13 true Az (.alt 4 false Az (.alt 9 false Az Cs .done) .done) .done)) (.alt 13 true Az (.alt 4 false Az (.take 8 Az (.alt 9 false Az Cs .done)) (.alt 8 true Az (.alt 4 false Az (.alt 9 false Az Cs .done) .done) .done)) .done)))))))))))))) (.seq (.txt []) (.seq (.txt []) (.seq (.txt []) (.seq (.txt []) (.seq (.txt []) (.seq (.txt []) .leaf))))))))))
theorem PD (σ:Hp) (t0:Option Addr) (g0 s0:Nat) (z0:Int) (o0:Option Addr) (p0 e1:Nat) (j0:Option Addr) (k0 d1:Nat) (h0:Option Addr) (e0 a1:Nat) (r0:Option Addr) (q0 v0:Nat) (f1:Int) (a0:Option Addr) (b0 d0:Nat) (f0:Option Addr) (c0 i0:Nat) (m0 n0 l0:Int) (w0:Option Addr) (u0 b1:Nat) (y0:Option Addr) (x0 c1:Nat) (R:Value->Hp->Prop) (h:IP σ t0 g0 s0 z0 o0 p0 e1 j0 k0 d1 h0 e0 a1 r0 q0 v0 f1 a0 b0 d0 f0 c0 i0 m0 n0 l0 w0 u0 b1 y0 x0 c1 R):Ae Tryz.prog 17 #[(.agg #[.slice t0 g0 s0,.int .i64 z0,.slice o0 p0 e1,.slice j0 k0 d1,.slice h0 e0 a1,.slice r0 q0 v0,.int .i64 f1,.slice a0 b0 d0,.slice f0 c0 i0,.int .i64 m0,.int .i64 n0,.int .i64 l0,.slice w0 u0 b1,.slice y0 x0 c1])] σ R:=
 Ad Ql Pz Tryz.func17 rfl (by kernel_rfl) (by kernel_rfl) (by kernel_rfl) h
theorem My:An Tryz.prog 17=true:=by kernel_rfl
end Go.Proofs.YthhadkggldcolaaGreat
