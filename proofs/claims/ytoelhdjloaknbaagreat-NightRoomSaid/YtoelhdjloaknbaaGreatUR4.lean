/- What this claim rests on. -/
import Derived.Test.YtoelhdjloaknbaaGreatUB11
namespace Go.Proofs.YtoelhdjloaknbaaGreat
open Go.RowKit Go.Proofs.Tryz
def aQ (x:MAn):MAn:=.seq (.txt []) x
theorem XA:prog.follows .mixedOrders=true:=by kernel_rfl
def Jj (σ:Hp) (y0:aA) (a1 z0:Nat) (b1:Int) (q0:aA) (p0 _:Nat) (i0:aA) (k0 _:Nat) (g0:aA) (f0 _:Nat) (o0:aA) (n0 r0:Nat) (d1:Int) (a0:aA) (b0 e0:Nat) (d0:aA) (c0 h0:Nat) (j0 m0 l0:Int) (s0:aA) (t0 u0:Nat) (w0:aA) (v0 x0:Nat) (R:aB):Prop:=
 aC 38 #[(.agg #[aN y0 a1 z0,aD b1])] σ (fun v1 σ2=>
  ∃ A3:aA,∃ l3 c3:Nat,∃ n4:Int,(v1=(.agg #[aN A3 l3 c3,aD n4]) /\
  cut (α:=aA->Nat->Nat->Int->aA->Nat->Nat->aA->Nat->Nat->aA->Nat->Nat->aA->Nat->Nat->Int->aA->Nat->Nat->aA->Nat->Nat->Int->Int->Int->aA->Nat->Nat->aA->Nat->Nat->Hp->Prop) (fun A8 l8 c8 n9 A10 l10 c10 A11 l11 c11 A12 l12 c12 _ _ _ n14 _ _ _ _ _ _ n17 n18 n19 _ _ _ _ _ _ s6=>
  ∀ _:Nat->Value,∃ ys22:List (Int×Int×Int×Int×Int),RdS [.int .i64,.int .i64,.int .i64,.int .i64,.int .i64] s6 o0 n0 ys22 /\
  AZ (List.length ([]:List (Int×Int×Int×Int×Int))+List.length ys22) (∃ ys23:List (Int×Int×Int×Int),RdS [.int .i64,.int .i64,.int .i64,.int .i64] s6 a0 b0 ys23 /\
  AZ (List.length ([]:List (Int×Int×Int×Int))+List.length ys23) (∃ ys24:List (Int×Int×Int×Int),RdS [.int .i64,.int .i64,.int .i64,.int .i64] s6 d0 c0 ys24 /\
  AZ (List.length ([]:List (Int×Int×Int×Int))+List.length ys24) (∃ ys25:List Int,RdS aM s6 s0 t0 ys25 /\
  AZ (List.length ([]:List Int)+List.length ys25) (∃ ys26:List Int,RdS aM s6 w0 v0 ys26 /\
  AZ (List.length ([]:List Int)+List.length ys26) (exl 136 [.int .i64,.int .i64,.int .i64,.int .i64,.int .i64] (([]:List (Int×Int×Int×Int×Int))++ys22) s6 (fun A27 l27 c27 s28=>
  exl 138 [.int .i64,.int .i64,.int .i64,.int .i64] (([]:List (Int×Int×Int×Int))++ys23) s28 (fun A29 l29 c29 s30=>
  exl 140 [.int .i64,.int .i64,.int .i64,.int .i64] (([]:List (Int×Int×Int×Int))++ys24) s30 (fun A31 l31 c31 s32=>
  exl 3 aM (([]:List Int)++ys25) s32 (fun A33 l33 c33 s34=>exl 3 aM (([]:List Int)++ys26) s34 (fun A35 l35 c35 s36=>
  rt s36 R (.agg #[aN A8 l8 c8,aD n9,aN A10 l10 c10,aN A11 l11 c11,aN A12 l12 c12,aN A27 l27 c27,aD n14,aN A29 l29 c29,aN A31 l31 c31,aD n17,aD n18,aD n19,aN A33 l33 c33,aN A35 l35 c35])))))))))))) (fun J7=>
  ((∃ ys37:List (Int×Int×Int×Bool),RdS [.int .i64,.int .i64,.int .i64,.bool] σ2 q0 p0 ys37 /\
  AZ (List.length ([]:List (Int×Int×Int×Bool))+List.length ys37) (((∃ ys38:List Int,RdS aM σ2 i0 k0 ys38 /\
  AZ (List.length ([]:List Int)+List.length ys38) (∃ ys39:List Int,RdS aM σ2 g0 f0 ys39 /\
  AZ (List.length ([]:List Int)+List.length ys39) (exl 270 [.int .i64,.int .i64,.int .i64,.bool] (([]:List (Int×Int×Int×Bool))++ys37) σ2 (fun A40 l40 c40 s41=>
  exl 3 aM (([]:List Int)++ys38) s41 (fun A42 l42 c42 s43=>exl 3 aM (([]:List Int)++ys39) s43 (fun A44 l44 c44 s45=>
  J7 A3 l3 c3 n4 A40 l40 c40 A42 l42 c42 A44 l44 c44 o0 n0 r0 d1 a0 b0 e0 d0 c0 h0 j0 m0 l0 s0 t0 u0 w0 v0 x0 s45)))))) /\
  (∃ ys46:List Int,RdS aM σ2 i0 k0 ys46/\AZ (List.length ([]:List Int)+List.length ys46) (∃ ys47:List Int,RdS aM σ2 g0 f0 ys47 /\
  AZ (List.length ([]:List Int)+List.length ys47) (exl 270 [.int .i64,.int .i64,.int .i64,.bool] (([]:List (Int×Int×Int×Bool))++ys37) σ2 (fun A48 l48 c48 s49=>
  exl 3 aM (([]:List Int)++ys46) s49 (fun A50 l50 c50 s51=>exl 3 aM (([]:List Int)++ys47) s51 (fun A52 l52 c52 s53=>
  J7 A3 l3 c3 n4 A48 l48 c48 A50 l50 c50 A52 l52 c52 o0 n0 r0 d1 a0 b0 e0 d0 c0 h0 j0 m0 l0 s0 t0 u0 w0 v0 x0 s53))))))))) /\
  ((∃ ys54:List (Int×Int×Int×Bool),RdS [.int .i64,.int .i64,.int .i64,.bool] σ2 q0 p0 ys54 /\
  AZ (List.length ([]:List (Int×Int×Int×Bool))+List.length ys54) (((∃ ys55:List Int,RdS aM σ2 i0 k0 ys55 /\
  AZ (List.length ([]:List Int)+List.length ys55) (∃ ys56:List Int,RdS aM σ2 g0 f0 ys56 /\
  AZ (List.length ([]:List Int)+List.length ys56) (exl 270 [.int .i64,.int .i64,.int .i64,.bool] (([]:List (Int×Int×Int×Bool))++ys54) σ2 (fun A57 l57 c57 s58=>
  exl 3 aM (([]:List Int)++ys55) s58 (fun A59 l59 c59 s60=>exl 3 aM (([]:List Int)++ys56) s60 (fun A61 l61 c61 s62=>
  J7 A3 l3 c3 n4 A57 l57 c57 A59 l59 c59 A61 l61 c61 o0 n0 r0 d1 a0 b0 e0 d0 c0 h0 j0 m0 l0 s0 t0 u0 w0 v0 x0 s62)))))) /\
  (∃ ys63:List Int,RdS aM σ2 i0 k0 ys63/\AZ (List.length ([]:List Int)+List.length ys63) (∃ ys64:List Int,RdS aM σ2 g0 f0 ys64 /\
  AZ (List.length ([]:List Int)+List.length ys64) (exl 270 [.int .i64,.int .i64,.int .i64,.bool] (([]:List (Int×Int×Int×Bool))++ys54) σ2 (fun A65 l65 c65 s66=>
  exl 3 aM (([]:List Int)++ys63) s66 (fun A67 l67 c67 s68=>exl 3 aM (([]:List Int)++ys64) s68 (fun A69 l69 c69 s70=>
  J7 A3 l3 c3 n4 A65 l65 c65 A67 l67 c67 A69 l69 c69 o0 n0 r0 d1 a0 b0 e0 d0 c0 h0 j0 m0 l0 s0 t0 u0 w0 v0 x0 s70))))))))) /\
  (∃ ys71:List (Int×Int×Int×Bool),RdS [.int .i64,.int .i64,.int .i64,.bool] σ2 q0 p0 ys71 /\
  AZ (List.length ([]:List (Int×Int×Int×Bool))+List.length ys71) (∃ ys72:List Int,RdS aM σ2 i0 k0 ys72 /\
  AZ (List.length ([]:List Int)+List.length ys72) (∃ ys73:List Int,RdS aM σ2 g0 f0 ys73 /\
  AZ (List.length ([]:List Int)+List.length ys73) (exl 270 [.int .i64,.int .i64,.int .i64,.bool] (([]:List (Int×Int×Int×Bool))++ys71) σ2 (fun A74 l74 c74 s75=>
  exl 3 aM (([]:List Int)++ys72) s75 (fun A76 l76 c76 s77=>exl 3 aM (([]:List Int)++ys73) s77 (fun A78 l78 c78 s79=>
  J7 A3 l3 c3 n4 A74 l74 c74 A76 l76 c76 A78 l78 c78 o0 n0 r0 d1 a0 b0 e0 d0 c0 h0 j0 m0 l0 s0 t0 u0 w0 v0 x0 s79)))))))) /\
  ((∃ ys80:List (Int×Int×Int×Bool),RdS [.int .i64,.int .i64,.int .i64,.bool] σ2 q0 p0 ys80 /\
  AZ (List.length ([]:List (Int×Int×Int×Bool))+List.length ys80) (∃ ys81:List Int,RdS aM σ2 i0 k0 ys81 /\
  AZ (List.length ([]:List Int)+List.length ys81) (∃ ys82:List Int,RdS aM σ2 g0 f0 ys82 /\
  AZ (List.length ([]:List Int)+List.length ys82) (exl 270 [.int .i64,.int .i64,.int .i64,.bool] (([]:List (Int×Int×Int×Bool))++ys80) σ2 (fun A83 l83 c83 s84=>
  exl 3 aM (([]:List Int)++ys81) s84 (fun A85 l85 c85 s86=>exl 3 aM (([]:List Int)++ys82) s86 (fun A87 l87 c87 s88=>
  J7 A3 l3 c3 n4 A83 l83 c83 A85 l85 c85 A87 l87 c87 o0 n0 r0 d1 a0 b0 e0 d0 c0 h0 j0 m0 l0 s0 t0 u0 w0 v0 x0 s88))))))) /\
  (∃ ys89:List (Int×Int×Int×Bool),RdS [.int .i64,.int .i64,.int .i64,.bool] σ2 q0 p0 ys89 /\
  AZ (List.length ([]:List (Int×Int×Int×Bool))+List.length ys89) (∃ ys90:List Int,RdS aM σ2 i0 k0 ys90 /\
  AZ (List.length ([]:List Int)+List.length ys90) (∃ ys91:List Int,RdS aM σ2 g0 f0 ys91 /\
  AZ (List.length ([]:List Int)+List.length ys91) (exl 270 [.int .i64,.int .i64,.int .i64,.bool] (([]:List (Int×Int×Int×Bool))++ys89) σ2 (fun A92 l92 c92 s93=>
  exl 3 aM (([]:List Int)++ys90) s93 (fun A94 l94 c94 s95=>exl 3 aM (([]:List Int)++ys91) s95 (fun A96 l96 c96 s97=>
  J7 A3 l3 c3 n4 A92 l92 c92 A94 l94 c94 A96 l96 c96 o0 n0 r0 d1 a0 b0 e0 d0 c0 h0 j0 m0 l0 s0 t0 u0 w0 v0 x0 s97))))))))))))
def Av:OA:=⟨[],false,[]⟩
def Cv:MPlan:=(.alt 14 false Av (.take 15 Av (.take 16 Av (.alt 17 false Av .done .done))) .done)
def JB:MPlan:=(.alt 9 false Av (.take 13 Av Cv) (.alt 13 true Av (.alt 9 false Av Cv .done) .done))
def Ph:MAn:=(aQ (aQ (aQ (.cut ⟨[true,true,false],3,[.slot 1 (.hb 0 0),.slot 2 (.hb 1 0),.slot 3 (.hb 2 0),.modb 2 35 [.sc (.slc),.sc (.int .i64),.sc (.slc),.sc (.slc),.sc (.slc),.sc (.slc),.sc (.int .i64),.sc (.slc),.sc (.slc),.sc (.int .i64),.sc (.int .i64),.sc (.int .i64),.sc (.slc),.sc (.slc)]],[]⟩ (.plan [4,9,14,17] (.take 1 Av (.take 2 Av (.take 3 Av (.take 6 Av (.take 7 Av (.take 11 Av (.take 12 Av (.new 0 Av (.new 5 Av (.new 10 Av (.alt 4 false Av (.take 8 Av JB) (.alt 8 true Av (.alt 4 false Av JB (.alt 13 true Av (.alt 4 false Av (.alt 9 false Av Cv .done) .done) .done)) (.alt 13 true Av (.alt 4 false Av (.take 8 Av (.alt 9 false Av Cv .done)) (.alt 8 true Av (.alt 4 false Av (.alt 9 false Av Cv .done) .done) .done)) .done)))))))))))))) (aQ (aQ (aQ (aQ (aQ (aQ .leaf))))))))))
set_option maxRecDepth 100000 in
theorem Pw (σ:Hp) (y0:aA) (a1 z0:Nat) (b1:Int) (q0:aA) (p0 f1:Nat) (i0:aA) (k0 e1:Nat) (g0:aA) (f0 c1:Nat) (o0:aA) (n0 r0:Nat) (d1:Int) (a0:aA) (b0 e0:Nat) (d0:aA) (c0 h0:Nat) (j0 m0 l0:Int) (s0:aA) (t0 u0:Nat) (w0:aA) (v0 x0:Nat) (R:aB) (h:Jj σ y0 a1 z0 b1 q0 p0 f1 i0 k0 e1 g0 f0 c1 o0 n0 r0 d1 a0 b0 e0 d0 c0 h0 j0 m0 l0 s0 t0 u0 w0 v0 x0 R):Af prog 13 #[(.agg #[aN y0 a1 z0,aD b1,aN q0 p0 f1,aN i0 k0 e1,aN g0 f0 c1,aN o0 n0 r0,aD d1,aN a0 b0 e0,aN d0 c0 h0,aD j0,aD m0,aD l0,aN s0 t0 u0,aN w0 v0 x0])] σ R:=
 Ae XA Ph Tryz.func13 rfl (h:=h)
end Go.Proofs.YtoelhdjloaknbaaGreat
