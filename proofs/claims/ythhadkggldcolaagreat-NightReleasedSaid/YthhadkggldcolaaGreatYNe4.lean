/- Trimmed by wip/trim.py to what this claim rests on. -/
import Derived.Test.YthhadkggldcolaaGreatYNb1
import Derived.Test.YthhadkggldcolaaGreatYB11
namespace Go.Proofs.YthhadkggldcolaaGreat
open Go.RowKit
theorem AaA {e:Int} (h:0<=e/\e<=18446744073709551615):IntKind.u64.wrap e=e:=by
 have h1:IntKind.u64.wrap e=e%18446744073709551616:=by
  unfold IntKind.wrap
  simp [IntKind.signed,IntKind.bits]
 rw [h1]
 omega
theorem W9 {e:Int} {K:Int->Prop} (h:0<=e/\e<=18446744073709551615) (hk:K e):wk .u64 e K:=by
 unfold wk
 rw [AaA h]
 exact hk
section
variable {σ:Hp} {w:SuW} {S:Sup}
end
end Go.Proofs.YthhadkggldcolaaGreat
namespace Go.Proofs.YthhadkggldcolaaGreat
open Go.RowKit
theorem XR:Tryz.prog.follows .mixedOrders=true:=by kernel_rfl
abbrev Rv:FuncId:=17
def IN (σ:Hp) (z0:Option Addr) (a1 y0:Nat) (b1:Int) (q0:Option Addr) (p0 _:Nat) (j0:Option Addr) (i0 _:Nat) (g0:Option Addr) (f0 _:Nat) (n0:Option Addr) (o0 r0:Nat) (d1:Int) (b0:Option Addr) (a0 e0:Nat) (c0:Option Addr) (d0 h0:Nat) (k0 m0 l0:Int) (s0:Option Addr) (t0 u0:Nat) (v0:Option Addr) (w0 x0:Nat) (R:Value->Hp->Prop):Prop:=
 cl Tryz.prog (.func (.func 34) #[] #[]) #[(.agg #[.slice z0 a1 y0,.int .i64 b1])] σ (fun v1 σ2=>
  ∃ A3:Option Addr,∃ l3 c3:Nat,∃ n4:Int,(v1=(.agg #[.slice A3 l3 c3,.int .i64 n4]) /\
  cut (α:=Option Addr->Nat->Nat->Int->Option Addr->Nat->Nat->Option Addr->Nat->Nat->Option Addr->Nat->Nat->Option Addr->Nat->Nat->Int->Option Addr->Nat->Nat->Option Addr->Nat->Nat->Int->Int->Int->Option Addr->Nat->Nat->Option Addr->Nat->Nat->Hp->Prop) (fun A8 l8 c8 n9 A10 l10 c10 A11 l11 c11 A12 l12 c12 _ _ _ n14 _ _ _ _ _ _ n17 n18 n19 _ _ _ _ _ _ σ6=>
  ∀ _:Nat->Value,∃ ys22:List (Int×Int×Int×Int×Int),RdS [.int .i64,.int .i64,.int .i64,.int .i64,.int .i64] σ6 n0 o0 ys22 /\
  AZ (List.length ([]:List (Int×Int×Int×Int×Int))+List.length ys22) (∃ ys23:List (Int×Int×Int×Int),RdS [.int .i64,.int .i64,.int .i64,.int .i64] σ6 b0 a0 ys23 /\
  AZ (List.length ([]:List (Int×Int×Int×Int))+List.length ys23) (∃ ys24:List (Int×Int×Int×Int),RdS [.int .i64,.int .i64,.int .i64,.int .i64] σ6 c0 d0 ys24 /\
  AZ (List.length ([]:List (Int×Int×Int×Int))+List.length ys24) (∃ ys25:List Int,RdS [.int .i64] σ6 s0 t0 ys25 /\
  AZ (List.length ([]:List Int)+List.length ys25) (∃ ys26:List Int,RdS [.int .i64] σ6 v0 w0 ys26 /\
  AZ (List.length ([]:List Int)+List.length ys26) (exl 162 [.int .i64,.int .i64,.int .i64,.int .i64,.int .i64] (([]:List (Int×Int×Int×Int×Int))++ys22) σ6 (fun A27 l27 c27 σ28=>
  exl 164 [.int .i64,.int .i64,.int .i64,.int .i64] (([]:List (Int×Int×Int×Int))++ys23) σ28 (fun A29 l29 c29 σ30=>
  exl 166 [.int .i64,.int .i64,.int .i64,.int .i64] (([]:List (Int×Int×Int×Int))++ys24) σ30 (fun A31 l31 c31 σ32=>
  exl 3 [.int .i64] (([]:List Int)++ys25) σ32 (fun A33 l33 c33 σ34=>exl 3 [.int .i64] (([]:List Int)++ys26) σ34 (fun A35 l35 c35 σ36=>
  rt σ36 R (.agg #[.slice A8 l8 c8,.int .i64 n9,.slice A10 l10 c10,.slice A11 l11 c11,.slice A12 l12 c12,.slice A27 l27 c27,.int .i64 n14,.slice A29 l29 c29,.slice A31 l31 c31,.int .i64 n17,.int .i64 n18,.int .i64 n19,.slice A33 l33 c33,.slice A35 l35 c35])))))))))))) (fun J7=>
  ((∃ ys37:List (Int×Int×Int×Bool),RdS [.int .i64,.int .i64,.int .i64,.bool] σ2 q0 p0 ys37 /\
  AZ (List.length ([]:List (Int×Int×Int×Bool))+List.length ys37) (((∃ ys38:List Int,RdS [.int .i64] σ2 j0 i0 ys38 /\
  AZ (List.length ([]:List Int)+List.length ys38) (∃ ys39:List Int,RdS [.int .i64] σ2 g0 f0 ys39 /\
  AZ (List.length ([]:List Int)+List.length ys39) (exl 249 [.int .i64,.int .i64,.int .i64,.bool] (([]:List (Int×Int×Int×Bool))++ys37) σ2 (fun A40 l40 c40 σ41=>
  exl 3 [.int .i64] (([]:List Int)++ys38) σ41 (fun A42 l42 c42 σ43=>exl 3 [.int .i64] (([]:List Int)++ys39) σ43 (fun A44 l44 c44 σ45=>
  J7 A3 l3 c3 n4 A40 l40 c40 A42 l42 c42 A44 l44 c44 n0 o0 r0 d1 b0 a0 e0 c0 d0 h0 k0 m0 l0 s0 t0 u0 v0 w0 x0 σ45)))))) /\
  (∃ ys46:List Int,RdS [.int .i64] σ2 j0 i0 ys46/\AZ (List.length ([]:List Int)+List.length ys46) (∃ ys47:List Int,RdS [.int .i64] σ2 g0 f0 ys47 /\
  AZ (List.length ([]:List Int)+List.length ys47) (exl 249 [.int .i64,.int .i64,.int .i64,.bool] (([]:List (Int×Int×Int×Bool))++ys37) σ2 (fun A48 l48 c48 σ49=>
  exl 3 [.int .i64] (([]:List Int)++ys46) σ49 (fun A50 l50 c50 σ51=>exl 3 [.int .i64] (([]:List Int)++ys47) σ51 (fun A52 l52 c52 σ53=>
  J7 A3 l3 c3 n4 A48 l48 c48 A50 l50 c50 A52 l52 c52 n0 o0 r0 d1 b0 a0 e0 c0 d0 h0 k0 m0 l0 s0 t0 u0 v0 w0 x0 σ53))))))))) /\
  ((∃ ys54:List (Int×Int×Int×Bool),RdS [.int .i64,.int .i64,.int .i64,.bool] σ2 q0 p0 ys54 /\
  AZ (List.length ([]:List (Int×Int×Int×Bool))+List.length ys54) (((∃ ys55:List Int,RdS [.int .i64] σ2 j0 i0 ys55 /\
  AZ (List.length ([]:List Int)+List.length ys55) (∃ ys56:List Int,RdS [.int .i64] σ2 g0 f0 ys56 /\
  AZ (List.length ([]:List Int)+List.length ys56) (exl 249 [.int .i64,.int .i64,.int .i64,.bool] (([]:List (Int×Int×Int×Bool))++ys54) σ2 (fun A57 l57 c57 σ58=>
  exl 3 [.int .i64] (([]:List Int)++ys55) σ58 (fun A59 l59 c59 σ60=>exl 3 [.int .i64] (([]:List Int)++ys56) σ60 (fun A61 l61 c61 σ62=>
  J7 A3 l3 c3 n4 A57 l57 c57 A59 l59 c59 A61 l61 c61 n0 o0 r0 d1 b0 a0 e0 c0 d0 h0 k0 m0 l0 s0 t0 u0 v0 w0 x0 σ62)))))) /\
  (∃ ys63:List Int,RdS [.int .i64] σ2 j0 i0 ys63/\AZ (List.length ([]:List Int)+List.length ys63) (∃ ys64:List Int,RdS [.int .i64] σ2 g0 f0 ys64 /\
  AZ (List.length ([]:List Int)+List.length ys64) (exl 249 [.int .i64,.int .i64,.int .i64,.bool] (([]:List (Int×Int×Int×Bool))++ys54) σ2 (fun A65 l65 c65 σ66=>
  exl 3 [.int .i64] (([]:List Int)++ys63) σ66 (fun A67 l67 c67 σ68=>exl 3 [.int .i64] (([]:List Int)++ys64) σ68 (fun A69 l69 c69 σ70=>
  J7 A3 l3 c3 n4 A65 l65 c65 A67 l67 c67 A69 l69 c69 n0 o0 r0 d1 b0 a0 e0 c0 d0 h0 k0 m0 l0 s0 t0 u0 v0 w0 x0 σ70))))))))) /\
  (∃ ys71:List (Int×Int×Int×Bool),RdS [.int .i64,.int .i64,.int .i64,.bool] σ2 q0 p0 ys71 /\
  AZ (List.length ([]:List (Int×Int×Int×Bool))+List.length ys71) (∃ ys72:List Int,RdS [.int .i64] σ2 j0 i0 ys72 /\
  AZ (List.length ([]:List Int)+List.length ys72) (∃ ys73:List Int,RdS [.int .i64] σ2 g0 f0 ys73 /\
  AZ (List.length ([]:List Int)+List.length ys73) (exl 249 [.int .i64,.int .i64,.int .i64,.bool] (([]:List (Int×Int×Int×Bool))++ys71) σ2 (fun A74 l74 c74 σ75=>
  exl 3 [.int .i64] (([]:List Int)++ys72) σ75 (fun A76 l76 c76 σ77=>exl 3 [.int .i64] (([]:List Int)++ys73) σ77 (fun A78 l78 c78 σ79=>
  J7 A3 l3 c3 n4 A74 l74 c74 A76 l76 c76 A78 l78 c78 n0 o0 r0 d1 b0 a0 e0 c0 d0 h0 k0 m0 l0 s0 t0 u0 v0 w0 x0 σ79)))))))) /\
  ((∃ ys80:List (Int×Int×Int×Bool),RdS [.int .i64,.int .i64,.int .i64,.bool] σ2 q0 p0 ys80 /\
  AZ (List.length ([]:List (Int×Int×Int×Bool))+List.length ys80) (∃ ys81:List Int,RdS [.int .i64] σ2 j0 i0 ys81 /\
  AZ (List.length ([]:List Int)+List.length ys81) (∃ ys82:List Int,RdS [.int .i64] σ2 g0 f0 ys82 /\
  AZ (List.length ([]:List Int)+List.length ys82) (exl 249 [.int .i64,.int .i64,.int .i64,.bool] (([]:List (Int×Int×Int×Bool))++ys80) σ2 (fun A83 l83 c83 σ84=>
  exl 3 [.int .i64] (([]:List Int)++ys81) σ84 (fun A85 l85 c85 σ86=>exl 3 [.int .i64] (([]:List Int)++ys82) σ86 (fun A87 l87 c87 σ88=>
  J7 A3 l3 c3 n4 A83 l83 c83 A85 l85 c85 A87 l87 c87 n0 o0 r0 d1 b0 a0 e0 c0 d0 h0 k0 m0 l0 s0 t0 u0 v0 w0 x0 σ88))))))) /\
  (∃ ys89:List (Int×Int×Int×Bool),RdS [.int .i64,.int .i64,.int .i64,.bool] σ2 q0 p0 ys89 /\
  AZ (List.length ([]:List (Int×Int×Int×Bool))+List.length ys89) (∃ ys90:List Int,RdS [.int .i64] σ2 j0 i0 ys90 /\
  AZ (List.length ([]:List Int)+List.length ys90) (∃ ys91:List Int,RdS [.int .i64] σ2 g0 f0 ys91 /\
  AZ (List.length ([]:List Int)+List.length ys91) (exl 249 [.int .i64,.int .i64,.int .i64,.bool] (([]:List (Int×Int×Int×Bool))++ys89) σ2 (fun A92 l92 c92 σ93=>
  exl 3 [.int .i64] (([]:List Int)++ys90) σ93 (fun A94 l94 c94 σ95=>exl 3 [.int .i64] (([]:List Int)++ys91) σ95 (fun A96 l96 c96 σ97=>
  J7 A3 l3 c3 n4 A92 l92 c92 A94 l94 c94 A96 l96 c96 n0 o0 r0 d1 b0 a0 e0 c0 d0 h0 k0 m0 l0 s0 t0 u0 v0 w0 x0 σ97))))))))))))
def Au:OA:=⟨[],false,[]⟩
def Co:MPlan:=(.alt 14 false Au (.take 15 Au (.take 16 Au (.alt 17 false Au .done .done))) .done)
def Ji:MPlan:=(.alt 9 false Au (.take 13 Au Co) (.alt 13 true Au (.alt 9 false Au Co .done) .done))
def O3:MAn:=(.seq (.txt []) (.seq (.txt []) (.seq (.txt []) (.cut ⟨[true,true,false],3,[.slot 1 (.hb 0 0),.slot 2 (.hb 1 0),.slot 3 (.hb 2 0),.modb 2 35 [.sc (.slc),.sc (.int .i64),.sc (.slc),.sc (.slc),.sc (.slc),.sc (.slc),.sc (.int .i64),.sc (.slc),.sc (.slc),.sc (.int .i64),.sc (.int .i64),.sc (.int .i64),.sc (.slc),.sc (.slc)]],[]⟩ (.plan [4,9,14,17] (.take 1 Au (.take 2 Au (.take 3 Au (.take 6 Au (.take 7 Au (.take 11 Au (.take 12 Au (.new 0 Au (.new 5 Au (.new 10 Au (.alt 4 false Au (.take 8 Au Ji) (.alt 8 true Au (.alt 4 false Au Ji (.alt 13 true Au (.alt 4 false Au (.alt 9 false Au Co .done) .done) .done)) (.alt 13 true Au (.alt 4 false Au (.take 8 Au (.alt 9 false Au Co .done)) (.alt 8 true Au (.alt 4 false Au (.alt 9 false Au Co .done) .done) .done)) .done)))))))))))))) (.seq (.txt []) (.seq (.txt []) (.seq (.txt []) (.seq (.txt []) (.seq (.txt []) (.seq (.txt []) .leaf))))))))))
set_option maxRecDepth 100000 in
theorem Px (σ:Hp) (z0:Option Addr) (a1 y0:Nat) (b1:Int) (q0:Option Addr) (p0 f1:Nat) (j0:Option Addr) (i0 e1:Nat) (g0:Option Addr) (f0 c1:Nat) (n0:Option Addr) (o0 r0:Nat) (d1:Int) (b0:Option Addr) (a0 e0:Nat) (c0:Option Addr) (d0 h0:Nat) (k0 m0 l0:Int) (s0:Option Addr) (t0 u0:Nat) (v0:Option Addr) (w0 x0:Nat) (R:Value->Hp->Prop) (h:IN σ z0 a1 y0 b1 q0 p0 f1 j0 i0 e1 g0 f0 c1 n0 o0 r0 d1 b0 a0 e0 c0 d0 h0 k0 m0 l0 s0 t0 u0 v0 w0 x0 R):Ae Tryz.prog 17 #[(.agg #[.slice z0 a1 y0,.int .i64 b1,.slice q0 p0 f1,.slice j0 i0 e1,.slice g0 f0 c1,.slice n0 o0 r0,.int .i64 d1,.slice b0 a0 e0,.slice c0 d0 h0,.int .i64 k0,.int .i64 m0,.int .i64 l0,.slice s0 t0 u0,.slice v0 w0 x0])] σ R:=
 Ad XR O3 Tryz.func17 rfl (by kernel_rfl) (by kernel_rfl) (by kernel_rfl) h
theorem Mi:Ao Tryz.prog 17=true:=by kernel_rfl
end Go.Proofs.YthhadkggldcolaaGreat
