/- Trimmed by wip/trim.py to what this claim rests on. -/
import Derived.Test.YthhadkggldcolaaGreatYB11
namespace Go.Proofs.YthhadkggldcolaaGreat
open Go.RowKit
def tkYW2:Nat->Nat->OA->MPlan->MPlan
 |0,_,_,x=>x
 |n+1,i,a,x=>.take i a (tkYW2 n (i+1) a x)
theorem Xt:Tryz.prog.follows .mixedOrders=true:=by kernel_rfl
abbrev AX:FuncId:=6
def Cu (σ:Hp) (c0:Option Addr) (a0 b0:Nat) (j0:Int) (p0:Option Addr) (n0 u0:Nat) (s0:Option Addr) (q0 r0:Nat) (g0:Option Addr) (i0 m0:Nat) (x0:Option Addr) (y0 w0:Nat) (f1:Int) (f0:Option Addr) (d0 e0:Nat) (k0:Option Addr) (l0 h0:Nat) (t0 v0 o0:Int) (z0:Option Addr) (a1 b1:Nat) (d1:Option Addr) (e1 c1:Nat) (l_A:Option Addr) (l_n l_c:Nat) (R:Value->Hp->Prop):Prop:=
 cl Tryz.prog (.func (.func 25) #[] #[]) #[(.agg #[.slice c0 a0 b0,.int .i64 j0,.slice p0 n0 u0,.slice s0 q0 r0,.slice g0 i0 m0,.slice x0 y0 w0,.int .i64 f1,.slice f0 d0 e0,.slice k0 l0 h0,.int .i64 t0,.int .i64 v0,.int .i64 o0,.slice z0 a1 b1,.slice d1 e1 c1]),.slice l_A l_n l_c] σ (fun v1 σ2=>
  ∃ t3:Bool,(v1=(.bool t3)/\bc t3 (cl Tryz.prog (.func (.func 16) #[] #[]) #[] σ2 (fun v4 σ5=>∃ t6:Bool,(v4=(.bool t6) /\
  rt σ5 R (.bool t6)))) (cl Tryz.prog (.func (.func 17) #[] #[]) #[(.agg #[.slice c0 a0 b0,.int .i64 j0,.slice p0 n0 u0,.slice s0 q0 r0,.slice g0 i0 m0,.slice x0 y0 w0,.int .i64 f1,.slice f0 d0 e0,.slice k0 l0 h0,.int .i64 t0,.int .i64 v0,.int .i64 o0,.slice z0 a1 b1,.slice d1 e1 c1])] σ2 (fun v7 σ8=>
  ∃ A9:Option Addr,∃ l9 c9:Nat,∃ n10:Int,∃ A11:Option Addr,∃ l11 c11:Nat,∃ A12:Option Addr,∃ l12 c12:Nat,∃ A13:Option Addr,∃ l13 c13:Nat,∃ A14:Option Addr,∃ l14 c14:Nat,∃ n15:Int,∃ A16:Option Addr,∃ l16 c16:Nat,∃ A17:Option Addr,∃ l17 c17:Nat,∃ n18 n19 n20:Int,∃ A21:Option Addr,∃ l21 c21:Nat,∃ A22:Option Addr,∃ l22 c22:Nat,(v7=(.agg #[.slice A9 l9 c9,.int .i64 n10,.slice A11 l11 c11,.slice A12 l12 c12,.slice A13 l13 c13,.slice A14 l14 c14,.int .i64 n15,.slice A16 l16 c16,.slice A17 l17 c17,.int .i64 n18,.int .i64 n19,.int .i64 n20,.slice A21 l21 c21,.slice A22 l22 c22]) /\
  cl Tryz.prog (.func (.func 27) #[] #[]) #[.slice l_A l_n l_c] σ8 (fun v23 σ24=>∃ A25:Option Addr,∃ l25 c25:Nat,(v23=(.slice A25 l25 c25) /\
  (Hp.Sub σ8 σ24/\cl Tryz.prog (.func (.func 29) #[] #[]) #[(.agg #[.slice A9 l9 c9,.int .i64 n10,.slice A11 l11 c11,.slice A12 l12 c12,.slice A13 l13 c13,.slice A14 l14 c14,.int .i64 n15,.slice A16 l16 c16,.slice A17 l17 c17,.int .i64 n18,.int .i64 n19,.int .i64 n20,.slice A21 l21 c21,.slice A22 l22 c22]),.slice A25 l25 c25] σ24 (fun v26 σ27=>
  ∃ A28:Option Addr,∃ l28 c28:Nat,∃ n29:Int,(v26=(.tuple #[.slice A28 l28 c28,.int .i64 n29]) /\
  bc (!decide (n29=0)) (cl Tryz.prog (.func (.func 16) #[] #[]) #[] σ27 (fun v30 σ31=>∃ t32:Bool,(v30=(.bool t32) /\
  rt σ31 R (.bool t32)))) (cl Tryz.prog (.func (.func 18) #[] #[]) #[(.agg #[.slice A9 l9 c9,.int .i64 n10,.slice A11 l11 c11,.slice A12 l12 c12,.slice A13 l13 c13,.slice A14 l14 c14,.int .i64 n15,.slice A16 l16 c16,.slice A17 l17 c17,.int .i64 n18,.int .i64 n19,.int .i64 n20,.slice A21 l21 c21,.slice A22 l22 c22])] σ27 (fun v33 σ34=>
  ∃ A35:Option Addr,∃ l35 c35:Nat,∃ n36:Int,(v33=(.tuple #[.slice A35 l35 c35,.int .i64 n36]) /\
  bc (!decide (n36=0)) (rt σ34 R (.bool false)) (cut (α:=Int->Hp->Prop) (fun n40 σ38=>∀ _:Nat->Value,
  cl Tryz.prog (.func (.func 24) #[] #[]) #[(.agg #[.slice A16 l16 c16,.slice A17 l17 c17,.int .i64 n18,.int .i64 n19,.int .i64 n20]),.int .i64 n40] σ38 (fun v41 σ42=>
  ∃ n43:Int,∃ t44:Bool,∃ n45:Int,(v41=(.tuple #[.int .i64 n43,.bool t44,.int .i64 n45]) /\
  cut (α:=Hp->Prop) (fun  σ47=>∀ _:Nat->Value,cut (α:=Hp->Prop) (fun  σ50=>∀ _:Nat->Value,
  bc (decide (((l35:Nat):Int)<((a0:Nat):Int))) (cl Tryz.prog (.func (.func 16) #[] #[]) #[] σ50 (fun v52 σ53=>
  ∃ t54:Bool,(v52=(.bool t54)/\rt σ53 R (.bool t54)))) (cl Tryz.prog (.func (.func 34) #[] #[]) #[(.agg #[.slice c0 a0 b0,.int .i64 j0])] σ50 (fun v55 σ56=>
  ∃ A57:Option Addr,∃ l57 c57:Nat,∃ n58:Int,(v55=(.agg #[.slice A57 l57 c57,.int .i64 n58]) /\
  cl Tryz.prog (.func (.func 27) #[] #[]) #[.slice l_A l_n l_c] σ56 (fun v59 σ60=>∃ A61:Option Addr,∃ l61 c61:Nat,(v59=(.slice A61 l61 c61) /\
  cl Tryz.prog (.func (.func 33) #[] #[]) #[(.agg #[.slice A57 l57 c57,.int .i64 n58]),.slice A61 l61 c61] σ60 (fun v62 σ63=>
  ∃ A64:Option Addr,∃ l64 c64:Nat,∃ n65:Int,(v62=(.tuple #[.slice A64 l64 c64,.int .i64 n65]) /\
  bc (decide (n65=0)) (cl Tryz.prog (.func (.func 31) #[] #[]) #[.slice A28 l28 c28,.slice A64 l64 c64] σ63 (fun v66 σ67=>
  ∃ t68:Bool,(v66=(.bool t68)/\bc t68 (cl Tryz.prog (.func (.func 16) #[] #[]) #[] σ67 (fun v69 σ70=>
  ∃ t71:Bool,(v69=(.bool t71)/\rt σ70 R (.bool t71)))) (rt σ67 R (.bool false))))) (rt σ63 R (.bool false)))))))))) (fun J51=>
  ∃ I74:Nat->Int->Hp->Prop,(∃ n750,I74 n750 0 σ47)/\∀ n75:Nat,∀ n76:Int,∀ σ73:Hp,I74 n75 n76 σ73->∀ _:Nat->Value,bc (decide (n76<((l28:Nat):Int))) (cut (α:=Hp->Prop) (fun  σ78=>
  ∀ _:Nat->Value,wk .i64 (n76+1) (fun n80=>bk σ78 n75 (fun m81 σ82=>I74 m81 n80 σ82))) (fun J79=>
  ix A28 l28 n76 6 (fun b83 a84=>ldI σ73 .i64 b83 a84 (fun n85=>ldI σ73 .i64 b83 (a84+1) (fun n86=>
  ldI σ73 .i64 b83 (a84+2) (fun n87=>ldB σ73 b83 (a84+3) (fun _=>ldI σ73 .i64 b83 (a84+4) (fun _=>
  ldI σ73 .i64 b83 (a84+5) (fun _=>cut (α:=Bool->Hp->Prop) (fun t94 σ92=>∀ _:Nat->Value,
  bc t94 (rt σ92 R (.bool false)) (J79 σ92)) (fun J93=>bc (decide (n87<0)) (J93 true σ73) (bc (decide (((a0:Nat):Int)<=n87)) (J93 true σ73) (wk .u64 (n87) (fun n95=>
  (0<=n95/\wk .i64 (((BitVec.ofInt (IntKind.bits .i64) (Int.fdiv n40 (2^(min (n95:Int).toNat (IntKind.bits .i64)))) &&& BitVec.ofInt (IntKind.bits .i64) 1).toNat:Int)) (fun n96=>
  bc (decide (n96=0)) (J93 true σ73) (bc (decide (n85<0)) (J93 true σ73) (bc (decide (((l_n:Nat):Int)<=n85)) (J93 true σ73) (bc (decide (n86<0)) (J93 true σ73) (ix l_A l_n n85 5 (fun b97 a98=>
  ldS σ73 b97 (a98+3) (fun _ l99 _=>bc (decide (((l99:Nat):Int)<=n86)) (J93 true σ73) (ix l_A l_n n85 5 (fun b100 a101=>
  ldS σ73 b100 (a101+3) (fun A102 l102 _=>ix A102 l102 n86 1 (fun b103 a104=>ldI σ73 .i64 b103 a104 (fun n105=>
  J93 (!decide (n105=n87)) σ73)))))))))))))))))))))))))) (J51 σ73))) (fun J48=>cut (α:=Bool->Hp->Prop) (fun t109 σ107=>
  ∀ _:Nat->Value,bc t109 (rt σ107 R (.bool false)) (J48 σ107)) (fun J108=>bc (decide ((0:Int)<((l35:Nat):Int))) (bc (!decide (n45=0)) (J108 true σ42) (J108 (!t44) σ42)) (J108 false σ42)))))) (fun J39=>
  ∃ I112:Nat->Int->Int->Hp->Prop,(∃ n1130,I112 n1130 0 0 σ34)/\∀ n113:Nat,∀ n114 n115:Int,∀ σ111:Hp,I112 n113 n114 n115 σ111->∀ _:Nat->Value,bc (decide (n115<((l35:Nat):Int))) (cut (α:=Int->Hp->Prop) (fun n119 σ117=>
  ∀ _:Nat->Value,wk .i64 (n115+1) (fun n120=>bk σ117 n113 (fun m121 σ122=>I112 m121 n119 n120 σ122))) (fun J118=>
  cut (α:=Hp->Prop) (fun  σ124=>∀ _:Nat->Value,ix A35 l35 n115 1 (fun b126 a127=>ldI σ124 .i64 b126 a127 (fun n128=>
  wk .u64 (n128) (fun n129=>(0<=n129/\wk .i64 (1*2^(min (n129:Int).toNat (IntKind.bits .i64))) (fun n130=>
  wk .i64 (((BitVec.ofInt (IntKind.bits .i64) n114 ||| BitVec.ofInt (IntKind.bits .i64) n130).toNat:Int)) (fun n131=>
  ix A35 l35 n115 1 (fun b132 a133=>ldI σ124 .i64 b132 a133 (fun n134=>cl Tryz.prog (.func (.func 32) #[] #[]) #[(.agg #[.slice A11 l11 c11,.slice A12 l12 c12,.slice A13 l13 c13]),.slice A14 l14 c14,.int .i64 n134,.int .i64 f1] σ124 (fun v135 σ136=>
  ∃ A137:Option Addr,∃ l137 c137:Nat,∃ n138:Int,(v135=(.tuple #[.slice A137 l137 c137,.int .i64 n138]) /\
  cut (α:=Bool->Hp->Prop) (fun t142 σ140=>∀ _:Nat->Value,bc t142 (rt σ140 R (.bool false)) (J118 n131 σ140)) (fun J141=>
  bc (!decide (n138=0)) (J141 true σ136) (J141 (decide ((0:Int)<((l137:Nat):Int))) σ136))))))))))))) (fun J125=>
  cut (α:=Bool->Hp->Prop) (fun t146 σ144=>∀ _:Nat->Value,bc t146 (rt σ144 R (.bool false)) (J125 σ144)) (fun J145=>
  ix A35 l35 n115 1 (fun b147 a148=>ldI σ111 .i64 b147 a148 (fun n149=>bc (decide (n149<0)) (J145 true σ111) (ix A35 l35 n115 1 (fun b150 a151=>
  ldI σ111 .i64 b150 a151 (fun n152=>J145 (decide (((a0:Nat):Int)<=n152)) σ111))))))))) (J39 n114 σ111))))))))))))))))
def Aa:OA:=⟨[],false,[]⟩
def Dg:MPlan:=(tkYW2 5 11 Aa .done)
def Hi:MAn:=(.seq (.txt []) (.seq (.seq (.txt []) (.cond (.seq (.txt []) .leaf) .leaf)) (.seq (.txt []) (.seq (.plan [3] (.take 0 Aa (.take 1 Aa (.alt 2 true Aa (.alt 3 false Aa (tkYW2 5 4 Aa .done) .done) .done)))) (.seq (.seq (.txt []) (.cond (.seq (.txt []) .leaf) .leaf)) (.seq (.txt []) (.seq (.seq (.txt []) (.cond (.seq (.txt []) .leaf) .leaf)) (.seq (.txt []) (.cut ⟨[true,true],2,[.slot 2 (.hb 0 0),.slot 5 (.hb 1 0),.slot 10 (.sc (.int .i64))],[(1,true),(6,true),(8,true)]⟩ (.seq (.txt []) (.block (.loop ⟨[true,true],2,[.slot 2 (.hb 0 0),.slot 5 (.hb 1 0),.slot 10 (.sc (.int .i64)),.slot 11 (.sc (.int .i64))],[(1,true),(6,true),(8,true)]⟩ (.seq (.seq (.txt []) (.cond .leaf .leaf)) (.cut ⟨[true,true],2,[.slot 2 (.hb 0 0),.slot 5 (.hb 1 0),.slot 10 (.sc (.int .i64))],[(1,true),(6,true),(8,true),(11,true)]⟩ (.block (.cut ⟨[true,true],2,[.slot 2 (.hb 0 0),.slot 5 (.hb 1 0)],[(1,true),(6,true),(8,true),(10,true),(11,true)]⟩ (.cut ⟨[true,true],2,[.slot 2 (.hb 0 0),.slot 5 (.hb 1 0),.slot 65 (.sc (.bool))],[(1,true),(6,true),(8,true),(10,true),(11,true)]⟩ (.plan [] (tkYW2 5 0 Aa (.take 5 ⟨[],true,[]⟩ (tkYW2 5 6 Aa Dg)))) (.cond (.seq (.txt []) .leaf) .leaf)) (.seq (.txt []) (.seq (.plan [10] (tkYW2 10 0 Aa (.alt 10 false Aa Dg .done))) (.cut ⟨[true,true],2,[.slot 2 (.hb 0 0),.slot 5 (.hb 1 0),.slot 94 (.sc (.bool))],[(1,true),(6,true),(8,true),(10,true),(11,true)]⟩ (.txt [Aa,Aa,⟨[],true,[]⟩]) (.cond (.seq (.txt []) .leaf) .leaf)))))) (.txt [])))))) (.seq (.txt []) (.cut ⟨[true,true],2,[.slot 2 (.hb 0 0)],[(1,true),(6,true),(8,true),(10,true)]⟩ (.cut ⟨[true,true],2,[.slot 2 (.hb 0 0),.slot 113 (.sc (.bool))],[(1,true),(6,true),(8,true),(10,true)]⟩ (.txt [Aa,Aa,Aa,⟨[],true,[]⟩,Aa,Aa,⟨[],true,[]⟩]) (.cond (.seq (.txt []) .leaf) .leaf)) (.cut ⟨[true,true],2,[.slot 2 (.hb 0 0)],[(1,true),(6,true),(8,true)]⟩ (.seq (.txt []) (.block (.loop ⟨[true,true],2,[.slot 2 (.hb 0 0),.slot 17 (.sc (.int .i64))],[(1,true),(6,true),(8,true),(10,true)]⟩ (.seq (.seq (.txt []) (.cond .leaf .leaf)) (.cut ⟨[true,true],2,[.slot 2 (.hb 0 0)],[(1,true),(6,true),(8,true),(10,true),(17,true)]⟩ (.block (.seq (.txt []) (.cut ⟨[true,true,true],3,[.slot 2 (.hb 0 0),.slot 188 (.sc (.bool))],[(1,true),(6,true),(8,true),(10,true),(17,true)]⟩ (.plan [] (.take 0 Aa (.take 1 Aa (.take 2 Aa (.take 3 ⟨[],true,[]⟩ (tkYW2 8 4 Aa (.take 12 ⟨[],true,[]⟩ (tkYW2 8 13 Aa (.take 21 ⟨[],true,[]⟩ (tkYW2 4 22 Aa (.take 26 ⟨[],true,[]⟩ (tkYW2 6 27 Aa (.take 33 ⟨[],true,[]⟩ (tkYW2 4 34 Aa (.take 38 ⟨[],true,[]⟩ (tkYW2 11 39 Aa (.take 50 ⟨[],true,[]⟩ (tkYW2 14 51 Aa .done)))))))))))))))))) (.cond (.seq (.txt []) .leaf) .leaf)))) (.txt [])))))) (.seq (.seq (.txt []) (.cond (.seq (.txt []) .leaf) .leaf)) (.seq (.txt []) (.seq (.txt [Aa,Aa,⟨[],true,[]⟩,Aa,Aa,Aa,Aa,⟨[],true,[]⟩]) .leaf)))))))))))))))
set_option maxRecDepth 100000 in
theorem HC (σ:Hp) (c0:Option Addr) (a0 b0:Nat) (j0:Int) (p0:Option Addr) (n0 u0:Nat) (s0:Option Addr) (q0 r0:Nat) (g0:Option Addr) (i0 m0:Nat) (x0:Option Addr) (y0 w0:Nat) (f1:Int) (f0:Option Addr) (d0 e0:Nat) (k0:Option Addr) (l0 h0:Nat) (t0 v0 o0:Int) (z0:Option Addr) (a1 b1:Nat) (d1:Option Addr) (e1 c1:Nat) (l_A:Option Addr) (l_n l_c:Nat) (R:Value->Hp->Prop) (h:Cu σ c0 a0 b0 j0 p0 n0 u0 s0 q0 r0 g0 i0 m0 x0 y0 w0 f1 f0 d0 e0 k0 l0 h0 t0 v0 o0 z0 a1 b1 d1 e1 c1 l_A l_n l_c R):Ae Tryz.prog 6 #[(.agg #[.slice c0 a0 b0,.int .i64 j0,.slice p0 n0 u0,.slice s0 q0 r0,.slice g0 i0 m0,.slice x0 y0 w0,.int .i64 f1,.slice f0 d0 e0,.slice k0 l0 h0,.int .i64 t0,.int .i64 v0,.int .i64 o0,.slice z0 a1 b1,.slice d1 e1 c1]),.slice l_A l_n l_c] σ R:=
 Ad Xt Hi Tryz.func6 rfl (by kernel_rfl) (by kernel_rfl) (by kernel_rfl) h
end Go.Proofs.YthhadkggldcolaaGreat
