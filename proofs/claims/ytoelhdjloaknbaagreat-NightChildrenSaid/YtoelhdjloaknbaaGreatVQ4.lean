/- Trimmed by wip/trim.py to what this claim rests on. -/
import Derived.Test.YtoelhdjloaknbaaGreatVB11
namespace Go.Proofs.YtoelhdjloaknbaaGreat
open Go.RowKit
abbrev F5:FuncId:=170
theorem D4:Ao Tryz.prog 170=true:=by kernel_rfl
abbrev G8:FuncId:=49
theorem Ix:Ao Tryz.prog 49=true:=by kernel_rfl
abbrev Fc:FuncId:=226
theorem Dn:Ao Tryz.prog 226=true:=by kernel_rfl
end Go.Proofs.YtoelhdjloaknbaaGreat
namespace Go.Proofs.YtoelhdjloaknbaaGreat
open Go.RowKit
theorem Xc:Tryz.prog.follows .mixedOrders=true:=by kernel_rfl
abbrev EW:FuncId:=256
def Bz (σ:Hp) (s_A:Option Addr) (s_n _:Nat) (f:Value) (R:Value->Hp->Prop):Prop:=
 cut (α:=Hp->Prop) (fun  σ2=>∀ _:Nat->Value,rt σ2 R (.int .i64 (-1))) (fun J3=>∃ I6:Nat->Int->Hp->Prop,(∃ n70,I6 n70 0 σ) /\
  ∀ n7:Nat,∀ n8:Int,∀ σ5:Hp,I6 n7 n8 σ5->∀ _:Nat->Value,bc (decide (n8<((s_n:Nat):Int))) (ix s_A s_n n8 2 (fun b9 a10=>
  ldI σ5 .i64 b9 a10 (fun n11=>ldI σ5 .i64 b9 (a10+1) (fun n12=>cl Tryz.prog f #[(.agg #[.int .i64 n11,.int .i64 n12])] σ5 (fun v13 σ14=>
  ∃ t15:Bool,(v13=(.bool t15)/\bc t15 (rt σ14 R (.int .i64 n8)) (wk .i64 (n8+1) (fun n16=>bk σ14 n7 (fun m17 σ18=>
  I6 m17 n16 σ18))))))))) (J3 σ5))
def D9:MAn:=(.seq (.txt []) (.cut ⟨[],0,[],[]⟩ (.seq (.txt []) (.block (.loop ⟨[],0,[.slot 8 (.sc (.int .i64))],[(0,true),(1,false),(7,true)]⟩ (.seq (.txt []) (.seq (.cond .leaf .leaf) (.seq (.block (.seq (.txt []) (.seq (.txt []) (.cond (.seq (.txt []) .leaf) .leaf)))) (.txt []))))))) (.seq (.txt []) .leaf)))
set_option maxRecDepth 100000 in
theorem D3 (σ:Hp) (s_A:Option Addr) (s_n s_c:Nat) (f:Value) (R:Value->Hp->Prop) (h:Bz σ s_A s_n s_c f R):Ae Tryz.prog 256 #[.slice s_A s_n s_c,f] σ R:=
 Ad Xc D9 Tryz.func256 rfl (by kernel_rfl) (by kernel_rfl) (by kernel_rfl) h
theorem Df:Ao Tryz.prog 256=true:=by kernel_rfl
end Go.Proofs.YtoelhdjloaknbaaGreat
