/- Trimmed by wip/trim.py to what this claim rests on. -/
import Derived.Test.YtoelhdjloaknbaaGreatVB11
namespace Go.Proofs.YtoelhdjloaknbaaGreat
open Go.RowKit
theorem W7:Tryz.prog.follows .mixedOrders=true:=by kernel_rfl
abbrev OS:FuncId:=17
def KV (σ:Hp) (_ _ b0 _ _ a0:Int) (R:Value->Hp->Prop):Prop:=
 cut (α:=Int->Hp->Prop) (fun n4 σ2=>∀ _:Nat->Value,bc (decide ((3:Int)<=n4)) (wk .i64 (((BitVec.ofInt (IntKind.bits .i64) a0 &&& BitVec.ofInt (IntKind.bits .i64) b0).toNat:Int)) (fun n5=>
  rt σ2 R (.bool (decide (n5=a0))))) (rt σ2 R (.bool false))) (fun J3=>∃ I8:Nat->Int->Int->Hp->Prop,(∃ n90,I8 n90 0 0 σ) /\
  ∀ n9:Nat,∀ n10 n11:Int,∀ σ7:Hp,I8 n9 n10 n11 σ7->∀ _:Nat->Value,bc (decide (n11<12)) (wk .u64 (n11) (fun n12=>
  (0<=n12/\wk .i64 (((BitVec.ofInt (IntKind.bits .i64) (Int.fdiv a0 (2^(min (n12:Int).toNat (IntKind.bits .i64)))) &&& BitVec.ofInt (IntKind.bits .i64) 1).toNat:Int)) (fun n13=>
  wk .i64 (n10+n13) (fun n14=>wk .i64 (n11+1) (fun n15=>bk σ7 n9 (fun m16 σ17=>I8 m16 n14 n15 σ17))))))) (J3 n10 σ7))
def PY:MAn:=(.seq (.txt []) (.seq (.txt []) (.cut ⟨[true,true],2,[.slot 2 (.hb 0 0),.slot 3 (.hb 1 0),.slot 5 (.sc (.int .i64))],[]⟩ (.seq (.txt []) (.block (.loop ⟨[true,true],2,[.slot 2 (.hb 0 0),.slot 3 (.hb 1 0),.slot 5 (.sc (.int .i64)),.slot 6 (.sc (.int .i64))],[]⟩ (.seq (.seq (.txt []) (.cond .leaf .leaf)) (.seq (.block (.txt [])) (.txt [])))))) (.seq (.txt [⟨[],false,[]⟩,⟨[],false,[]⟩,⟨[],true,[]⟩]) .leaf))))
set_option maxRecDepth 100000 in
theorem PI (σ:Hp) (f0 d0 b0 e0 c0 a0:Int) (R:Value->Hp->Prop) (h:KV σ f0 d0 b0 e0 c0 a0 R):Ae Tryz.prog 17 #[(.agg #[.int .i64 f0,.int .i64 d0,.int .i64 b0]),(.agg #[.int .i64 e0,.int .i64 c0,.int .i64 a0])] σ R:=
 Ad W7 PY Tryz.func17 rfl (by kernel_rfl) (by kernel_rfl) (by kernel_rfl) h
theorem MS:Ao Tryz.prog 17=true:=by kernel_rfl
end Go.Proofs.YtoelhdjloaknbaaGreat
