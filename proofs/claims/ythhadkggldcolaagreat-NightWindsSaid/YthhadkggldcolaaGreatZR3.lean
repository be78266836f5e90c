/- Trimmed by wip/trim.py to what this claim rests on. -/
import Derived.Test.YthhadkggldcolaaGreatZB11
namespace Go.Proofs.YthhadkggldcolaaGreat
set_option maxRecDepth 100000
open Go.RowKit
theorem Ug:Tryz.prog.follows .mixedOrders=true:=by kernel_rfl
abbrev KO:FuncId:=110
def GF (σ:Hp) (n low high:Int) (R:Value->Hp->Prop):Prop:=
 bc (decide (low<=n)) (rt σ R (.bool (decide (n<=high)))) (rt σ R (.bool false))
def Nw:MAn:=(.seq (.txt []) (.seq (.txt [⟨[],false,[]⟩,⟨[],false,[]⟩,⟨[],false,[]⟩,⟨[],true,[]⟩]) .leaf))
theorem Og (σ:Hp) (n low high:Int) (R:Value->Hp->Prop) (h:GF σ n low high R):Ae Tryz.prog 110 #[.int .i64 n,.int .i64 low,.int .i64 high] σ R:=
 Ad Ug Nw Tryz.func110 rfl (by kernel_rfl) (by kernel_rfl) (by kernel_rfl) h
theorem KV:An Tryz.prog 110=true:=by kernel_rfl
abbrev Rd:FuncId:=60
def Hn (σ:Hp) (c0:Option Addr) (a0 _:Nat) (d0:Option Addr) (b0 _:Nat) (f0 h0 e0:Int) (R:Value->Hp->Prop):Prop:=
 cut (α:=Hp->Prop) (fun  σ2=>∀ _:Nat->Value,cut (α:=Hp->Prop) (fun  σ5=>∀ _:Nat->Value,
  cut (α:=Hp->Prop) (fun  σ8=>∀ _:Nat->Value,rt σ8 R (.int .i64 0)) (fun J9=>∃ I12:Nat->Int->Hp->Prop,(∃ n130,I12 n130 0 σ5) /\
  ∀ n13:Nat,∀ n14:Int,∀ σ11:Hp,I12 n13 n14 σ11->∀ _:Nat->Value,bc (decide (n14<((b0:Nat):Int))) (cut (α:=Hp->Prop) (fun  σ16=>
  ∀ _:Nat->Value,wk .i64 (n14+1) (fun n18=>bk σ16 n13 (fun m19 σ20=>I12 m19 n18 σ20))) (fun J17=>
  ix d0 b0 n14 4 (fun b21 a22=>ldI σ11 .i64 b21 a22 (fun n23=>ldI σ11 .i64 b21 (a22+1) (fun n24=>
  ldI σ11 .i64 b21 (a22+2) (fun n25=>ldI σ11 .i64 b21 (a22+3) (fun n26=>cut (α:=Bool->Hp->Prop) (fun t30 σ28=>
  ∀ _:Nat->Value,bc t30 (rt σ28 R (.int .i64 50)) (J17 σ28)) (fun J29=>wk .i64 (((a0:Nat):Int)-1) (fun n31=>
  cl Tryz.prog (.func (.func 110) #[] #[]) #[.int .i64 n23,.int .i64 0,.int .i64 n31] σ11 (fun v32 σ33=>
  ∃ t34:Bool,(v32=(.bool t34)/\bc (!t34) (J29 true σ33) (cl Tryz.prog (.func (.func 110) #[] #[]) #[.int .i64 n24,.int .i64 0,.int .i64 2] σ33 (fun v35 σ36=>
  ∃ t37:Bool,(v35=(.bool t37)/\bc (!t37) (J29 true σ36) (cl Tryz.prog (.func (.func 110) #[] #[]) #[.int .i64 n25,.int .i64 1,.int .i64 1000] σ36 (fun v38 σ39=>
  ∃ t40:Bool,(v38=(.bool t40)/\bc (!t40) (J29 true σ39) (cl Tryz.prog (.func (.func 110) #[] #[]) #[.int .i64 n26,.int .i64 0,.int .i64 1000] σ39 (fun v41 σ42=>
  ∃ t43:Bool,(v41=(.bool t43)/\J29 (!t43) σ42)))))))))))))))))))) (J9 σ11))) (fun J6=>∃ I46:Nat->Int->Hp->Prop,(∃ n470,I46 n470 0 σ2) /\
  ∀ n47:Nat,∀ n48:Int,∀ σ45:Hp,I46 n47 n48 σ45->∀ _:Nat->Value,bc (decide (n48<((a0:Nat):Int))) (cut (α:=Hp->Prop) (fun  σ50=>
  ∀ _:Nat->Value,wk .i64 (n48+1) (fun n52=>bk σ50 n47 (fun m53 σ54=>I46 m53 n52 σ54))) (fun J51=>
  ix c0 a0 n48 4 (fun b55 a56=>ldI σ45 .i64 b55 a56 (fun n57=>ldI σ45 .i64 b55 (a56+1) (fun n58=>
  ldI σ45 .i64 b55 (a56+2) (fun n59=>ldI σ45 .i64 b55 (a56+3) (fun n60=>cut (α:=Bool->Hp->Prop) (fun t64 σ62=>
  ∀ _:Nat->Value,bc t64 (rt σ62 R (.int .i64 50)) (J51 σ62)) (fun J63=>wk .i64 (n48-1) (fun n65=>
  cl Tryz.prog (.func (.func 110) #[] #[]) #[.int .i64 n57,(.int .i64 (-1)),.int .i64 n65] σ45 (fun v66 σ67=>
  ∃ t68:Bool,(v66=(.bool t68)/\bc (!t68) (J63 true σ67) (cl Tryz.prog (.func (.func 110) #[] #[]) #[.int .i64 n58,.int .i64 1,.int .i64 1000] σ67 (fun v69 σ70=>
  ∃ t71:Bool,(v69=(.bool t71)/\bc (!t71) (J63 true σ70) (cl Tryz.prog (.func (.func 110) #[] #[]) #[.int .i64 n59,.int .i64 0,.int .i64 20] σ70 (fun v72 σ73=>
  ∃ t74:Bool,(v72=(.bool t74)/\bc (!t74) (J63 true σ73) (cl Tryz.prog (.func (.func 110) #[] #[]) #[.int .i64 n60,.int .i64 1,.int .i64 10000] σ73 (fun v75 σ76=>
  ∃ t77:Bool,(v75=(.bool t77)/\J63 (!t77) σ76)))))))))))))))))))) (J6 σ45))) (fun J3=>cut (α:=Bool->Hp->Prop) (fun t81 σ79=>
  ∀ _:Nat->Value,bc t81 (rt σ79 R (.int .i64 50)) (J3 σ79)) (fun J80=>bc (decide ((10:Int)<((a0:Nat):Int))) (J80 true σ) (bc (decide ((16:Int)<((b0:Nat):Int))) (J80 true σ) (cl Tryz.prog (.func (.func 110) #[] #[]) #[.int .i64 f0,.int .i64 1,.int .i64 1000] σ (fun v82 σ83=>
  ∃ t84:Bool,(v82=(.bool t84)/\bc (!t84) (J80 true σ83) (cl Tryz.prog (.func (.func 110) #[] #[]) #[.int .i64 h0,.int .i64 0,.int .i64 20] σ83 (fun v85 σ86=>
  ∃ t87:Bool,(v85=(.bool t87)/\bc (!t87) (J80 true σ86) (cl Tryz.prog (.func (.func 110) #[] #[]) #[.int .i64 e0,.int .i64 1,.int .i64 1000] σ86 (fun v88 σ89=>
  ∃ t90:Bool,(v88=(.bool t90)/\J80 (!t90) σ89))))))))))))
def Ai:OA:=⟨[],false,[]⟩
def O6:MAn:=(.seq (.txt []) (.cut ⟨[true],1,[.slot 1 (.hb 0 0)],[]⟩ (.cut ⟨[true],1,[.slot 1 (.hb 0 0),.slot 34 (.sc (.bool))],[]⟩ (.txt [Ai,Ai,Ai,Ai,⟨[],true,[]⟩,Ai,Ai,Ai,Ai,Ai,⟨[],true,[]⟩,Ai,Ai,Ai,Ai,Ai,⟨[],true,[]⟩,Ai,Ai,Ai,Ai,Ai,⟨[],true,[]⟩]) (.cond (.seq (.txt []) .leaf) .leaf)) (.cut ⟨[true],1,[.slot 1 (.hb 0 0)],[]⟩ (.seq (.txt []) (.block (.loop ⟨[true],1,[.slot 1 (.hb 0 0),.slot 3 (.sc (.int .i64))],[]⟩ (.seq (.seq (.txt []) (.cond .leaf .leaf)) (.cut ⟨[true],1,[.slot 1 (.hb 0 0)],[(3,true)]⟩ (.block (.seq (.txt []) (.cut ⟨[true,true],2,[.slot 1 (.hb 0 0),.slot 70 (.sc (.bool))],[(3,true)]⟩ (.txt [Ai,Ai,Ai,Ai,Ai,Ai,⟨[],true,[]⟩,Ai,Ai,Ai,Ai,Ai,⟨[],true,[]⟩,Ai,Ai,Ai,Ai,Ai,⟨[],true,[]⟩]) (.cond (.seq (.txt []) .leaf) .leaf)))) (.txt [])))))) (.cut ⟨[true],1,[],[]⟩ (.seq (.txt []) (.block (.loop ⟨[true],1,[.slot 1 (.hb 0 0),.slot 5 (.sc (.int .i64))],[]⟩ (.seq (.seq (.txt []) (.cond .leaf .leaf)) (.cut ⟨[true],1,[.slot 1 (.hb 0 0)],[(5,true)]⟩ (.block (.seq (.txt []) (.cut ⟨[true,true],2,[.slot 1 (.hb 0 0),.slot 108 (.sc (.bool))],[(5,true)]⟩ (.txt [Ai,Ai,Ai,Ai,Ai,Ai,Ai,Ai,⟨[],true,[]⟩,Ai,Ai,Ai,Ai,Ai,⟨[],true,[]⟩,Ai,Ai,Ai,Ai,Ai,⟨[],true,[]⟩]) (.cond (.seq (.txt []) .leaf) .leaf)))) (.txt [])))))) (.seq (.txt []) .leaf)))))
theorem OY (σ:Hp) (c0:Option Addr) (a0 g0:Nat) (d0:Option Addr) (b0 i0:Nat) (f0 h0 e0:Int) (R:Value->Hp->Prop) (h:Hn σ c0 a0 g0 d0 b0 i0 f0 h0 e0 R):Ae Tryz.prog 60 #[(.agg #[.slice c0 a0 g0,.slice d0 b0 i0,.int .i64 f0,.int .i64 h0,.int .i64 e0])] σ R:=
 Ad Ug O6 Tryz.func60 rfl (by kernel_rfl) (by kernel_rfl) (by kernel_rfl) h
theorem L5:An Tryz.prog 60=true:=by kernel_rfl
end Go.Proofs.YthhadkggldcolaaGreat
