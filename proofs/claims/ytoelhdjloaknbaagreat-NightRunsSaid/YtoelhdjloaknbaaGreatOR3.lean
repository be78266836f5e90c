/- Trimmed by wip/trim.py to what this claim rests on. -/
import Derived.Test.YtoelhdjloaknbaaGreatOB11
namespace Go.Proofs.YtoelhdjloaknbaaGreat
set_option maxRecDepth 100000
open Go.RowKit
def tkOR3:Nat->Nat->OA->MPlan->MPlan
 |0,_,_,x=>x
 |n+1,i,a,x=>.take i a (tkOR3 n (i+1) a x)
theorem DD:Tryz.prog.follows .mixedOrders=true:=by kernel_rfl
abbrev K8:FuncId:=139
def GG (σ:Hp) (n low high:Int) (R:Value->Hp->Prop):Prop:=
 bc (decide (low<=n)) (rt σ R (.bool (decide (n<=high)))) (rt σ R (.bool false))
def Ou:MAn:=(.seq (.txt []) (.seq (.txt [⟨[],false,[]⟩,⟨[],false,[]⟩,⟨[],false,[]⟩,⟨[],true,[]⟩]) .leaf))
theorem Ol (σ:Hp) (n low high:Int) (R:Value->Hp->Prop) (h:GG σ n low high R):Ad Tryz.prog 139 #[.int .i64 n,.int .i64 low,.int .i64 high] σ R:=
 Ac DD Ou Tryz.func139 rfl (by kernel_rfl) (by kernel_rfl) (by kernel_rfl) h
theorem LR:Al Tryz.prog 139=true:=by kernel_rfl
abbrev SS:FuncId:=79
def H6 (σ:Hp) (b0:Option Addr) (a0 _:Nat) (e0:Option Addr) (c0 _:Nat) (g0 i0 h0:Int) (R:Value->Hp->Prop):Prop:=
 cut (α:=Hp->Prop) (fun  σ2=>∀ _:Nat->Value,cut (α:=Hp->Prop) (fun  σ5=>∀ _:Nat->Value,
  cut (α:=Hp->Prop) (fun  σ8=>∀ _:Nat->Value,rt σ8 R (.int .i64 0)) (fun J9=>∃ I12:Nat->Int->Hp->Prop,(∃ n130,I12 n130 0 σ5) /\
  ∀ n13:Nat,∀ n14:Int,∀ σ11:Hp,I12 n13 n14 σ11->∀ _:Nat->Value,bc (decide (n14<((c0:Nat):Int))) (cut (α:=Hp->Prop) (fun  σ16=>
  ∀ _:Nat->Value,wk .i64 (n14+1) (fun n18=>bk σ16 n13 (fun m19 σ20=>I12 m19 n18 σ20))) (fun J17=>
  ix e0 c0 n14 4 (fun b21 a22=>ldI σ11 .i64 b21 a22 (fun n23=>ldI σ11 .i64 b21 (a22+1) (fun n24=>
  ldI σ11 .i64 b21 (a22+2) (fun n25=>ldI σ11 .i64 b21 (a22+3) (fun n26=>cut (α:=Bool->Hp->Prop) (fun t30 σ28=>
  ∀ _:Nat->Value,bc t30 (rt σ28 R (.int .i64 50)) (J17 σ28)) (fun J29=>wk .i64 (((a0:Nat):Int)-1) (fun n31=>
  cl Tryz.prog (.func (.func 139) #[] #[]) #[.int .i64 n23,.int .i64 0,.int .i64 n31] σ11 (fun v32 σ33=>
  ∃ t34:Bool,(v32=(.bool t34)/\bc (!t34) (J29 true σ33) (cl Tryz.prog (.func (.func 139) #[] #[]) #[.int .i64 n24,.int .i64 0,.int .i64 2] σ33 (fun v35 σ36=>
  ∃ t37:Bool,(v35=(.bool t37)/\bc (!t37) (J29 true σ36) (cl Tryz.prog (.func (.func 139) #[] #[]) #[.int .i64 n25,.int .i64 1,.int .i64 1000] σ36 (fun v38 σ39=>
  ∃ t40:Bool,(v38=(.bool t40)/\bc (!t40) (J29 true σ39) (cl Tryz.prog (.func (.func 139) #[] #[]) #[.int .i64 n26,.int .i64 0,.int .i64 1000] σ39 (fun v41 σ42=>
  ∃ t43:Bool,(v41=(.bool t43)/\J29 (!t43) σ42)))))))))))))))))))) (J9 σ11))) (fun J6=>∃ I46:Nat->Int->Hp->Prop,(∃ n470,I46 n470 0 σ2) /\
  ∀ n47:Nat,∀ n48:Int,∀ σ45:Hp,I46 n47 n48 σ45->∀ _:Nat->Value,bc (decide (n48<((a0:Nat):Int))) (cut (α:=Hp->Prop) (fun  σ50=>
  ∀ _:Nat->Value,wk .i64 (n48+1) (fun n52=>bk σ50 n47 (fun m53 σ54=>I46 m53 n52 σ54))) (fun J51=>
  ix b0 a0 n48 4 (fun b55 a56=>ldI σ45 .i64 b55 a56 (fun n57=>ldI σ45 .i64 b55 (a56+1) (fun n58=>
  ldI σ45 .i64 b55 (a56+2) (fun n59=>ldI σ45 .i64 b55 (a56+3) (fun n60=>cut (α:=Bool->Hp->Prop) (fun t64 σ62=>
  ∀ _:Nat->Value,bc t64 (rt σ62 R (.int .i64 50)) (J51 σ62)) (fun J63=>wk .i64 (n48-1) (fun n65=>
  cl Tryz.prog (.func (.func 139) #[] #[]) #[.int .i64 n57,(.int .i64 (-1)),.int .i64 n65] σ45 (fun v66 σ67=>
  ∃ t68:Bool,(v66=(.bool t68)/\bc (!t68) (J63 true σ67) (cl Tryz.prog (.func (.func 139) #[] #[]) #[.int .i64 n58,.int .i64 1,.int .i64 1000] σ67 (fun v69 σ70=>
  ∃ t71:Bool,(v69=(.bool t71)/\bc (!t71) (J63 true σ70) (cl Tryz.prog (.func (.func 139) #[] #[]) #[.int .i64 n59,.int .i64 0,.int .i64 20] σ70 (fun v72 σ73=>
  ∃ t74:Bool,(v72=(.bool t74)/\bc (!t74) (J63 true σ73) (cl Tryz.prog (.func (.func 139) #[] #[]) #[.int .i64 n60,.int .i64 1,.int .i64 10000] σ73 (fun v75 σ76=>
  ∃ t77:Bool,(v75=(.bool t77)/\J63 (!t77) σ76)))))))))))))))))))) (J6 σ45))) (fun J3=>cut (α:=Bool->Hp->Prop) (fun t81 σ79=>
  ∀ _:Nat->Value,bc t81 (rt σ79 R (.int .i64 50)) (J3 σ79)) (fun J80=>bc (decide ((10:Int)<((a0:Nat):Int))) (J80 true σ) (bc (decide ((16:Int)<((c0:Nat):Int))) (J80 true σ) (cl Tryz.prog (.func (.func 139) #[] #[]) #[.int .i64 g0,.int .i64 1,.int .i64 1000] σ (fun v82 σ83=>
  ∃ t84:Bool,(v82=(.bool t84)/\bc (!t84) (J80 true σ83) (cl Tryz.prog (.func (.func 139) #[] #[]) #[.int .i64 i0,.int .i64 0,.int .i64 20] σ83 (fun v85 σ86=>
  ∃ t87:Bool,(v85=(.bool t87)/\bc (!t87) (J80 true σ86) (cl Tryz.prog (.func (.func 139) #[] #[]) #[.int .i64 h0,.int .i64 1,.int .i64 1000] σ86 (fun v88 σ89=>
  ∃ t90:Bool,(v88=(.bool t90)/\J80 (!t90) σ89))))))))))))
def Ah:OA:=⟨[],false,[]⟩
def Pe:MAn:=(.seq (.txt []) (.cut ⟨[true],1,[.slot 1 (.hb 0 0)],[]⟩ (.cut ⟨[true],1,[.slot 1 (.hb 0 0),.slot 34 (.sc (.bool))],[]⟩ (.txt [Ah,Ah,Ah,Ah,⟨[],true,[]⟩,Ah,Ah,Ah,Ah,Ah,⟨[],true,[]⟩,Ah,Ah,Ah,Ah,Ah,⟨[],true,[]⟩,Ah,Ah,Ah,Ah,Ah,⟨[],true,[]⟩]) (.cond (.seq (.txt []) .leaf) .leaf)) (.cut ⟨[true],1,[.slot 1 (.hb 0 0)],[]⟩ (.seq (.txt []) (.block (.loop ⟨[true],1,[.slot 1 (.hb 0 0),.slot 3 (.sc (.int .i64))],[]⟩ (.seq (.seq (.txt []) (.cond .leaf .leaf)) (.cut ⟨[true],1,[.slot 1 (.hb 0 0)],[(3,true)]⟩ (.block (.seq (.txt []) (.cut ⟨[true,true],2,[.slot 1 (.hb 0 0),.slot 70 (.sc (.bool))],[(3,true)]⟩ (.txt [Ah,Ah,Ah,Ah,Ah,Ah,⟨[],true,[]⟩,Ah,Ah,Ah,Ah,Ah,⟨[],true,[]⟩,Ah,Ah,Ah,Ah,Ah,⟨[],true,[]⟩]) (.cond (.seq (.txt []) .leaf) .leaf)))) (.txt [])))))) (.cut ⟨[true],1,[],[]⟩ (.seq (.txt []) (.block (.loop ⟨[true],1,[.slot 1 (.hb 0 0),.slot 5 (.sc (.int .i64))],[]⟩ (.seq (.seq (.txt []) (.cond .leaf .leaf)) (.cut ⟨[true],1,[.slot 1 (.hb 0 0)],[(5,true)]⟩ (.block (.seq (.txt []) (.cut ⟨[true,true],2,[.slot 1 (.hb 0 0),.slot 108 (.sc (.bool))],[(5,true)]⟩ (.txt [Ah,Ah,Ah,Ah,Ah,Ah,Ah,Ah,⟨[],true,[]⟩,Ah,Ah,Ah,Ah,Ah,⟨[],true,[]⟩,Ah,Ah,Ah,Ah,Ah,⟨[],true,[]⟩]) (.cond (.seq (.txt []) .leaf) .leaf)))) (.txt [])))))) (.seq (.txt []) .leaf)))))
theorem P5 (σ:Hp) (b0:Option Addr) (a0 d0:Nat) (e0:Option Addr) (c0 f0:Nat) (g0 i0 h0:Int) (R:Value->Hp->Prop) (h:H6 σ b0 a0 d0 e0 c0 f0 g0 i0 h0 R):Ad Tryz.prog 79 #[(.agg #[.slice b0 a0 d0,.slice e0 c0 f0,.int .i64 g0,.int .i64 i0,.int .i64 h0])] σ R:=
 Ac DD Pe Tryz.func79 rfl (by kernel_rfl) (by kernel_rfl) (by kernel_rfl) h
theorem F2:Al Tryz.prog 79=true:=by kernel_rfl
abbrev Wn:FuncId:=278
def Nr (σ:Hp) (set load:Int) (R:Value->Hp->Prop):Prop:=
 wk .u64 (load) (fun n1=>(0<=n1/\wk .i64 (((BitVec.ofInt (IntKind.bits .i64) (Int.fdiv set (2^(min (n1:Int).toNat (IntKind.bits .i64)))) &&& BitVec.ofInt (IntKind.bits .i64) 1).toNat:Int)) (fun n2=>
  rt σ R (.bool (decide (n2=1))))))
def SV:MAn:=(.seq (.txt []) (.seq (.txt []) .leaf))
theorem SK (σ:Hp) (set load:Int) (R:Value->Hp->Prop) (h:Nr σ set load R):Ad Tryz.prog 278 #[.int .i64 set,.int .i64 load] σ R:=
 Ac DD SV Tryz.func278 rfl (by kernel_rfl) (by kernel_rfl) (by kernel_rfl) h
theorem PI:Al Tryz.prog 278=true:=by kernel_rfl
abbrev Sy:FuncId:=279
def H2 (σ:Hp) (b0:Option Addr) (a0 _:Nat) (_:Option Addr) (_ _:Nat) (_ _ _ board top:Int) (R:Value->Hp->Prop):Prop:=
 cut (α:=Int->Hp->Prop) (fun n4 σ2=>∀ _:Nat->Value,rt σ2 R (.bool (decide (n4=top)))) (fun J3=>
  ∃ I7:Nat->Int->Hp->Prop,(∃ n80,I7 n80 board σ)/\∀ n8:Nat,∀ n9:Int,∀ σ6:Hp,I7 n8 n9 σ6->∀ _:Nat->Value,bc (decide (top<n9)) (ix b0 a0 n9 4 (fun b10 a11=>
  ldI σ6 .i64 b10 a11 (fun n12=>bk σ6 n8 (fun m13 σ14=>I7 m13 n12 σ14)))) (J3 n9 σ6))
def Pt:MAn:=(.seq (.txt []) (.cut ⟨[true],1,[.slot 1 (.sc (.int .i64))],[(2,true)]⟩ (.block (.loop ⟨[true],1,[.slot 1 (.sc (.int .i64)),.slot 3 (.hb 0 0)],[(2,true)]⟩ (.seq (.seq (.txt []) (.cond .leaf .leaf)) (.block (.txt []))))) (.seq (.txt []) .leaf)))
theorem PK (σ:Hp) (b0:Option Addr) (a0 d0:Nat) (e0:Option Addr) (c0 f0:Nat) (g0 i0 h0 board top:Int) (R:Value->Hp->Prop) (h:H2 σ b0 a0 d0 e0 c0 f0 g0 i0 h0 board top R):Ad Tryz.prog 279 #[(.agg #[.slice b0 a0 d0,.slice e0 c0 f0,.int .i64 g0,.int .i64 i0,.int .i64 h0]),.int .i64 board,.int .i64 top] σ R:=
 Ac DD Pt Tryz.func279 rfl (by kernel_rfl) (by kernel_rfl) (by kernel_rfl) h
theorem MD:Al Tryz.prog 279=true:=by kernel_rfl
abbrev QJ:FuncId:=252
def FJ (σ:Hp) (b0:Option Addr) (a0 d0:Nat) (e0:Option Addr) (c0 f0:Nat) (g0 i0 h0 set board phase:Int) (R:Value->Hp->Prop):Prop:=
 cut (α:=Int->Hp->Prop) (fun n4 σ2=>∀ _:Nat->Value,rt σ2 R (.int .i64 n4)) (fun J3=>∃ I7:Nat->Int->Int->Hp->Prop,(∃ n80,I7 n80 0 0 σ) /\
  ∀ n8:Nat,∀ n9 n10:Int,∀ σ6:Hp,I7 n8 n9 n10 σ6->∀ _:Nat->Value,bc (decide (n10<((c0:Nat):Int))) (cut (α:=Int->Hp->Prop) (fun n14 σ12=>
  ∀ _:Nat->Value,wk .i64 (n10+1) (fun n15=>bk σ12 n8 (fun m16 σ17=>I7 m16 n14 n15 σ17))) (fun J13=>
  ix e0 c0 n10 4 (fun b18 a19=>ldI σ6 .i64 b18 a19 (fun n20=>ldI σ6 .i64 b18 (a19+1) (fun n21=>
  ldI σ6 .i64 b18 (a19+2) (fun n22=>ldI σ6 .i64 b18 (a19+3) (fun _=>cut (α:=Bool->Hp->Prop) (fun t27 σ25=>
  ∀ _:Nat->Value,bc t27 (wk .i64 (n9+n22) (fun n28=>J13 n28 σ25)) (J13 n9 σ25)) (fun J26=>cl Tryz.prog (.func (.func 278) #[] #[]) #[.int .i64 set,.int .i64 n10] σ6 (fun v29 σ30=>
  ∃ t31:Bool,(v29=(.bool t31)/\bc t31 (bc (decide (n21=phase)) (bc (decide (board<0)) (J26 true σ30) (cl Tryz.prog (.func (.func 279) #[] #[]) #[(.agg #[.slice b0 a0 d0,.slice e0 c0 f0,.int .i64 g0,.int .i64 i0,.int .i64 h0]),.int .i64 n20,.int .i64 board] σ30 (fun v32 σ33=>
  ∃ t34:Bool,(v32=(.bool t34)/\J26 t34 σ33)))) (J26 false σ30)) (J26 false σ30))))))))))) (J3 n9 σ6))
def Bk:OA:=⟨[],false,[]⟩
def NU:MAn:=(.seq (.txt []) (.seq (.txt []) (.cut ⟨[true],1,[.slot 9 (.sc (.int .i64))],[]⟩ (.seq (.txt []) (.block (.loop ⟨[true],1,[.slot 4 (.hb 0 0),.slot 9 (.sc (.int .i64)),.slot 10 (.sc (.int .i64))],[(1,true),(2,true),(3,true)]⟩ (.seq (.seq (.txt []) (.cond .leaf .leaf)) (.cut ⟨[true],1,[.slot 4 (.hb 0 0),.slot 9 (.sc (.int .i64))],[(1,true),(2,true),(3,true),(10,true)]⟩ (.block (.seq (.txt []) (.cut ⟨[true,true],2,[.slot 4 (.hb 0 0),.slot 11 (.hb 1 0),.slot 43 (.sc (.bool))],[(1,true),(2,true),(3,true),(9,true),(10,true)]⟩ (.txt [Bk,Bk,Bk,⟨[],true,[]⟩,Bk,Bk,Bk,Bk,Bk,⟨[],true,[]⟩,Bk,Bk,⟨[],true,[]⟩]) (.cond (.txt []) .leaf)))) (.txt [])))))) (.seq (.txt []) .leaf))))
theorem M8 (σ:Hp) (b0:Option Addr) (a0 d0:Nat) (e0:Option Addr) (c0 f0:Nat) (g0 i0 h0 set board phase:Int) (R:Value->Hp->Prop) (h:FJ σ b0 a0 d0 e0 c0 f0 g0 i0 h0 set board phase R):Ad Tryz.prog 252 #[(.agg #[.slice b0 a0 d0,.slice e0 c0 f0,.int .i64 g0,.int .i64 i0,.int .i64 h0]),.int .i64 set,.int .i64 board,.int .i64 phase] σ R:=
 Ac DD NU Tryz.func252 rfl (by kernel_rfl) (by kernel_rfl) (by kernel_rfl) h
theorem KE:Al Tryz.prog 252=true:=by kernel_rfl
abbrev Sv:FuncId:=253
def HZ (σ:Hp) (b0:Option Addr) (a0 _:Nat) (_:Option Addr) (_ _:Nat) (g0 _ _ board:Int) (R:Value->Hp->Prop):Prop:=
 bc (decide (board<0)) (rt σ R (.int .i64 g0)) (ix b0 a0 board 4 (fun b1 a2=>
  ldI σ .i64 b1 (a2+1) (fun n3=>rt σ R (.int .i64 n3))))
def P3:MAn:=(.seq (.txt []) (.seq (.seq (.txt []) (.cond (.seq (.txt []) .leaf) .leaf)) (.seq (.txt []) .leaf)))
theorem P7 (σ:Hp) (b0:Option Addr) (a0 d0:Nat) (e0:Option Addr) (c0 f0:Nat) (g0 i0 h0 board:Int) (R:Value->Hp->Prop) (h:HZ σ b0 a0 d0 e0 c0 f0 g0 i0 h0 board R):Ad Tryz.prog 253 #[(.agg #[.slice b0 a0 d0,.slice e0 c0 f0,.int .i64 g0,.int .i64 i0,.int .i64 h0]),.int .i64 board] σ R:=
 Ac DD P3 Tryz.func253 rfl (by kernel_rfl) (by kernel_rfl) (by kernel_rfl) h
theorem Mw:Al Tryz.prog 253=true:=by kernel_rfl
abbrev Uo:FuncId:=201
def JG (σ:Hp) (b0:Option Addr) (a0 d0:Nat) (e0:Option Addr) (c0 f0:Nat) (g0 i0 h0 set board:Int) (R:Value->Hp->Prop):Prop:=
 cut (α:=Hp->Prop) (fun  σ2=>∀ _:Nat->Value,rt σ2 R (.bool false)) (fun J3=>∃ I6:Nat->Int->Hp->Prop,(∃ n70,I6 n70 0 σ) /\
  ∀ n7:Nat,∀ n8:Int,∀ σ5:Hp,I6 n7 n8 σ5->∀ _:Nat->Value,bc (decide (n8<3)) (cl Tryz.prog (.func (.func 252) #[] #[]) #[(.agg #[.slice b0 a0 d0,.slice e0 c0 f0,.int .i64 g0,.int .i64 i0,.int .i64 h0]),.int .i64 set,.int .i64 board,.int .i64 n8] σ5 (fun v9 σ10=>
  ∃ n11:Int,(v9=(.int .i64 n11)/\(Hp.Sub σ5 σ10/\cl Tryz.prog (.func (.func 253) #[] #[]) #[(.agg #[.slice b0 a0 d0,.slice e0 c0 f0,.int .i64 g0,.int .i64 i0,.int .i64 h0]),.int .i64 board] σ10 (fun v12 σ13=>
  ∃ n14:Int,(v12=(.int .i64 n14)/\bc (decide (n14<n11)) (rt σ13 R (.bool true)) (wk .i64 (n8+1) (fun n15=>
  bk σ13 n7 (fun m16 σ17=>I6 m16 n15 σ17))))))))) (J3 σ5))
def BG:OA:=⟨[],false,[]⟩
def Rf:MAn:=(.seq (.txt []) (.cut ⟨[true],1,[],[]⟩ (.seq (.txt []) (.block (.loop ⟨[true],1,[.slot 3 (.hb 0 0),.slot 7 (.sc (.int .i64))],[(1,true),(2,true)]⟩ (.seq (.seq (.txt []) (.cond .leaf .leaf)) (.seq (.block (.seq (.plan [7] (tkOR3 4 0 BG (.take 5 BG (.take 6 BG (.alt 4 true BG (.alt 7 false BG (.take 8 BG .done) .done) .done))))) (.cond (.seq (.txt []) .leaf) .leaf))) (.txt [])))))) (.seq (.txt []) .leaf)))
theorem QX (σ:Hp) (b0:Option Addr) (a0 d0:Nat) (e0:Option Addr) (c0 f0:Nat) (g0 i0 h0 set board:Int) (R:Value->Hp->Prop) (h:JG σ b0 a0 d0 e0 c0 f0 g0 i0 h0 set board R):Ad Tryz.prog 201 #[(.agg #[.slice b0 a0 d0,.slice e0 c0 f0,.int .i64 g0,.int .i64 i0,.int .i64 h0]),.int .i64 set,.int .i64 board] σ R:=
 Ac DD Rf Tryz.func201 rfl (by kernel_rfl) (by kernel_rfl) (by kernel_rfl) h
theorem MY:Al Tryz.prog 201=true:=by kernel_rfl
abbrev Pu:FuncId:=143
def Fk (σ:Hp) (b0:Option Addr) (a0 d0:Nat) (e0:Option Addr) (c0 f0:Nat) (g0 i0 h0 set:Int) (R:Value->Hp->Prop):Prop:=
 cl Tryz.prog (.func (.func 79) #[] #[]) #[(.agg #[.slice b0 a0 d0,.slice e0 c0 f0,.int .i64 g0,.int .i64 i0,.int .i64 h0])] σ (fun v1 σ2=>
  ∃ n3:Int,(v1=(.int .i64 n3)/\bc (!decide (n3=0)) (rt σ2 R (.int .i64 n3)) (wk .u64 (((c0:Nat):Int)) (fun n4=>
  (0<=n4/\wk .i64 (1*2^(min (n4:Int).toNat (IntKind.bits .i64))) (fun n5=>wk .i64 (n5-1) (fun n6=>
  cl Tryz.prog (.func (.func 139) #[] #[]) #[.int .i64 set,.int .i64 0,.int .i64 n6] σ2 (fun v7 σ8=>
  ∃ t9:Bool,(v7=(.bool t9)/\bc (!t9) (rt σ8 R (.int .i64 1)) (rt σ8 R (.int .i64 0)))))))))))
def Ms:MAn:=(.seq (.txt []) (.seq (.seq (.txt []) (.seq (.txt []) (.cond (.seq (.txt []) .leaf) .leaf))) (.seq (.seq (.txt []) (.cond (.seq (.txt []) .leaf) .leaf)) (.seq (.txt []) .leaf))))
theorem MM (σ:Hp) (b0:Option Addr) (a0 d0:Nat) (e0:Option Addr) (c0 f0:Nat) (g0 i0 h0 set:Int) (R:Value->Hp->Prop) (h:Fk σ b0 a0 d0 e0 c0 f0 g0 i0 h0 set R):Ad Tryz.prog 143 #[(.agg #[.slice b0 a0 d0,.slice e0 c0 f0,.int .i64 g0,.int .i64 i0,.int .i64 h0]),.int .i64 set] σ R:=
 Ac DD Ms Tryz.func143 rfl (by kernel_rfl) (by kernel_rfl) (by kernel_rfl) h
theorem Ju:Al Tryz.prog 143=true:=by kernel_rfl
abbrev TU:FuncId:=144
def Jx (σ:Hp) (b0:Option Addr) (a0 d0:Nat) (e0:Option Addr) (c0 f0:Nat) (g0 i0 h0 set:Int) (R:Value->Hp->Prop):Prop:=
 cut (α:=Hp->Prop) (fun  σ2=>∀ _:Nat->Value,rt σ2 R (.tuple #[.int .i64 0,.bool false])) (fun J3=>
  ∃ I6:Nat->Int->Hp->Prop,(∃ n70,I6 n70 (-1) σ)/\∀ n7:Nat,∀ n8:Int,∀ σ5:Hp,I6 n7 n8 σ5->∀ _:Nat->Value,bc (decide (n8<((a0:Nat):Int))) (cl Tryz.prog (.func (.func 201) #[] #[]) #[(.agg #[.slice b0 a0 d0,.slice e0 c0 f0,.int .i64 g0,.int .i64 i0,.int .i64 h0]),.int .i64 set,.int .i64 n8] σ5 (fun v9 σ10=>
  ∃ t11:Bool,(v9=(.bool t11)/\bc t11 (rt σ10 R (.tuple #[.int .i64 n8,.bool true])) (wk .i64 (n8+1) (fun n12=>
  bk σ10 n7 (fun m13 σ14=>I6 m13 n12 σ14)))))) (J3 σ5))
def Q1:MAn:=(.seq (.txt []) (.cut ⟨[true],1,[],[]⟩ (.seq (.txt []) (.block (.loop ⟨[true],1,[.slot 2 (.hb 0 0),.slot 6 (.sc (.int .i64))],[(1,true)]⟩ (.seq (.seq (.txt []) (.cond .leaf .leaf)) (.seq (.block (.seq (.txt []) (.cond (.seq (.txt []) .leaf) .leaf))) (.txt [])))))) (.seq (.txt []) .leaf)))
theorem QZ (σ:Hp) (b0:Option Addr) (a0 d0:Nat) (e0:Option Addr) (c0 f0:Nat) (g0 i0 h0 set:Int) (R:Value->Hp->Prop) (h:Jx σ b0 a0 d0 e0 c0 f0 g0 i0 h0 set R):Ad Tryz.prog 144 #[(.agg #[.slice b0 a0 d0,.slice e0 c0 f0,.int .i64 g0,.int .i64 i0,.int .i64 h0]),.int .i64 set] σ R:=
 Ac DD Q1 Tryz.func144 rfl (by kernel_rfl) (by kernel_rfl) (by kernel_rfl) h
theorem Nq:Al Tryz.prog 144=true:=by kernel_rfl
abbrev T9:FuncId:=81
def IZ (σ:Hp) (b0:Option Addr) (a0 d0:Nat) (e0:Option Addr) (c0 f0:Nat) (g0 i0 h0 set:Int) (R:Value->Hp->Prop):Prop:=
 cl Tryz.prog (.func (.func 143) #[] #[]) #[(.agg #[.slice b0 a0 d0,.slice e0 c0 f0,.int .i64 g0,.int .i64 i0,.int .i64 h0]),.int .i64 set] σ (fun v1 σ2=>
  ∃ n3:Int,(v1=(.int .i64 n3)/\bc (!decide (n3=0)) (rt σ2 R (.tuple #[.int .i64 0,.bool false,.int .i64 n3])) (cl Tryz.prog (.func (.func 144) #[] #[]) #[(.agg #[.slice b0 a0 d0,.slice e0 c0 f0,.int .i64 g0,.int .i64 i0,.int .i64 h0]),.int .i64 set] σ2 (fun v4 σ5=>
  ∃ n6:Int,∃ t7:Bool,(v4=(.tuple #[.int .i64 n6,.bool t7])/\rt σ5 R (.tuple #[.int .i64 n6,(.bool (!t7)),.int .i64 0]))))))
def Q0:MAn:=(.seq (.txt []) (.seq (.seq (.txt []) (.seq (.txt []) (.cond (.seq (.txt []) .leaf) .leaf))) (.seq (.txt []) (.seq (.txt []) .leaf))))
theorem Q5 (σ:Hp) (b0:Option Addr) (a0 d0:Nat) (e0:Option Addr) (c0 f0:Nat) (g0 i0 h0 set:Int) (R:Value->Hp->Prop) (h:IZ σ b0 a0 d0 e0 c0 f0 g0 i0 h0 set R):Ad Tryz.prog 81 #[(.agg #[.slice b0 a0 d0,.slice e0 c0 f0,.int .i64 g0,.int .i64 i0,.int .i64 h0]),.int .i64 set] σ R:=
 Ac DD Q0 Tryz.func81 rfl (by kernel_rfl) (by kernel_rfl) (by kernel_rfl) h
theorem Ng:Al Tryz.prog 81=true:=by kernel_rfl
end Go.Proofs.YtoelhdjloaknbaaGreat
