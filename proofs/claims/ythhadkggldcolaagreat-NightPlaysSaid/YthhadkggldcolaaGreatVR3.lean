/- Trimmed by wip/trim.py to what this claim rests on. -/
import Derived.Test.YthhadkggldcolaaGreatVB11
namespace Go.Proofs.YthhadkggldcolaaGreat
set_option maxRecDepth 100000
open Go.RowKit
def tkVR3:Nat->Nat->OA->MPlan->MPlan
 |0,_,_,x=>x
 |n+1,i,a,x=>.take i a (tkVR3 n (i+1) a x)
theorem DO:Tryz.prog.follows .mixedOrders=true:=by kernel_rfl
abbrev LM:FuncId:=110
def G5 (σ:Hp) (n low high:Int) (R:Value->Hp->Prop):Prop:=
 bc (decide (low<=n)) (rt σ R (.bool (decide (n<=high)))) (rt σ R (.bool false))
def PY:MAn:=(.seq (.txt []) (.seq (.txt [⟨[],false,[]⟩,⟨[],false,[]⟩,⟨[],false,[]⟩,⟨[],true,[]⟩]) .leaf))
theorem PC (σ:Hp) (n low high:Int) (R:Value->Hp->Prop) (h:G5 σ n low high R):Af Tryz.prog 110 #[.int .i64 n,.int .i64 low,.int .i64 high] σ R:=
 Ae DO PY Tryz.func110 rfl (by kernel_rfl) (by kernel_rfl) (by kernel_rfl) h
theorem MH:Ao Tryz.prog 110=true:=by kernel_rfl
abbrev Ud:FuncId:=60
def IA (σ:Hp) (b0:Option Addr) (a0 _:Nat) (e0:Option Addr) (c0 _:Nat) (g0 i0 h0:Int) (R:Value->Hp->Prop):Prop:=
 cut (α:=Hp->Prop) (fun  σ2=>∀ _:Nat->Value,cut (α:=Hp->Prop) (fun  σ5=>∀ _:Nat->Value,
  cut (α:=Hp->Prop) (fun  σ8=>∀ _:Nat->Value,rt σ8 R (.int .i64 0)) (fun J9=>∃ I12:Nat->Int->Hp->Prop,(∃ n130,I12 n130 0 σ5) /\
  ∀ n13:Nat,∀ n14:Int,∀ σ11:Hp,I12 n13 n14 σ11->∀ _:Nat->Value,bc (decide (n14<((c0:Nat):Int))) (cut (α:=Hp->Prop) (fun  σ16=>
  ∀ _:Nat->Value,wk .i64 (n14+1) (fun n18=>bk σ16 n13 (fun m19 σ20=>I12 m19 n18 σ20))) (fun J17=>
  ix e0 c0 n14 4 (fun b21 a22=>ldI σ11 .i64 b21 a22 (fun n23=>ldI σ11 .i64 b21 (a22+1) (fun n24=>
  ldI σ11 .i64 b21 (a22+2) (fun n25=>ldI σ11 .i64 b21 (a22+3) (fun n26=>cut (α:=Bool->Hp->Prop) (fun t30 σ28=>
  ∀ _:Nat->Value,bc t30 (rt σ28 R (.int .i64 50)) (J17 σ28)) (fun J29=>wk .i64 (((a0:Nat):Int)-1) (fun n31=>
  cl Tryz.prog (.func (.func 110) #[] #[]) #[.int .i64 n23,.int .i64 0,.int .i64 n31] σ11 (fun v32 σ33=>
  ∃ t34:Bool,(v32=(.bool t34)/\bc (!t34) (J29 true σ33) (cl Tryz.prog (.func (.func 110) #[] #[]) #[.int .i64 n24,.int .i64 0,.int .i64 2] σ33 (fun v35 σ36=>
  ∃ t37:Bool,(v35=(.bool t37)/\bc (!t37) (J29 true σ36) (cl Tryz.prog (.func (.func 110) #[] #[]) #[.int .i64 n25,.int .i64 1,.int .i64 1000] σ36 (fun v38 σ39=>
  ∃ t40:Bool,(v38=(.bool t40)/\bc (!t40) (J29 true σ39) (cl Tryz.prog (.func (.func 110) #[] #[]) #[.int .i64 n26,.int .i64 0,.int .i64 1000] σ39 (fun v41 σ42=>
  ∃ t43:Bool,(v41=(.bool t43)/\J29 (!t43) σ42)))))))))))))))))))) (J9 σ11))) (fun J6=>∃ I46:Nat->Int->Hp->Prop,(∃ n470,I46 n470 0 σ2) /\
  ∀ n47:Nat,∀ n48:Int,∀ σ45:Hp,I46 n47 n48 σ45->∀ _:Nat->Value,bc (decide (n48<((a0:Nat):Int))) (cut (α:=Hp->Prop) (fun  σ50=>
  ∀ _:Nat->Value,wk .i64 (n48+1) (fun n52=>bk σ50 n47 (fun m53 σ54=>I46 m53 n52 σ54))) (fun J51=>
  ix b0 a0 n48 4 (fun b55 a56=>ldI σ45 .i64 b55 a56 (fun n57=>ldI σ45 .i64 b55 (a56+1) (fun n58=>
  ldI σ45 .i64 b55 (a56+2) (fun n59=>ldI σ45 .i64 b55 (a56+3) (fun n60=>cut (α:=Bool->Hp->Prop) (fun t64 σ62=>
  ∀ _:Nat->Value,bc t64 (rt σ62 R (.int .i64 50)) (J51 σ62)) (fun J63=>wk .i64 (n48-1) (fun n65=>
  cl Tryz.prog (.func (.func 110) #[] #[]) #[.int .i64 n57,(.int .i64 (-1)),.int .i64 n65] σ45 (fun v66 σ67=>
  ∃ t68:Bool,(v66=(.bool t68)/\bc (!t68) (J63 true σ67) (cl Tryz.prog (.func (.func 110) #[] #[]) #[.int .i64 n58,.int .i64 1,.int .i64 1000] σ67 (fun v69 σ70=>
  ∃ t71:Bool,(v69=(.bool t71)/\bc (!t71) (J63 true σ70) (cl Tryz.prog (.func (.func 110) #[] #[]) #[.int .i64 n59,.int .i64 0,.int .i64 20] σ70 (fun v72 σ73=>
  ∃ t74:Bool,(v72=(.bool t74)/\bc (!t74) (J63 true σ73) (cl Tryz.prog (.func (.func 110) #[] #[]) #[.int .i64 n60,.int .i64 1,.int .i64 10000] σ73 (fun v75 σ76=>
  ∃ t77:Bool,(v75=(.bool t77)/\J63 (!t77) σ76)))))))))))))))))))) (J6 σ45))) (fun J3=>cut (α:=Bool->Hp->Prop) (fun t81 σ79=>
  ∀ _:Nat->Value,bc t81 (rt σ79 R (.int .i64 50)) (J3 σ79)) (fun J80=>bc (decide ((10:Int)<((a0:Nat):Int))) (J80 true σ) (bc (decide ((16:Int)<((c0:Nat):Int))) (J80 true σ) (cl Tryz.prog (.func (.func 110) #[] #[]) #[.int .i64 g0,.int .i64 1,.int .i64 1000] σ (fun v82 σ83=>
  ∃ t84:Bool,(v82=(.bool t84)/\bc (!t84) (J80 true σ83) (cl Tryz.prog (.func (.func 110) #[] #[]) #[.int .i64 i0,.int .i64 0,.int .i64 20] σ83 (fun v85 σ86=>
  ∃ t87:Bool,(v85=(.bool t87)/\bc (!t87) (J80 true σ86) (cl Tryz.prog (.func (.func 110) #[] #[]) #[.int .i64 h0,.int .i64 1,.int .i64 1000] σ86 (fun v88 σ89=>
  ∃ t90:Bool,(v88=(.bool t90)/\J80 (!t90) σ89))))))))))))
def Ak:OA:=⟨[],false,[]⟩
def QR:MAn:=(.seq (.txt []) (.cut ⟨[true],1,[.slot 1 (.hb 0 0)],[]⟩ (.cut ⟨[true],1,[.slot 1 (.hb 0 0),.slot 34 (.sc (.bool))],[]⟩ (.txt [Ak,Ak,Ak,Ak,⟨[],true,[]⟩,Ak,Ak,Ak,Ak,Ak,⟨[],true,[]⟩,Ak,Ak,Ak,Ak,Ak,⟨[],true,[]⟩,Ak,Ak,Ak,Ak,Ak,⟨[],true,[]⟩]) (.cond (.seq (.txt []) .leaf) .leaf)) (.cut ⟨[true],1,[.slot 1 (.hb 0 0)],[]⟩ (.seq (.txt []) (.block (.loop ⟨[true],1,[.slot 1 (.hb 0 0),.slot 3 (.sc (.int .i64))],[]⟩ (.seq (.seq (.txt []) (.cond .leaf .leaf)) (.cut ⟨[true],1,[.slot 1 (.hb 0 0)],[(3,true)]⟩ (.block (.seq (.txt []) (.cut ⟨[true,true],2,[.slot 1 (.hb 0 0),.slot 70 (.sc (.bool))],[(3,true)]⟩ (.txt [Ak,Ak,Ak,Ak,Ak,Ak,⟨[],true,[]⟩,Ak,Ak,Ak,Ak,Ak,⟨[],true,[]⟩,Ak,Ak,Ak,Ak,Ak,⟨[],true,[]⟩]) (.cond (.seq (.txt []) .leaf) .leaf)))) (.txt [])))))) (.cut ⟨[true],1,[],[]⟩ (.seq (.txt []) (.block (.loop ⟨[true],1,[.slot 1 (.hb 0 0),.slot 5 (.sc (.int .i64))],[]⟩ (.seq (.seq (.txt []) (.cond .leaf .leaf)) (.cut ⟨[true],1,[.slot 1 (.hb 0 0)],[(5,true)]⟩ (.block (.seq (.txt []) (.cut ⟨[true,true],2,[.slot 1 (.hb 0 0),.slot 108 (.sc (.bool))],[(5,true)]⟩ (.txt [Ak,Ak,Ak,Ak,Ak,Ak,Ak,Ak,⟨[],true,[]⟩,Ak,Ak,Ak,Ak,Ak,⟨[],true,[]⟩,Ak,Ak,Ak,Ak,Ak,⟨[],true,[]⟩]) (.cond (.seq (.txt []) .leaf) .leaf)))) (.txt [])))))) (.seq (.txt []) .leaf)))))
theorem QX (σ:Hp) (b0:Option Addr) (a0 d0:Nat) (e0:Option Addr) (c0 f0:Nat) (g0 i0 h0:Int) (R:Value->Hp->Prop) (h:IA σ b0 a0 d0 e0 c0 f0 g0 i0 h0 R):Af Tryz.prog 60 #[(.agg #[.slice b0 a0 d0,.slice e0 c0 f0,.int .i64 g0,.int .i64 i0,.int .i64 h0])] σ R:=
 Ae DO QR Tryz.func60 rfl (by kernel_rfl) (by kernel_rfl) (by kernel_rfl) h
theorem Gu:Ao Tryz.prog 60=true:=by kernel_rfl
abbrev X1:FuncId:=304
def OZ (σ:Hp) (set load:Int) (R:Value->Hp->Prop):Prop:=
 wk .u64 (load) (fun n1=>(0<=n1/\wk .i64 (((BitVec.ofInt (IntKind.bits .i64) (Int.fdiv set (2^(min (n1:Int).toNat (IntKind.bits .i64)))) &&& BitVec.ofInt (IntKind.bits .i64) 1).toNat:Int)) (fun n2=>
  rt σ R (.bool (decide (n2=1))))))
def Ua:MAn:=(.seq (.txt []) (.seq (.txt []) .leaf))
theorem Uq (σ:Hp) (set load:Int) (R:Value->Hp->Prop) (h:OZ σ set load R):Af Tryz.prog 304 #[.int .i64 set,.int .i64 load] σ R:=
 Ae DO Ua Tryz.func304 rfl (by kernel_rfl) (by kernel_rfl) (by kernel_rfl) h
theorem QJ:Ao Tryz.prog 304=true:=by kernel_rfl
abbrev Ub:FuncId:=305
def Ik (σ:Hp) (b0:Option Addr) (a0 _:Nat) (_:Option Addr) (_ _:Nat) (_ _ _ board top:Int) (R:Value->Hp->Prop):Prop:=
 cut (α:=Int->Hp->Prop) (fun n4 σ2=>∀ _:Nat->Value,rt σ2 R (.bool (decide (n4=top)))) (fun J3=>
  ∃ I7:Nat->Int->Hp->Prop,(∃ n80,I7 n80 board σ)/\∀ n8:Nat,∀ n9:Int,∀ σ6:Hp,I7 n8 n9 σ6->∀ _:Nat->Value,bc (decide (top<n9)) (ix b0 a0 n9 4 (fun b10 a11=>
  ldI σ6 .i64 b10 a11 (fun n12=>bk σ6 n8 (fun m13 σ14=>I7 m13 n12 σ14)))) (J3 n9 σ6))
def QE:MAn:=(.seq (.txt []) (.cut ⟨[true],1,[.slot 1 (.sc (.int .i64))],[(2,true)]⟩ (.block (.loop ⟨[true],1,[.slot 1 (.sc (.int .i64)),.slot 3 (.hb 0 0)],[(2,true)]⟩ (.seq (.seq (.txt []) (.cond .leaf .leaf)) (.block (.txt []))))) (.seq (.txt []) .leaf)))
theorem Q0 (σ:Hp) (b0:Option Addr) (a0 d0:Nat) (e0:Option Addr) (c0 f0:Nat) (g0 i0 h0 board top:Int) (R:Value->Hp->Prop) (h:Ik σ b0 a0 d0 e0 c0 f0 g0 i0 h0 board top R):Af Tryz.prog 305 #[(.agg #[.slice b0 a0 d0,.slice e0 c0 f0,.int .i64 g0,.int .i64 i0,.int .i64 h0]),.int .i64 board,.int .i64 top] σ R:=
 Ae DO QE Tryz.func305 rfl (by kernel_rfl) (by kernel_rfl) (by kernel_rfl) h
theorem Ny:Ao Tryz.prog 305=true:=by kernel_rfl
abbrev SR:FuncId:=280
def F8 (σ:Hp) (b0:Option Addr) (a0 d0:Nat) (e0:Option Addr) (c0 f0:Nat) (g0 i0 h0 set board phase:Int) (R:Value->Hp->Prop):Prop:=
 cut (α:=Int->Hp->Prop) (fun n4 σ2=>∀ _:Nat->Value,rt σ2 R (.int .i64 n4)) (fun J3=>∃ I7:Nat->Int->Int->Hp->Prop,(∃ n80,I7 n80 0 0 σ) /\
  ∀ n8:Nat,∀ n9 n10:Int,∀ σ6:Hp,I7 n8 n9 n10 σ6->∀ _:Nat->Value,bc (decide (n10<((c0:Nat):Int))) (cut (α:=Int->Hp->Prop) (fun n14 σ12=>
  ∀ _:Nat->Value,wk .i64 (n10+1) (fun n15=>bk σ12 n8 (fun m16 σ17=>I7 m16 n14 n15 σ17))) (fun J13=>
  ix e0 c0 n10 4 (fun b18 a19=>ldI σ6 .i64 b18 a19 (fun n20=>ldI σ6 .i64 b18 (a19+1) (fun n21=>
  ldI σ6 .i64 b18 (a19+2) (fun n22=>ldI σ6 .i64 b18 (a19+3) (fun _=>cut (α:=Bool->Hp->Prop) (fun t27 σ25=>
  ∀ _:Nat->Value,bc t27 (wk .i64 (n9+n22) (fun n28=>J13 n28 σ25)) (J13 n9 σ25)) (fun J26=>cl Tryz.prog (.func (.func 304) #[] #[]) #[.int .i64 set,.int .i64 n10] σ6 (fun v29 σ30=>
  ∃ t31:Bool,(v29=(.bool t31)/\bc t31 (bc (decide (n21=phase)) (bc (decide (board<0)) (J26 true σ30) (cl Tryz.prog (.func (.func 305) #[] #[]) #[(.agg #[.slice b0 a0 d0,.slice e0 c0 f0,.int .i64 g0,.int .i64 i0,.int .i64 h0]),.int .i64 n20,.int .i64 board] σ30 (fun v32 σ33=>
  ∃ t34:Bool,(v32=(.bool t34)/\J26 t34 σ33)))) (J26 false σ30)) (J26 false σ30))))))))))) (J3 n9 σ6))
def Bx:OA:=⟨[],false,[]⟩
def N6:MAn:=(.seq (.txt []) (.seq (.txt []) (.cut ⟨[true],1,[.slot 9 (.sc (.int .i64))],[]⟩ (.seq (.txt []) (.block (.loop ⟨[true],1,[.slot 4 (.hb 0 0),.slot 9 (.sc (.int .i64)),.slot 10 (.sc (.int .i64))],[(1,true),(2,true),(3,true)]⟩ (.seq (.seq (.txt []) (.cond .leaf .leaf)) (.cut ⟨[true],1,[.slot 4 (.hb 0 0),.slot 9 (.sc (.int .i64))],[(1,true),(2,true),(3,true),(10,true)]⟩ (.block (.seq (.txt []) (.cut ⟨[true,true],2,[.slot 4 (.hb 0 0),.slot 11 (.hb 1 0),.slot 43 (.sc (.bool))],[(1,true),(2,true),(3,true),(9,true),(10,true)]⟩ (.txt [Bx,Bx,Bx,⟨[],true,[]⟩,Bx,Bx,Bx,Bx,Bx,⟨[],true,[]⟩,Bx,Bx,⟨[],true,[]⟩]) (.cond (.txt []) .leaf)))) (.txt [])))))) (.seq (.txt []) .leaf))))
theorem Oq (σ:Hp) (b0:Option Addr) (a0 d0:Nat) (e0:Option Addr) (c0 f0:Nat) (g0 i0 h0 set board phase:Int) (R:Value->Hp->Prop) (h:F8 σ b0 a0 d0 e0 c0 f0 g0 i0 h0 set board phase R):Af Tryz.prog 280 #[(.agg #[.slice b0 a0 d0,.slice e0 c0 f0,.int .i64 g0,.int .i64 i0,.int .i64 h0]),.int .i64 set,.int .i64 board,.int .i64 phase] σ R:=
 Ae DO N6 Tryz.func280 rfl (by kernel_rfl) (by kernel_rfl) (by kernel_rfl) h
theorem Ll:Ao Tryz.prog 280=true:=by kernel_rfl
abbrev Ur:FuncId:=281
def Im (σ:Hp) (b0:Option Addr) (a0 _:Nat) (_:Option Addr) (_ _:Nat) (g0 _ _ board:Int) (R:Value->Hp->Prop):Prop:=
 bc (decide (board<0)) (rt σ R (.int .i64 g0)) (ix b0 a0 board 4 (fun b1 a2=>
  ldI σ .i64 b1 (a2+1) (fun n3=>rt σ R (.int .i64 n3))))
def Rh:MAn:=(.seq (.txt []) (.seq (.seq (.txt []) (.cond (.seq (.txt []) .leaf) .leaf)) (.seq (.txt []) .leaf)))
theorem Rk (σ:Hp) (b0:Option Addr) (a0 d0:Nat) (e0:Option Addr) (c0 f0:Nat) (g0 i0 h0 board:Int) (R:Value->Hp->Prop) (h:Im σ b0 a0 d0 e0 c0 f0 g0 i0 h0 board R):Af Tryz.prog 281 #[(.agg #[.slice b0 a0 d0,.slice e0 c0 f0,.int .i64 g0,.int .i64 i0,.int .i64 h0]),.int .i64 board] σ R:=
 Ae DO Rh Tryz.func281 rfl (by kernel_rfl) (by kernel_rfl) (by kernel_rfl) h
theorem Nj:Ao Tryz.prog 281=true:=by kernel_rfl
abbrev VH:FuncId:=230
def JH (σ:Hp) (b0:Option Addr) (a0 d0:Nat) (e0:Option Addr) (c0 f0:Nat) (g0 i0 h0 set board:Int) (R:Value->Hp->Prop):Prop:=
 cut (α:=Hp->Prop) (fun  σ2=>∀ _:Nat->Value,rt σ2 R (.bool false)) (fun J3=>∃ I6:Nat->Int->Hp->Prop,(∃ n70,I6 n70 0 σ) /\
  ∀ n7:Nat,∀ n8:Int,∀ σ5:Hp,I6 n7 n8 σ5->∀ _:Nat->Value,bc (decide (n8<3)) (cl Tryz.prog (.func (.func 280) #[] #[]) #[(.agg #[.slice b0 a0 d0,.slice e0 c0 f0,.int .i64 g0,.int .i64 i0,.int .i64 h0]),.int .i64 set,.int .i64 board,.int .i64 n8] σ5 (fun v9 σ10=>
  ∃ n11:Int,(v9=(.int .i64 n11)/\(Hp.Sub σ5 σ10/\cl Tryz.prog (.func (.func 281) #[] #[]) #[(.agg #[.slice b0 a0 d0,.slice e0 c0 f0,.int .i64 g0,.int .i64 i0,.int .i64 h0]),.int .i64 board] σ10 (fun v12 σ13=>
  ∃ n14:Int,(v12=(.int .i64 n14)/\bc (decide (n14<n11)) (rt σ13 R (.bool true)) (wk .i64 (n8+1) (fun n15=>
  bk σ13 n7 (fun m16 σ17=>I6 m16 n15 σ17))))))))) (J3 σ5))
def BS:OA:=⟨[],false,[]⟩
def SX:MAn:=(.seq (.txt []) (.cut ⟨[true],1,[],[]⟩ (.seq (.txt []) (.block (.loop ⟨[true],1,[.slot 3 (.hb 0 0),.slot 7 (.sc (.int .i64))],[(1,true),(2,true)]⟩ (.seq (.seq (.txt []) (.cond .leaf .leaf)) (.seq (.block (.seq (.plan [7] (tkVR3 4 0 BS (.take 5 BS (.take 6 BS (.alt 4 true BS (.alt 7 false BS (.take 8 BS .done) .done) .done))))) (.cond (.seq (.txt []) .leaf) .leaf))) (.txt [])))))) (.seq (.txt []) .leaf)))
theorem S4 (σ:Hp) (b0:Option Addr) (a0 d0:Nat) (e0:Option Addr) (c0 f0:Nat) (g0 i0 h0 set board:Int) (R:Value->Hp->Prop) (h:JH σ b0 a0 d0 e0 c0 f0 g0 i0 h0 set board R):Af Tryz.prog 230 #[(.agg #[.slice b0 a0 d0,.slice e0 c0 f0,.int .i64 g0,.int .i64 i0,.int .i64 h0]),.int .i64 set,.int .i64 board] σ R:=
 Ae DO SX Tryz.func230 rfl (by kernel_rfl) (by kernel_rfl) (by kernel_rfl) h
theorem N5:Ao Tryz.prog 230=true:=by kernel_rfl
abbrev RD:FuncId:=176
def FI (σ:Hp) (b0:Option Addr) (a0 d0:Nat) (e0:Option Addr) (c0 f0:Nat) (g0 i0 h0 set:Int) (R:Value->Hp->Prop):Prop:=
 cl Tryz.prog (.func (.func 60) #[] #[]) #[(.agg #[.slice b0 a0 d0,.slice e0 c0 f0,.int .i64 g0,.int .i64 i0,.int .i64 h0])] σ (fun v1 σ2=>
  ∃ n3:Int,(v1=(.int .i64 n3)/\bc (!decide (n3=0)) (rt σ2 R (.int .i64 n3)) (wk .u64 (((c0:Nat):Int)) (fun n4=>
  (0<=n4/\wk .i64 (1*2^(min (n4:Int).toNat (IntKind.bits .i64))) (fun n5=>wk .i64 (n5-1) (fun n6=>
  cl Tryz.prog (.func (.func 110) #[] #[]) #[.int .i64 set,.int .i64 0,.int .i64 n6] σ2 (fun v7 σ8=>
  ∃ t9:Bool,(v7=(.bool t9)/\bc (!t9) (rt σ8 R (.int .i64 1)) (rt σ8 R (.int .i64 0)))))))))))
def Nm:MAn:=(.seq (.txt []) (.seq (.seq (.txt []) (.seq (.txt []) (.cond (.seq (.txt []) .leaf) .leaf))) (.seq (.seq (.txt []) (.cond (.seq (.txt []) .leaf) .leaf)) (.seq (.txt []) .leaf))))
theorem NT (σ:Hp) (b0:Option Addr) (a0 d0:Nat) (e0:Option Addr) (c0 f0:Nat) (g0 i0 h0 set:Int) (R:Value->Hp->Prop) (h:FI σ b0 a0 d0 e0 c0 f0 g0 i0 h0 set R):Af Tryz.prog 176 #[(.agg #[.slice b0 a0 d0,.slice e0 c0 f0,.int .i64 g0,.int .i64 i0,.int .i64 h0]),.int .i64 set] σ R:=
 Ae DO Nm Tryz.func176 rfl (by kernel_rfl) (by kernel_rfl) (by kernel_rfl) h
theorem JR:Ao Tryz.prog 176=true:=by kernel_rfl
abbrev VQ:FuncId:=177
def JZ (σ:Hp) (b0:Option Addr) (a0 d0:Nat) (e0:Option Addr) (c0 f0:Nat) (g0 i0 h0 set:Int) (R:Value->Hp->Prop):Prop:=
 cut (α:=Hp->Prop) (fun  σ2=>∀ _:Nat->Value,rt σ2 R (.tuple #[.int .i64 0,.bool false])) (fun J3=>
  ∃ I6:Nat->Int->Hp->Prop,(∃ n70,I6 n70 (-1) σ)/\∀ n7:Nat,∀ n8:Int,∀ σ5:Hp,I6 n7 n8 σ5->∀ _:Nat->Value,bc (decide (n8<((a0:Nat):Int))) (cl Tryz.prog (.func (.func 230) #[] #[]) #[(.agg #[.slice b0 a0 d0,.slice e0 c0 f0,.int .i64 g0,.int .i64 i0,.int .i64 h0]),.int .i64 set,.int .i64 n8] σ5 (fun v9 σ10=>
  ∃ t11:Bool,(v9=(.bool t11)/\bc t11 (rt σ10 R (.tuple #[.int .i64 n8,.bool true])) (wk .i64 (n8+1) (fun n12=>
  bk σ10 n7 (fun m13 σ14=>I6 m13 n12 σ14)))))) (J3 σ5))
def Sc:MAn:=(.seq (.txt []) (.cut ⟨[true],1,[],[]⟩ (.seq (.txt []) (.block (.loop ⟨[true],1,[.slot 2 (.hb 0 0),.slot 6 (.sc (.int .i64))],[(1,true)]⟩ (.seq (.seq (.txt []) (.cond .leaf .leaf)) (.seq (.block (.seq (.txt []) (.cond (.seq (.txt []) .leaf) .leaf))) (.txt [])))))) (.seq (.txt []) .leaf)))
theorem Sw (σ:Hp) (b0:Option Addr) (a0 d0:Nat) (e0:Option Addr) (c0 f0:Nat) (g0 i0 h0 set:Int) (R:Value->Hp->Prop) (h:JZ σ b0 a0 d0 e0 c0 f0 g0 i0 h0 set R):Af Tryz.prog 177 #[(.agg #[.slice b0 a0 d0,.slice e0 c0 f0,.int .i64 g0,.int .i64 i0,.int .i64 h0]),.int .i64 set] σ R:=
 Ae DO Sc Tryz.func177 rfl (by kernel_rfl) (by kernel_rfl) (by kernel_rfl) h
theorem N7:Ao Tryz.prog 177=true:=by kernel_rfl
abbrev VO:FuncId:=97
def JS (σ:Hp) (b0:Option Addr) (a0 d0:Nat) (e0:Option Addr) (c0 f0:Nat) (g0 i0 h0 set:Int) (R:Value->Hp->Prop):Prop:=
 cl Tryz.prog (.func (.func 176) #[] #[]) #[(.agg #[.slice b0 a0 d0,.slice e0 c0 f0,.int .i64 g0,.int .i64 i0,.int .i64 h0]),.int .i64 set] σ (fun v1 σ2=>
  ∃ n3:Int,(v1=(.int .i64 n3)/\bc (!decide (n3=0)) (rt σ2 R (.tuple #[.int .i64 0,.bool false,.int .i64 n3])) (cl Tryz.prog (.func (.func 177) #[] #[]) #[(.agg #[.slice b0 a0 d0,.slice e0 c0 f0,.int .i64 g0,.int .i64 i0,.int .i64 h0]),.int .i64 set] σ2 (fun v4 σ5=>
  ∃ n6:Int,∃ t7:Bool,(v4=(.tuple #[.int .i64 n6,.bool t7])/\rt σ5 R (.tuple #[.int .i64 n6,(.bool (!t7)),.int .i64 0]))))))
def S0:MAn:=(.seq (.txt []) (.seq (.seq (.txt []) (.seq (.txt []) (.cond (.seq (.txt []) .leaf) .leaf))) (.seq (.txt []) (.seq (.txt []) .leaf))))
theorem SM (σ:Hp) (b0:Option Addr) (a0 d0:Nat) (e0:Option Addr) (c0 f0:Nat) (g0 i0 h0 set:Int) (R:Value->Hp->Prop) (h:JS σ b0 a0 d0 e0 c0 f0 g0 i0 h0 set R):Af Tryz.prog 97 #[(.agg #[.slice b0 a0 d0,.slice e0 c0 f0,.int .i64 g0,.int .i64 i0,.int .i64 h0]),.int .i64 set] σ R:=
 Ae DO S0 Tryz.func97 rfl (by kernel_rfl) (by kernel_rfl) (by kernel_rfl) h
theorem OP:Ao Tryz.prog 97=true:=by kernel_rfl
end Go.Proofs.YthhadkggldcolaaGreat
