/- Trimmed by wip/trim.py to what this claim rests on. -/
import Derived.Test.YtoelhdjloaknbaaGreatVB11
namespace Go.Proofs.YtoelhdjloaknbaaGreat
set_option maxRecDepth 100000
open Go.RowKit
def tkVN2:Nat->Nat->OA->MPlan->MPlan
 |0,_,_,x=>x
 |n+1,i,a,x=>.take i a (tkVN2 n (i+1) a x)
theorem CX:Tryz.prog.follows .mixedOrders=true:=by kernel_rfl
abbrev K1:FuncId:=129
def Gf (σ:Hp) (n low high:Int) (R:Value->Hp->Prop):Prop:=
 bc (decide (low<=n)) (rt σ R (.bool (decide (n<=high)))) (rt σ R (.bool false))
def NH:MAn:=(.seq (.txt []) (.seq (.txt [⟨[],false,[]⟩,⟨[],false,[]⟩,⟨[],false,[]⟩,⟨[],true,[]⟩]) .leaf))
theorem Nj (σ:Hp) (n low high:Int) (R:Value->Hp->Prop) (h:Gf σ n low high R):Ae Tryz.prog 129 #[.int .i64 n,.int .i64 low,.int .i64 high] σ R:=
 Ad CX NH Tryz.func129 rfl (by kernel_rfl) (by kernel_rfl) (by kernel_rfl) h
theorem KH:Ao Tryz.prog 129=true:=by kernel_rfl
abbrev QJ:FuncId:=70
def Ht (σ:Hp) (b0:Option Addr) (a0 _:Nat) (e0:Option Addr) (c0 _:Nat) (g0 i0 h0:Int) (R:Value->Hp->Prop):Prop:=
 cut (α:=Hp->Prop) (fun  σ2=>∀ _:Nat->Value,cut (α:=Hp->Prop) (fun  σ5=>∀ _:Nat->Value,
  cut (α:=Hp->Prop) (fun  σ8=>∀ _:Nat->Value,rt σ8 R (.int .i64 0)) (fun J9=>∃ I12:Nat->Int->Hp->Prop,(∃ n130,I12 n130 0 σ5) /\
  ∀ n13:Nat,∀ n14:Int,∀ σ11:Hp,I12 n13 n14 σ11->∀ _:Nat->Value,bc (decide (n14<((c0:Nat):Int))) (cut (α:=Hp->Prop) (fun  σ16=>
  ∀ _:Nat->Value,wk .i64 (n14+1) (fun n18=>bk σ16 n13 (fun m19 σ20=>I12 m19 n18 σ20))) (fun J17=>
  ix e0 c0 n14 4 (fun b21 a22=>ldI σ11 .i64 b21 a22 (fun n23=>ldI σ11 .i64 b21 (a22+1) (fun n24=>
  ldI σ11 .i64 b21 (a22+2) (fun n25=>ldI σ11 .i64 b21 (a22+3) (fun n26=>cut (α:=Bool->Hp->Prop) (fun t30 σ28=>
  ∀ _:Nat->Value,bc t30 (rt σ28 R (.int .i64 50)) (J17 σ28)) (fun J29=>wk .i64 (((a0:Nat):Int)-1) (fun n31=>
  cl Tryz.prog (.func (.func 129) #[] #[]) #[.int .i64 n23,.int .i64 0,.int .i64 n31] σ11 (fun v32 σ33=>
  ∃ t34:Bool,(v32=(.bool t34)/\bc (!t34) (J29 true σ33) (cl Tryz.prog (.func (.func 129) #[] #[]) #[.int .i64 n24,.int .i64 0,.int .i64 2] σ33 (fun v35 σ36=>
  ∃ t37:Bool,(v35=(.bool t37)/\bc (!t37) (J29 true σ36) (cl Tryz.prog (.func (.func 129) #[] #[]) #[.int .i64 n25,.int .i64 1,.int .i64 1000] σ36 (fun v38 σ39=>
  ∃ t40:Bool,(v38=(.bool t40)/\bc (!t40) (J29 true σ39) (cl Tryz.prog (.func (.func 129) #[] #[]) #[.int .i64 n26,.int .i64 0,.int .i64 1000] σ39 (fun v41 σ42=>
  ∃ t43:Bool,(v41=(.bool t43)/\J29 (!t43) σ42)))))))))))))))))))) (J9 σ11))) (fun J6=>∃ I46:Nat->Int->Hp->Prop,(∃ n470,I46 n470 0 σ2) /\
  ∀ n47:Nat,∀ n48:Int,∀ σ45:Hp,I46 n47 n48 σ45->∀ _:Nat->Value,bc (decide (n48<((a0:Nat):Int))) (cut (α:=Hp->Prop) (fun  σ50=>
  ∀ _:Nat->Value,wk .i64 (n48+1) (fun n52=>bk σ50 n47 (fun m53 σ54=>I46 m53 n52 σ54))) (fun J51=>
  ix b0 a0 n48 4 (fun b55 a56=>ldI σ45 .i64 b55 a56 (fun n57=>ldI σ45 .i64 b55 (a56+1) (fun n58=>
  ldI σ45 .i64 b55 (a56+2) (fun n59=>ldI σ45 .i64 b55 (a56+3) (fun n60=>cut (α:=Bool->Hp->Prop) (fun t64 σ62=>
  ∀ _:Nat->Value,bc t64 (rt σ62 R (.int .i64 50)) (J51 σ62)) (fun J63=>wk .i64 (n48-1) (fun n65=>
  cl Tryz.prog (.func (.func 129) #[] #[]) #[.int .i64 n57,(.int .i64 (-1)),.int .i64 n65] σ45 (fun v66 σ67=>
  ∃ t68:Bool,(v66=(.bool t68)/\bc (!t68) (J63 true σ67) (cl Tryz.prog (.func (.func 129) #[] #[]) #[.int .i64 n58,.int .i64 1,.int .i64 1000] σ67 (fun v69 σ70=>
  ∃ t71:Bool,(v69=(.bool t71)/\bc (!t71) (J63 true σ70) (cl Tryz.prog (.func (.func 129) #[] #[]) #[.int .i64 n59,.int .i64 0,.int .i64 20] σ70 (fun v72 σ73=>
  ∃ t74:Bool,(v72=(.bool t74)/\bc (!t74) (J63 true σ73) (cl Tryz.prog (.func (.func 129) #[] #[]) #[.int .i64 n60,.int .i64 1,.int .i64 10000] σ73 (fun v75 σ76=>
  ∃ t77:Bool,(v75=(.bool t77)/\J63 (!t77) σ76)))))))))))))))))))) (J6 σ45))) (fun J3=>cut (α:=Bool->Hp->Prop) (fun t81 σ79=>
  ∀ _:Nat->Value,bc t81 (rt σ79 R (.int .i64 50)) (J3 σ79)) (fun J80=>bc (decide ((10:Int)<((a0:Nat):Int))) (J80 true σ) (bc (decide ((16:Int)<((c0:Nat):Int))) (J80 true σ) (cl Tryz.prog (.func (.func 129) #[] #[]) #[.int .i64 g0,.int .i64 1,.int .i64 1000] σ (fun v82 σ83=>
  ∃ t84:Bool,(v82=(.bool t84)/\bc (!t84) (J80 true σ83) (cl Tryz.prog (.func (.func 129) #[] #[]) #[.int .i64 i0,.int .i64 0,.int .i64 20] σ83 (fun v85 σ86=>
  ∃ t87:Bool,(v85=(.bool t87)/\bc (!t87) (J80 true σ86) (cl Tryz.prog (.func (.func 129) #[] #[]) #[.int .i64 h0,.int .i64 1,.int .i64 1000] σ86 (fun v88 σ89=>
  ∃ t90:Bool,(v88=(.bool t90)/\J80 (!t90) σ89))))))))))))
def Ah:OA:=⟨[],false,[]⟩
def Oy:MAn:=(.seq (.txt []) (.cut ⟨[true],1,[.slot 1 (.hb 0 0)],[]⟩ (.cut ⟨[true],1,[.slot 1 (.hb 0 0),.slot 34 (.sc (.bool))],[]⟩ (.txt [Ah,Ah,Ah,Ah,⟨[],true,[]⟩,Ah,Ah,Ah,Ah,Ah,⟨[],true,[]⟩,Ah,Ah,Ah,Ah,Ah,⟨[],true,[]⟩,Ah,Ah,Ah,Ah,Ah,⟨[],true,[]⟩]) (.cond (.seq (.txt []) .leaf) .leaf)) (.cut ⟨[true],1,[.slot 1 (.hb 0 0)],[]⟩ (.seq (.txt []) (.block (.loop ⟨[true],1,[.slot 1 (.hb 0 0),.slot 38 (.sc (.int .i64))],[(36,true),(37,true)]⟩ (.seq (.txt []) (.seq (.cond .leaf .leaf) (.cut ⟨[true],1,[.slot 1 (.hb 0 0)],[(36,true),(37,true),(38,true)]⟩ (.block (.seq (.txt []) (.cut ⟨[true,true],2,[.slot 1 (.hb 0 0),.slot 66 (.sc (.bool))],[(36,true),(37,true),(38,true)]⟩ (.txt [Ah,Ah,Ah,Ah,Ah,Ah,⟨[],true,[]⟩,Ah,Ah,Ah,Ah,Ah,⟨[],true,[]⟩,Ah,Ah,Ah,Ah,Ah,⟨[],true,[]⟩]) (.cond (.seq (.txt []) .leaf) .leaf)))) (.txt []))))))) (.cut ⟨[true],1,[],[]⟩ (.seq (.txt []) (.block (.loop ⟨[true],1,[.slot 1 (.hb 0 0),.slot 71 (.sc (.int .i64))],[(69,true),(70,true)]⟩ (.seq (.txt []) (.seq (.cond .leaf .leaf) (.cut ⟨[true],1,[.slot 1 (.hb 0 0)],[(69,true),(70,true),(71,true)]⟩ (.block (.seq (.txt []) (.cut ⟨[true,true],2,[.slot 1 (.hb 0 0),.slot 100 (.sc (.bool))],[(69,true),(70,true),(71,true)]⟩ (.txt [Ah,Ah,Ah,Ah,Ah,Ah,Ah,Ah,⟨[],true,[]⟩,Ah,Ah,Ah,Ah,Ah,⟨[],true,[]⟩,Ah,Ah,Ah,Ah,Ah,⟨[],true,[]⟩]) (.cond (.seq (.txt []) .leaf) .leaf)))) (.txt []))))))) (.seq (.txt []) .leaf)))))
theorem Og (σ:Hp) (b0:Option Addr) (a0 d0:Nat) (e0:Option Addr) (c0 f0:Nat) (g0 i0 h0:Int) (R:Value->Hp->Prop) (h:Ht σ b0 a0 d0 e0 c0 f0 g0 i0 h0 R):Ae Tryz.prog 70 #[(.agg #[.slice b0 a0 d0,.slice e0 c0 f0,.int .i64 g0,.int .i64 i0,.int .i64 h0])] σ R:=
 Ad CX Oy Tryz.func70 rfl (by kernel_rfl) (by kernel_rfl) (by kernel_rfl) h
theorem FI:Ao Tryz.prog 70=true:=by kernel_rfl
abbrev T0:FuncId:=251
def PE (σ:Hp) (b0:Option Addr) (a0 d0:Nat) (e0:Option Addr) (c0 f0:Nat) (g0 i0 h0 board:Int) (R:Value->Hp->Prop):Prop:=
 bx σ (.cells #[.int .i64 board] 3) (fun b1 σ2=>bx σ2 (.cells #[.slice b0 a0 d0,.slice e0 c0 f0,.int .i64 g0,.int .i64 i0,.int .i64 h0] 33) (fun b3 σ4=>
  rt σ4 R (.func (.func 277) #[] #[(.pointer (some ⟨b1,0,none⟩)),(.pointer (some ⟨b3,0,none⟩))])))
def Qw:MAn:=(.seq (.txt []) (.seq (.txt []) .leaf))
theorem Qx (σ:Hp) (b0:Option Addr) (a0 d0:Nat) (e0:Option Addr) (c0 f0:Nat) (g0 i0 h0 board:Int) (R:Value->Hp->Prop) (h:PE σ b0 a0 d0 e0 c0 f0 g0 i0 h0 board R):Ae Tryz.prog 251 #[(.agg #[.slice b0 a0 d0,.slice e0 c0 f0,.int .i64 g0,.int .i64 i0,.int .i64 h0]),.int .i64 board] σ R:=
 Ad CX Qw Tryz.func251 rfl (by kernel_rfl) (by kernel_rfl) (by kernel_rfl) h
theorem OG:Ao Tryz.prog 251=true:=by kernel_rfl
abbrev Ns:FuncId:=277
def I1 (σ:Hp) (yield:Value) (cap0 cap1:Option Addr) (R:Value->Hp->Prop):Prop:=
 cut (α:=Hp->Prop) (fun  σ2=>∀ _:Nat->Value,cl Tryz.prog yield #[(.int .i64 (-1))] σ2 (fun v4 σ5=>
  ∃ t6:Bool,(v4=(.bool t6)/\rt σ5 R (.tuple #[])))) (fun J3=>∃ I9:Nat->Hp->Prop,(∃ n100,I9 n100 σ) /\
  ∀ n10:Nat,∀ σ8:Hp,I9 n10 σ8->∀ _:Nat->Value,dr cap0 (fun b11 o12=>ldI σ8 .i64 b11 o12 (fun n13=>
  bc (decide ((0:Int)<=n13)) (dr cap0 (fun b14 o15=>ldI σ8 .i64 b14 o15 (fun n16=>cl Tryz.prog yield #[.int .i64 n16] σ8 (fun v17 σ18=>
  ∃ t19:Bool,(v17=(.bool t19)/\bc (!t19) (rt σ18 R (.tuple #[])) (dr cap1 (fun b20 o21=>ldS σ18 b20 o21 (fun A22 l22 _=>
  dr cap0 (fun b23 o24=>ldI σ18 .i64 b23 o24 (fun n25=>ix A22 l22 n25 4 (fun b26 a27=>ldI σ18 .i64 b26 a27 (fun n28=>
  dr cap0 (fun b29 o30=>st σ18 b29 o30 (.int .i64 n28) (fun σ31=>bk σ31 n10 (fun m32 σ33=>I9 m32 σ33))))))))))))))) (J3 σ8))))
def O0:MAn:=(.cut ⟨[],0,[],[(0,false)]⟩ (.block (.loop ⟨[],0,[],[(0,false),(1,true),(2,true)]⟩ (.seq (.seq (.txt []) (.cond .leaf .leaf)) (.seq (.block (.seq (.txt []) (.cond .leaf .leaf))) (.txt []))))) (.txt []))
theorem Pp (σ:Hp) (yield:Value) (cap0 cap1:Option Addr) (R:Value->Hp->Prop) (h:I1 σ yield cap0 cap1 R):Ae Tryz.prog 277 #[yield,.pointer cap0,.pointer cap1] σ R:=
 Ad CX O0 Tryz.func277 rfl (by kernel_rfl) (by kernel_rfl) (by kernel_rfl) h
theorem LZ:Ao Tryz.prog 277=true:=by kernel_rfl
abbrev M9:FuncId:=195
def Eu (σ:Hp) (n1 n2 n3:Int) (R:Value->Hp->Prop):Prop:=
 (0<=(0:Int)/\(0:Int)<((3:Nat):Int)/\(0<=(1:Int)/\(1:Int)<((3:Nat):Int)/\(0<=(2:Int) /\
  (2:Int)<((3:Nat):Int)/\rt σ R (.int .i64 (if n3>(if n2>n1 then n2 else n1) then n3 else (if n2>n1 then n2 else n1))))))
def KQ:MAn:=(.seq (.txt []) (.seq (.txt []) .leaf))
theorem Kr (σ:Hp) (n1 n2 n3:Int) (R:Value->Hp->Prop) (h:Eu σ n1 n2 n3 R):Ae Tryz.prog 195 #[(.agg #[.int .i64 n1,.int .i64 n2,.int .i64 n3])] σ R:=
 Ad CX KQ Tryz.func195 rfl (by kernel_rfl) (by kernel_rfl) (by kernel_rfl) h
theorem D2:Ao Tryz.prog 195=true:=by kernel_rfl
abbrev NK:FuncId:=194
def EU (σ:Hp) (b0:Option Addr) (a0 d0:Nat) (e0:Option Addr) (c0 f0:Nat) (g0 i0 h0 set:Int) (R:Value->Hp->Prop):Prop:=
 wk .i64 (((a0:Nat):Int)+1) (fun n1=>(0<=n1/\n1<=n1/\n1<=(1000000000:Int)/\cut (α:=Option Addr->Hp->Prop) (fun p5 σ3=>
  ∀ _:Nat->Value,dr p5 (fun b6 o7=>ldS σ3 b6 o7 (fun A8 l8 c8=>rt σ3 R (.slice A8 l8 c8)))) (fun J4=>
  ∃ I11:Nat->Option Addr->Option Addr->Int->Hp->Prop,(∃ n120,bx σ (.cells #[.slice b0 a0 d0,.slice e0 c0 f0,.int .i64 g0,.int .i64 i0,.int .i64 h0] 33) (fun b13 σ14=>
  exl 266 [.int .i64,.int .i64,.int .i64] (List.replicate (n1:Int).toNat (0,0,0):List (Int×Int×Int)) σ14 (fun A15 l15 c15 σ16=>
  bx σ16 (.cells #[.slice A15 l15 c15] 263) (fun b17 σ18=>I11 n120 (some ⟨b13,0,none⟩) (some ⟨b17,0,none⟩) 0 σ18)))) /\
  ∀ n12:Nat,∀ p19 p20:Option Addr,∀ n21:Int,∀ σ10:Hp,I11 n12 p19 p20 n21 σ10->∀ _:Nat->Value,bc (decide (n21<((c0:Nat):Int))) (cut (α:=Hp->Prop) (fun  σ23=>
  ∀ _:Nat->Value,wk .i64 (n21+1) (fun n25=>bk σ23 n12 (fun m26 σ27=>I11 m26 p19 p20 n25 σ27))) (fun J24=>
  ix e0 c0 n21 4 (fun b28 a29=>ldI σ10 .i64 b28 a29 (fun n30=>ldI σ10 .i64 b28 (a29+1) (fun n31=>
  ldI σ10 .i64 b28 (a29+2) (fun n32=>ldI σ10 .i64 b28 (a29+3) (fun n33=>(0<=n21/\wk .i64 (((BitVec.ofInt (IntKind.bits .i64) (Int.fdiv set (2^(min (n21:Int).toNat (IntKind.bits .i64)))) &&& BitVec.ofInt (IntKind.bits .i64) 1).toNat:Int)) (fun n34=>
  bc (decide (n34=0)) (J24 σ10) (dr p19 (fun b35 o36=>ldS σ10 b35 o36 (fun A37 l37 c37=>ldS σ10 b35 (o36+1) (fun A38 l38 c38=>
  ldI σ10 .i64 b35 (o36+2) (fun n39=>ldI σ10 .i64 b35 (o36+3) (fun n40=>ldI σ10 .i64 b35 (o36+4) (fun n41=>
  cl Tryz.prog (.func (.func 251) #[] #[]) #[(.agg #[.slice A37 l37 c37,.slice A38 l38 c38,.int .i64 n39,.int .i64 n40,.int .i64 n41]),.int .i64 n30] σ10 (fun v42 σ43=>
  ∃ v44:Value,(v42=v44/\bx σ43 (.cells #[.int .i64 n30,.int .i64 n31,.int .i64 n32,.int .i64 n33] 140) (fun b45 σ46=>
  Xi Tryz.prog v44 σ46 (fun l47 Rec48 ag49 σ50 R51=>∃ n55:Int,(ag49=#[.int .i64 n55]/\∀ _:Nat->Value,
  rgb l47 Rec48 σ50 (fun σ56=>cut (α:=Int->Hp->Prop) (fun n60 σ58=>∀ _:Nat->Value,dr p20 (fun b61 o62=>
  ldS σ58 b61 o62 (fun A63 l63 _=>ldI σ58 .i64 b45 1 (fun n64=>ix A63 l63 n60 3 (fun b65 a66=>ix (some ⟨b65,a66,none⟩) 3 n64 1 (fun b67 a68=>
  ldI σ58 .i64 b67 a68 (fun n69=>ldI σ58 .i64 b45 2 (fun n70=>wk .i64 (n69+n70) (fun n71=>ix A63 l63 n60 3 (fun b72 a73=>
  ix (some ⟨b72,a73,none⟩) 3 n64 1 (fun b74 a75=>st σ58 b74 a75 (.int .i64 n71) (fun σ76=>rgo l47 Rec48 R51 σ76)))))))))))) (fun J59=>
  bc (decide (n55=(-1))) (dr p19 (fun b77 o78=>ldS σ56 b77 o78 (fun _ l79 _=>J59 ((l79:Nat):Int) σ56))) (J59 n55 σ56))))) (fun p52 σ53=>
  aft p52 (J24 σ53) (rt σ53 R (.slice none 0 0)) (fun i=>exb i 2 (J24 σ53) (exb i 1 (J24 σ53) (exb i 0 (J4 p20 σ53) (False)))))))))))))))))))))))) (J4 p20 σ10))))
def AK:OA:=⟨[],false,[]⟩
def Lr:MAn:=(.seq (.txt []) (.seq (.txt []) (.cut ⟨[false,false,false],3,[.slot 5 (.sc (.ptr))],[]⟩ (.seq (.txt []) (.block (.loop ⟨[false,false,false],3,[.slot 2 (.sc (.ptr)),.slot 5 (.sc (.ptr)),.slot 17 (.sc (.int .i64))],[(1,true),(4,true),(15,true),(16,true)]⟩ (.seq (.txt []) (.seq (.cond .leaf .leaf) (.cut ⟨[false,false,false],3,[],[(1,true),(2,true),(4,true),(5,true),(15,true),(16,true),(17,true)]⟩ (.block (.seq (.txt []) (.seq (.seq (.txt []) (.cond .leaf .leaf)) (.seq (.txt []) (.block (.rng [.exp 7] [(2,true),(5,true),(7,true)] [3] (.txt []) (.block (.cut ⟨[],0,[.slot 8 (.sc (.int .i64))],[(5,true),(7,true)]⟩ (.seq (.txt []) (.cond (.txt []) .leaf)) (.plan [12] (tkVN2 12 0 AK (.alt 12 false AK .done .done))))))))))) (.txt []))))))) (.seq (.txt []) .leaf))))
theorem LN (σ:Hp) (b0:Option Addr) (a0 d0:Nat) (e0:Option Addr) (c0 f0:Nat) (g0 i0 h0 set:Int) (R:Value->Hp->Prop) (h:EU σ b0 a0 d0 e0 c0 f0 g0 i0 h0 set R):Ae Tryz.prog 194 #[(.agg #[.slice b0 a0 d0,.slice e0 c0 f0,.int .i64 g0,.int .i64 i0,.int .i64 h0]),.int .i64 set] σ R:=
 Ad CX Lr Tryz.func194 rfl (by kernel_rfl) (by kernel_rfl) (by kernel_rfl) h
theorem Js:Ao Tryz.prog 194=true:=by kernel_rfl
abbrev QE:FuncId:=196
def G9 (σ:Hp) (b0:Option Addr) (a0 _:Nat) (_:Option Addr) (_ _:Nat) (g0 _ _ b:Int) (R:Value->Hp->Prop):Prop:=
 cut (α:=Hp->Prop) (fun  σ2=>∀ _:Nat->Value,ix b0 a0 b 4 (fun b4 a5=>ldI σ2 .i64 b4 (a5+1) (fun n6=>
  rt σ2 R (.int .i64 n6)))) (fun J3=>cut (α:=Bool->Hp->Prop) (fun t10 σ8=>∀ _:Nat->Value,bc t10 (rt σ8 R (.int .i64 g0)) (J3 σ8)) (fun J9=>
  bc (decide (b=((a0:Nat):Int))) (J9 true σ) (J9 (decide (b=(-1))) σ)))
def Oq:MAn:=(.seq (.txt []) (.cut ⟨[true],1,[.slot 2 (.hb 0 0)],[(1,true)]⟩ (.cut ⟨[true],1,[.slot 2 (.hb 0 0),.slot 13 (.sc (.bool))],[(1,true)]⟩ (.txt [⟨[],false,[]⟩,⟨[],false,[]⟩,⟨[],false,[]⟩,⟨[],false,[]⟩,⟨[],false,[]⟩,⟨[],true,[]⟩]) (.cond (.seq (.txt []) .leaf) .leaf)) (.seq (.txt []) .leaf)))
theorem Oc (σ:Hp) (b0:Option Addr) (a0 d0:Nat) (e0:Option Addr) (c0 f0:Nat) (g0 i0 h0 b:Int) (R:Value->Hp->Prop) (h:G9 σ b0 a0 d0 e0 c0 f0 g0 i0 h0 b R):Ae Tryz.prog 196 #[(.agg #[.slice b0 a0 d0,.slice e0 c0 f0,.int .i64 g0,.int .i64 i0,.int .i64 h0]),.int .i64 b] σ R:=
 Ad CX Oq Tryz.func196 rfl (by kernel_rfl) (by kernel_rfl) (by kernel_rfl) h
theorem LL:Ao Tryz.prog 196=true:=by kernel_rfl
abbrev RE:FuncId:=193
def IS (σ:Hp) (_:Option Addr) (_ _:Nat) (_:Option Addr) (c0 _:Nat) (_ _ _ set:Int) (R:Value->Hp->Prop):Prop:=
 (0<=((c0:Nat):Int)/\wk .i64 (1*2^(min (((c0:Nat):Int):Int).toNat (IntKind.bits .i64))) (fun n1=>
  wk .i64 (n1-1) (fun n2=>cl Tryz.prog (.func (.func 129) #[] #[]) #[.int .i64 set,.int .i64 0,.int .i64 n2] σ (fun v3 σ4=>
  ∃ t5:Bool,(v3=(.bool t5)/\rt σ4 R (.bool t5))))))
def O9:MAn:=(.seq (.txt []) (.seq (.txt []) .leaf))
theorem O6 (σ:Hp) (b0:Option Addr) (a0 d0:Nat) (e0:Option Addr) (c0 f0:Nat) (g0 i0 h0 set:Int) (R:Value->Hp->Prop) (h:IS σ b0 a0 d0 e0 c0 f0 g0 i0 h0 set R):Ae Tryz.prog 193 #[(.agg #[.slice b0 a0 d0,.slice e0 c0 f0,.int .i64 g0,.int .i64 i0,.int .i64 h0]),.int .i64 set] σ R:=
 Ad CX O9 Tryz.func193 rfl (by kernel_rfl) (by kernel_rfl) (by kernel_rfl) h
theorem L8:Ao Tryz.prog 193=true:=by kernel_rfl
abbrev NS:FuncId:=132
def EM (σ:Hp) (b0:Option Addr) (a0 d0:Nat) (e0:Option Addr) (c0 f0:Nat) (g0 i0 h0 set:Int) (R:Value->Hp->Prop):Prop:=
 cl Tryz.prog (.func (.func 70) #[] #[]) #[(.agg #[.slice b0 a0 d0,.slice e0 c0 f0,.int .i64 g0,.int .i64 i0,.int .i64 h0])] σ (fun v1 σ2=>
  ∃ n3:Int,(v1=(.int .i64 n3)/\bc (!decide (n3=0)) (rt σ2 R (.int .i64 n3)) (cl Tryz.prog (.func (.func 193) #[] #[]) #[(.agg #[.slice b0 a0 d0,.slice e0 c0 f0,.int .i64 g0,.int .i64 i0,.int .i64 h0]),.int .i64 set] σ2 (fun v4 σ5=>
  ∃ t6:Bool,(v4=(.bool t6)/\bc (!t6) (rt σ5 R (.int .i64 1)) (rt σ5 R (.int .i64 0)))))))
def Lt:MAn:=(.seq (.txt []) (.seq (.seq (.txt []) (.seq (.txt []) (.cond (.seq (.txt []) .leaf) .leaf))) (.seq (.seq (.txt []) (.cond (.seq (.txt []) .leaf) .leaf)) (.seq (.txt []) .leaf))))
theorem LK (σ:Hp) (b0:Option Addr) (a0 d0:Nat) (e0:Option Addr) (c0 f0:Nat) (g0 i0 h0 set:Int) (R:Value->Hp->Prop) (h:EM σ b0 a0 d0 e0 c0 f0 g0 i0 h0 set R):Ae Tryz.prog 132 #[(.agg #[.slice b0 a0 d0,.slice e0 c0 f0,.int .i64 g0,.int .i64 i0,.int .i64 h0]),.int .i64 set] σ R:=
 Ad CX Lt Tryz.func132 rfl (by kernel_rfl) (by kernel_rfl) (by kernel_rfl) h
theorem I5:Ao Tryz.prog 132=true:=by kernel_rfl
abbrev RB:FuncId:=133
def ID (σ:Hp) (b0:Option Addr) (a0 d0:Nat) (e0:Option Addr) (c0 f0:Nat) (g0 i0 h0 set:Int) (R:Value->Hp->Prop):Prop:=
 cl Tryz.prog (.func (.func 194) #[] #[]) #[(.agg #[.slice b0 a0 d0,.slice e0 c0 f0,.int .i64 g0,.int .i64 i0,.int .i64 h0]),.int .i64 set] σ (fun v1 σ2=>
  ∃ A3:Option Addr,∃ l3 c3:Nat,(v1=(.slice A3 l3 c3)/\ix A3 l3 ((a0:Nat):Int) 3 (fun b4 a5=>
  ldI σ2 .i64 b4 a5 (fun n6=>ldI σ2 .i64 b4 (a5+1) (fun n7=>ldI σ2 .i64 b4 (a5+2) (fun n8=>cl Tryz.prog (.func (.func 195) #[] #[]) #[(.agg #[.int .i64 n6,.int .i64 n7,.int .i64 n8])] σ2 (fun v9 σ10=>
  ∃ n11:Int,(v9=(.int .i64 n11)/\(Hp.Sub σ2 σ10/\bc (decide (g0<n11)) (rt σ10 R (.tuple #[(.int .i64 (-1)),.bool true])) (cut (α:=Hp->Prop) (fun  σ13=>
  ∀ _:Nat->Value,rt σ13 R (.tuple #[.int .i64 0,.bool false])) (fun J14=>∃ I17:Nat->Int->Hp->Prop,(∃ n180,I17 n180 0 σ10) /\
  ∀ n18:Nat,∀ n19:Int,∀ σ16:Hp,I17 n18 n19 σ16->∀ _:Nat->Value,bc (decide (n19<((a0:Nat):Int))) (ix A3 l3 n19 3 (fun b20 a21=>
  ldI σ16 .i64 b20 a21 (fun n22=>ldI σ16 .i64 b20 (a21+1) (fun n23=>ldI σ16 .i64 b20 (a21+2) (fun n24=>
  cl Tryz.prog (.func (.func 195) #[] #[]) #[(.agg #[.int .i64 n22,.int .i64 n23,.int .i64 n24])] σ16 (fun v25 σ26=>
  ∃ n27:Int,(v25=(.int .i64 n27)/\(Hp.Sub σ16 σ26/\cl Tryz.prog (.func (.func 196) #[] #[]) #[(.agg #[.slice b0 a0 d0,.slice e0 c0 f0,.int .i64 g0,.int .i64 i0,.int .i64 h0]),.int .i64 n19] σ26 (fun v28 σ29=>
  ∃ n30:Int,(v28=(.int .i64 n30)/\bc (decide (n30<n27)) (rt σ29 R (.tuple #[.int .i64 n19,.bool true])) (wk .i64 (n19+1) (fun n31=>
  bk σ29 n18 (fun m32 σ33=>I17 m32 n31 σ33))))))))))))) (J14 σ16))))))))))))
def AI:OA:=⟨[],false,[]⟩
def Pn:MAn:=(.seq (.txt []) (.seq (.txt []) (.seq (.seq (.plan [] (tkVN2 6 0 AI (.take 7 AI (.take 8 AI (.alt 6 true AI (.take 9 AI .done) .done))))) (.cond (.seq (.txt []) .leaf) .leaf)) (.cut ⟨[true],1,[],[]⟩ (.seq (.txt []) (.block (.loop ⟨[true],1,[.slot 2 (.hb 0 0),.slot 24 (.sc (.int .i64))],[(6,true),(23,true)]⟩ (.seq (.txt []) (.seq (.cond .leaf .leaf) (.seq (.block (.seq (.txt []) (.seq (.plan [7] (tkVN2 4 0 AI (.take 5 AI (.take 6 AI (.alt 4 true AI (.alt 7 false AI (.take 8 AI .done) .done) .done))))) (.cond (.seq (.txt []) .leaf) .leaf)))) (.txt []))))))) (.seq (.txt []) .leaf)))))
theorem Pm (σ:Hp) (b0:Option Addr) (a0 d0:Nat) (e0:Option Addr) (c0 f0:Nat) (g0 i0 h0 set:Int) (R:Value->Hp->Prop) (h:ID σ b0 a0 d0 e0 c0 f0 g0 i0 h0 set R):Ae Tryz.prog 133 #[(.agg #[.slice b0 a0 d0,.slice e0 c0 f0,.int .i64 g0,.int .i64 i0,.int .i64 h0]),.int .i64 set] σ R:=
 Ad CX Pn Tryz.func133 rfl (by kernel_rfl) (by kernel_rfl) (by kernel_rfl) h
theorem Mj:Ao Tryz.prog 133=true:=by kernel_rfl
abbrev RT:FuncId:=75
def Iz (σ:Hp) (b0:Option Addr) (a0 d0:Nat) (e0:Option Addr) (c0 f0:Nat) (g0 i0 h0 set:Int) (R:Value->Hp->Prop):Prop:=
 cl Tryz.prog (.func (.func 132) #[] #[]) #[(.agg #[.slice b0 a0 d0,.slice e0 c0 f0,.int .i64 g0,.int .i64 i0,.int .i64 h0]),.int .i64 set] σ (fun v1 σ2=>
  ∃ n3:Int,(v1=(.int .i64 n3)/\bc (!decide (n3=0)) (rt σ2 R (.tuple #[.int .i64 0,.bool false,.int .i64 n3])) (cl Tryz.prog (.func (.func 133) #[] #[]) #[(.agg #[.slice b0 a0 d0,.slice e0 c0 f0,.int .i64 g0,.int .i64 i0,.int .i64 h0]),.int .i64 set] σ2 (fun v4 σ5=>
  ∃ n6:Int,∃ t7:Bool,(v4=(.tuple #[.int .i64 n6,.bool t7])/\rt σ5 R (.tuple #[.int .i64 n6,(.bool (!t7)),.int .i64 0]))))))
def Pr:MAn:=(.seq (.txt []) (.seq (.seq (.txt []) (.seq (.txt []) (.cond (.seq (.txt []) .leaf) .leaf))) (.seq (.txt []) (.seq (.txt []) .leaf))))
theorem O3 (σ:Hp) (b0:Option Addr) (a0 d0:Nat) (e0:Option Addr) (c0 f0:Nat) (g0 i0 h0 set:Int) (R:Value->Hp->Prop) (h:Iz σ b0 a0 d0 e0 c0 f0 g0 i0 h0 set R):Ae Tryz.prog 75 #[(.agg #[.slice b0 a0 d0,.slice e0 c0 f0,.int .i64 g0,.int .i64 i0,.int .i64 h0]),.int .i64 set] σ R:=
 Ad CX Pr Tryz.func75 rfl (by kernel_rfl) (by kernel_rfl) (by kernel_rfl) h
theorem L9:Ao Tryz.prog 75=true:=by kernel_rfl
end Go.Proofs.YtoelhdjloaknbaaGreat
