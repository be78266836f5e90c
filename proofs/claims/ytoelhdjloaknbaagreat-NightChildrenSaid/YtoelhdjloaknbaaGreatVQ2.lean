/- Trimmed by wip/trim.py to what this claim rests on. -/
import Derived.Test.YtoelhdjloaknbaaGreatVB11
namespace Go.Proofs.YtoelhdjloaknbaaGreat
set_option maxRecDepth 100000
open Go.RowKit
def tkVQ2:Nat->Nat->OA->MPlan->MPlan
 |0,_,_,x=>x
 |n+1,i,a,x=>.take i a (tkVQ2 n (i+1) a x)
theorem Ew:Tryz.prog.follows .mixedOrders=true:=by kernel_rfl
abbrev M3:FuncId:=105
def Ji (σ:Hp) (c0:Option Addr) (a0 _:Nat) (e0:Int) (l_A:Option Addr) (l_n _:Nat) (R:Value->Hp->Prop):Prop:=
 cut (α:=Int->List (Option Addr)->Option Addr->Nat->Nat->Int->Option Addr->Nat->Nat->Hp->Prop) (fun n4 xs5 A6 l6 c6 n7 A8 l8 c8 σ2=>
  ∀ _:Nat->Value,cut (α:=Int->Option Addr->Nat->Nat->Int->Option Addr->Nat->Nat->Hp->Prop) (fun n12 A13 l13 c13 _ A15 l15 c15 σ10=>
  ∀ _:Nat->Value,cut (α:=Option Addr->Hp->Prop) (fun p19 σ17=>∀ _:Nat->Value,dr p19 (fun b20 o21=>
  ldS σ17 b20 (o21+4) (fun A22 l22 c22=>cl Tryz.prog (.func (.func 170) #[] #[]) #[.slice A22 l22 c22,(.func (.func 171) #[] #[])] σ17 (fun _ σ24=>
  rt σ24 R (.pointer p19))))) (fun J18=>∃ I27:Nat->Option Addr->Hp->Prop,(∃ n280,exl 168 [.ptr] xs5 σ10 (fun A29 l29 c29 σ30=>
  bx σ30 (.cells #[.int .i64 n12,.slice A29 l29 c29,.slice A13 l13 c13,.int .i64 0,.slice A15 l15 c15] 186) (fun b31 σ32=>
  I27 n280 (some ⟨b31,0,none⟩) σ32)))/\∀ n28:Nat,∀ p33:Option Addr,∀ σ26:Hp,I27 n28 p33 σ26->∀ _:Nat->Value,dr p33 (fun b34 o35=>
  ldI σ26 .i64 b34 (o35+3) (fun n36=>bc (decide (n36<=4000)) (cut (α:=Hp->Prop) (fun  σ38=>∀ _:Nat->Value,
  dr p33 (fun b40 o41=>ldI σ38 .i64 b40 (o41+3) (fun n42=>wk .i64 (n42+1) (fun n43=>dr p33 (fun b44 o45=>
  st σ38 b44 (o45+3) (.int .i64 n43) (fun σ46=>bk σ46 n28 (fun m47 σ48=>I27 m47 p33 σ48))))))) (fun J39=>
  cl Tryz.prog (.func (.func 166) #[] #[]) #[.pointer p33] σ26 (fun _ σ50=>cl Tryz.prog (.func (.func 167) #[] #[]) #[.pointer p33] σ50 (fun _ σ52=>
  cl Tryz.prog (.func (.func 168) #[] #[]) #[.pointer p33] σ52 (fun _ σ54=>cut (α:=Hp->Prop) (fun  σ56=>
  ∀ _:Nat->Value,dr p33 (fun b58 o59=>ldS σ56 b58 (o59+1) (fun A60 l60 _=>∃ I63:Nat->Int->Hp->Prop,(∃ n640,I63 n640 0 σ56) /\
  ∀ n64:Nat,∀ n65:Int,∀ σ62:Hp,I63 n64 n65 σ62->∀ _:Nat->Value,bc (decide (n65<((l60:Nat):Int))) (cut (α:=Hp->Prop) (fun  σ67=>
  ∀ _:Nat->Value,wk .i64 (n65+1) (fun n69=>bk σ67 n64 (fun m70 σ71=>I63 m70 n69 σ71))) (fun J68=>
  ix A60 l60 n65 1 (fun b72 a73=>ldP σ62 b72 a73 (fun p74=>cut (α:=Int->Hp->Prop) (fun n78 σ76=>
  ∀ _:Nat->Value,dr p74 (fun b79 o80=>ldI σ76 .i64 b79 (o80+10) (fun n81=>dr p74 (fun b82 o83=>
  st σ76 b82 (o83+10) (.int .i64 (if n78>n81 then n78 else n81)) (fun σ84=>J68 σ84))))) (fun J77=>
  dr p74 (fun b85 o86=>ldS σ62 b85 (o86+8) (fun A87 l87 _=>∃ I90:Nat->Int->Int->Hp->Prop,(∃ n910,I90 n910 0 0 σ62) /\
  ∀ n91:Nat,∀ n92 n93:Int,∀ σ89:Hp,I90 n91 n92 n93 σ89->∀ _:Nat->Value,bc (decide (n93<((l87:Nat):Int))) (ix A87 l87 n93 2 (fun b94 a95=>
  ldI σ89 .i64 b94 a95 (fun n96=>ldI σ89 .i64 b94 (a95+1) (fun _=>dr p33 (fun b98 o99=>ldS σ89 b98 (o99+2) (fun A100 l100 _=>
  ix A100 l100 n96 1 (fun b101 a102=>ldP σ89 b101 a102 (fun p103=>dr p103 (fun b104 o105=>ldI σ89 .i64 b104 (o105+1) (fun n106=>
  wk .i64 (n92+n106) (fun n107=>wk .i64 (n93+1) (fun n108=>bk σ89 n91 (fun m109 σ110=>I90 m109 n107 n108 σ110))))))))))))) (J77 n92 σ89)))))))) (J39 σ62)))) (fun J57=>
  dr p33 (fun b111 o112=>ldS σ54 b111 (o112+1) (fun _ l113 _=>∃ I116:Nat->Int->Hp->Prop,(∃ n1170,I116 n1170 0 σ54) /\
  ∀ n117:Nat,∀ n118:Int,∀ σ115:Hp,I116 n117 n118 σ115->∀ _:Nat->Value,bc (decide (n118<((l113:Nat):Int))) (cl Tryz.prog (.func (.func 169) #[] #[]) #[.pointer p33,.int .i64 n118] σ115 (fun _ σ120=>
  wk .i64 (n118+1) (fun n121=>bk σ120 n117 (fun m122 σ123=>I116 m122 n121 σ123)))) (J57 σ115))))))))) (J18 p33 σ26))))) (fun J11=>
  ∃ I126:Nat->Int->Int->Option Addr->Nat->Nat->Int->Option Addr->Nat->Nat->Hp->Prop,(∃ n1270,I126 n1270 0 n4 A6 l6 c6 n7 A8 l8 c8 σ2) /\
  ∀ n127:Nat,∀ n128 n129:Int,∀ A130:Option Addr,∀ l130 c130:Nat,∀ n131:Int,∀ A132:Option Addr,∀ l132 c132:Nat,∀ σ125:Hp,I126 n127 n128 n129 A130 l130 c130 n131 A132 l132 c132 σ125->∀ _:Nat->Value,bc (decide (n128<((l_n:Nat):Int))) (ix l_A l_n n128 5 (fun b133 a134=>
  ldI σ125 .i64 b133 a134 (fun n135=>ldI σ125 .i64 b133 (a134+1) (fun n136=>ldI σ125 .i64 b133 (a134+2) (fun n137=>
  ldS σ125 b133 (a134+3) (fun A138 l138 c138=>ldI σ125 .i64 b133 (a134+4) (fun n139=>bx σ125 (.cells #[.int .i64 n135,.int .i64 n136,.int .i64 n137,.slice A138 l138 c138,.int .i64 n139,.int .i64 0,.int .i64 n137,(.int .i64 (-1)),(.int .i64 (-1))] 165) (fun b140 σ141=>
  bx σ141 (.cells #[(.pointer (some ⟨b140,0,none⟩))] 162) (fun b142 σ143=>(Hp.Sub σ141 σ143/\adp 162 [.ptr] A130 l130 c130 σ143 (fun (xs144:List (Option Addr)) σ145=>
  ∃ ys146:List (Option Addr),RdS [.ptr] σ145 (some ⟨b142,0,none⟩) 1 ys146/\B0 (List.length xs144+List.length ys146) (wk .i64 (n128+1) (fun n147=>
  bk σ145 n127 (fun m148 σ149=>exl 162 [.ptr] (xs144++ys146) σ149 (fun A150 l150 c150 σ151=>I126 m148 n147 n129 A150 l150 c150 n131 A132 l132 c132 σ151))))))))))))))) (J11 n129 A130 l130 c130 n131 A132 l132 c132 σ125))) (fun J3=>
  ∃ I154:Nat->Int->Int->List (Option Addr)->Option Addr->Nat->Nat->Int->Option Addr->Nat->Nat->Hp->Prop,(∃ n1550,adp 168 [.ptr] none 0 0 σ (fun (xs156:List (Option Addr)) σ157=>
  I154 n1550 0 e0 xs156 none 0 0 0 none 0 0 σ157))/\∀ n155:Nat,∀ n158 n159:Int,∀ xs160:List (Option Addr),∀ A161:Option Addr,∀ l161 c161:Nat,∀ n162:Int,∀ A163:Option Addr,∀ l163 c163:Nat,∀ σ153:Hp,I154 n155 n158 n159 xs160 A161 l161 c161 n162 A163 l163 c163 σ153->∀ _:Nat->Value,bc (decide (n158<((a0:Nat):Int))) (ix c0 a0 n158 5 (fun b164 a165=>
  ldI σ153 .i64 b164 a165 (fun n166=>ldI σ153 .i64 b164 (a165+1) (fun n167=>ldI σ153 .i64 b164 (a165+2) (fun n168=>
  ldI σ153 .i64 b164 (a165+3) (fun n169=>ldB σ153 b164 (a165+4) (fun t170=>bx σ153 (.cells #[.int .i64 n166,.int .i64 n167,.int .i64 n168,.int .i64 n169,.bool t170,.slice none 0 0,.int .i64 0,(.int .i64 (-1)),.slice none 0 0,.int .i64 0,.int .i64 0] 172) (fun b171 σ172=>
  bx σ172 (.cells #[(.pointer (some ⟨b171,0,none⟩))] 168) (fun b173 σ174=>(Hp.Sub σ172 σ174/\∃ ys175:List (Option Addr),RdS [.ptr] σ174 (some ⟨b173,0,none⟩) 1 ys175 /\
  B0 (List.length xs160+List.length ys175) (wk .i64 (n158+1) (fun n176=>bk σ174 n155 (fun m177 σ178=>
  I154 m177 n176 n159 (xs160++ys175) A161 l161 c161 n162 A163 l163 c163 σ178))))))))))))) (J3 n159 xs160 A161 l161 c161 n162 A163 l163 c163 σ153))
def Am:OA:=⟨[],false,[]⟩
def OZ:MAn:=(.seq (.txt []) (.seq (.txt []) (.cut ⟨[true,false],3,[.slot 5 (.hb 1 0),.modb 1 186 [.sc (.int .i64),.lst 2 168 [.ptr],.sc (.slc),.sc (.int .i64),.sc (.slc)]],[(1,true)]⟩ (.seq (.txt []) (.block (.loop ⟨[true,false],3,[.slot 5 (.hb 1 0),.slot 23 (.sc (.int .i64)),.modb 1 186 [.sc (.int .i64),.lst 2 168 [.ptr],.sc (.slc),.sc (.int .i64),.sc (.slc)]],[(1,true),(21,true),(22,true)]⟩ (.seq (.txt []) (.seq (.cond .leaf .leaf) (.seq (.block (.seq (.txt []) (.plan [9,12] (tkVQ2 7 0 Am (.alt 7 true Am (.alt 8 true Am (.alt 9 false Am (.take 10 Am (.take 11 Am (.alt 12 false Am .done .done))) .done) .done) .done))))) (.txt []))))))) (.cut ⟨[true,false,true],3,[.slot 5 (.hb 1 0),.modb 1 186 [.sc (.int .i64),.hl 2 0,.sc (.slc),.sc (.int .i64),.sc (.slc)]],[]⟩ (.seq (.txt []) (.block (.loop ⟨[true,false,true],3,[.slot 5 (.hb 1 0),.slot 42 (.sc (.int .i64)),.modb 1 186 [.sc (.int .i64),.hl 2 0,.sc (.slc),.sc (.int .i64),.sc (.slc)]],[(40,true),(41,true)]⟩ (.seq (.txt []) (.seq (.cond .leaf .leaf) (.seq (.block (.seq (.txt []) (.plan [11,14] (tkVQ2 9 0 Am (.alt 9 true Am (.alt 10 true Am (.alt 11 false Am (.take 12 Am (.take 13 Am (.alt 14 false Am .done .done))) .done) .done) .done))))) (.txt []))))))) (.cut ⟨[true,false,false],3,[.slot 5 (.sc (.ptr))],[]⟩ (.seq (.txt []) (.block (.loop ⟨[true,false,false],3,[.slot 5 (.sc (.ptr))],[]⟩ (.seq (.seq (.txt []) (.cond .leaf .leaf)) (.cut ⟨[true,false,false],3,[],[(5,true)]⟩ (.block (.seq (.txt []) (.seq (.txt []) (.seq (.txt []) (.cut ⟨[true,false,false],3,[],[(5,true)]⟩ (.seq (.txt []) (.block (.loop ⟨[true,false,false],3,[.slot 87 (.sc (.int .i64))],[(5,true),(86,true)]⟩ (.seq (.txt []) (.seq (.cond .leaf .leaf) (.seq (.block (.seq (.txt []) (.txt []))) (.txt []))))))) (.seq (.txt []) (.block (.loop ⟨[true,false,false],3,[.slot 99 (.sc (.int .i64))],[(5,true),(97,true),(98,true)]⟩ (.seq (.txt []) (.seq (.cond .leaf .leaf) (.cut ⟨[true,false,false],3,[],[(5,true),(97,true),(98,true),(99,true)]⟩ (.block (.seq (.txt []) (.seq (.txt []) (.cut ⟨[true,false,false],3,[.slot 13 (.sc (.int .i64))],[(5,true),(12,true),(97,true),(98,true),(99,true)]⟩ (.seq (.txt []) (.block (.loop ⟨[true,false,false],3,[.slot 13 (.sc (.int .i64)),.slot 108 (.sc (.int .i64))],[(5,true),(12,true),(97,true),(98,true),(99,true),(106,true),(107,true)]⟩ (.seq (.txt []) (.seq (.cond .leaf .leaf) (.seq (.block (.seq (.txt []) (.plan [] (tkVQ2 15 0 Am .done)))) (.txt []))))))) (.txt []))))) (.txt [])))))))))))) (.txt [])))))) (.seq (.txt []) (.seq (.txt []) .leaf)))))))
theorem O5 (σ:Hp) (c0:Option Addr) (a0 f0:Nat) (e0:Int) (l_A:Option Addr) (l_n l_c:Nat) (R:Value->Hp->Prop) (h:Ji σ c0 a0 f0 e0 l_A l_n l_c R):Ae Tryz.prog 105 #[(.agg #[.slice c0 a0 f0,.int .i64 e0]),.slice l_A l_n l_c] σ R:=
 Ad Ew OZ Tryz.func105 rfl (by kernel_rfl) (by kernel_rfl) (by kernel_rfl) h
theorem Mf:Ao Tryz.prog 105=true:=by kernel_rfl
abbrev G5:FuncId:=166
def Ei (σ:Hp) (n:Option Addr) (R:Value->Hp->Prop):Prop:=
 cut (α:=Option Addr->Nat->Nat->Hp->Prop) (fun A4 l4 c4 σ2=>∀ _:Nat->Value,cl Tryz.prog (.func (.func 49) #[] #[]) #[.slice A4 l4 c4] σ2 (fun _ σ6=>
  ∃ I10:Nat->Int->Hp->Prop,(∃ n110,I10 n110 0 σ6)/\∀ n11:Nat,∀ n12:Int,∀ σ9:Hp,I10 n11 n12 σ9->∀ _:Nat->Value,bc (decide (n12<((l4:Nat):Int))) (ix A4 l4 n12 1 (fun b13 a14=>
  ldI σ9 .i64 b13 a14 (fun n15=>cl Tryz.prog (.func (.func 222) #[] #[]) #[.pointer n,.int .i64 n15] σ9 (fun _ σ17=>
  wk .i64 (n12+1) (fun n18=>bk σ17 n11 (fun m19 σ20=>I10 m19 n18 σ20)))))) (rt σ9 R (.tuple #[])))) (fun J3=>
  dr n (fun b21 o22=>ldS σ b21 (o22+1) (fun A23 l23 _=>∃ I26:Nat->Option Addr->Nat->Nat->Int->Hp->Prop,(∃ n270,I26 n270 none 0 0 0 σ) /\
  ∀ n27:Nat,∀ A28:Option Addr,∀ l28 c28:Nat,∀ n29:Int,∀ σ25:Hp,I26 n27 A28 l28 c28 n29 σ25->∀ _:Nat->Value,bc (decide (n29<((l23:Nat):Int))) (cut (α:=Option Addr->Nat->Nat->Hp->Prop) (fun A33 l33 c33 σ31=>
  ∀ _:Nat->Value,wk .i64 (n29+1) (fun n34=>bk σ31 n27 (fun m35 σ36=>I26 m35 A33 l33 c33 n34 σ36))) (fun J32=>
  ix A23 l23 n29 1 (fun b37 a38=>ldP σ25 b37 a38 (fun p39=>cut (α:=Bool->Hp->Prop) (fun t43 σ41=>
  ∀ _:Nat->Value,bc t43 (dr p39 (fun b44 o45=>ldS σ41 b44 (o45+5) (fun A46 l46 _=>adp 3 [.int .i64] A28 l28 c28 σ41 (fun (xs47:List Int) σ48=>
  ∃ ys49:List Int,RdS [.int .i64] σ48 A46 l46 ys49/\B0 (List.length xs47+List.length ys49) (dr n (fun b50 o51=>
  ldI σ48 .i64 b50 (o51+3) (fun n52=>dr p39 (fun b53 o54=>st σ48 b53 (o54+5) (.slice none 0 0) (fun σ55=>
  dr p39 (fun b56 o57=>st σ55 b56 (o57+7) (.int .i64 n52) (fun σ58=>exl 3 [.int .i64] (xs47++ys49) σ58 (fun A59 l59 c59 σ60=>
  J32 A59 l59 c59 σ60)))))))))))) (J32 A28 l28 c28 σ41)) (fun J42=>dr p39 (fun b61 o62=>ldS σ25 b61 (o62+5) (fun _ l63 _=>
  bc (decide ((0:Int)<((l63:Nat):Int))) (dr p39 (fun b64 o65=>ldI σ25 .i64 b64 (o65+6) (fun n66=>
  dr p39 (fun b67 o68=>ldI σ25 .i64 b67 (o68+2) (fun n69=>wk .i64 (n66+n69) (fun n70=>dr n (fun b71 o72=>
  ldI σ25 .i64 b71 (o72+3) (fun n73=>J42 (decide (n70=n73)) σ25)))))))) (J42 false σ25)))))))) (J3 A28 l28 c28 σ25))))
def Aw:OA:=⟨[],false,[]⟩
def KC:MAn:=(.seq (.txt []) (.cut ⟨[],0,[.slot 2 (.sc (.slc))],[(0,true)]⟩ (.seq (.txt []) (.block (.loop ⟨[],0,[.slot 2 (.sc (.slc)),.slot 12 (.sc (.int .i64))],[(0,true),(10,true),(11,true)]⟩ (.seq (.txt []) (.seq (.cond .leaf .leaf) (.cut ⟨[],0,[.slot 2 (.sc (.slc))],[(0,true),(10,true),(11,true),(12,true)]⟩ (.block (.seq (.txt []) (.cut ⟨[],0,[.slot 38 (.sc (.bool))],[(0,true),(2,true),(4,true),(10,true),(11,true),(12,true)]⟩ (.plan [] (tkVQ2 6 0 Aw (.take 6 ⟨[],true,[]⟩ (tkVQ2 16 7 Aw .done)))) (.cond (.seq (.txt []) (.txt [])) .leaf)))) (.txt []))))))) (.seq (.txt []) (.seq (.txt []) (.block (.loop ⟨[],0,[.slot 60 (.sc (.int .i64))],[(0,true),(58,true),(59,true)]⟩ (.seq (.txt []) (.seq (.cond .leaf .leaf) (.seq (.block (.seq (.txt []) (.txt []))) (.txt []))))))))))
theorem Ku (σ:Hp) (n:Option Addr) (R:Value->Hp->Prop) (h:Ei σ n R):Ae Tryz.prog 166 #[.pointer n] σ R:=
 Ad Ew KC Tryz.func166 rfl (by kernel_rfl) (by kernel_rfl) (by kernel_rfl) h
theorem Iq:Ao Tryz.prog 166=true:=by kernel_rfl
abbrev Gb:FuncId:=167
def DN (σ:Hp) (n:Option Addr) (R:Value->Hp->Prop):Prop:=
 cut (α:=Hp->Prop) (fun  σ2=>∀ _:Nat->Value,dr n (fun b4 o5=>ldS σ2 b4 (o5+2) (fun A6 l6 _=>
  ∃ I10:Nat->Int->Hp->Prop,(∃ n110,I10 n110 0 σ2)/\∀ n11:Nat,∀ n12:Int,∀ σ9:Hp,I10 n11 n12 σ9->∀ _:Nat->Value,bc (decide (n12<((l6:Nat):Int))) (cut (α:=Hp->Prop) (fun  σ14=>
  ∀ _:Nat->Value,wk .i64 (n12+1) (fun n16=>bk σ14 n11 (fun m17 σ18=>I10 m17 n16 σ18))) (fun J15=>
  ix A6 l6 n12 1 (fun b19 a20=>ldP σ9 b19 a20 (fun p21=>dr p21 (fun b22 o23=>ldI σ9 .i64 b22 (o23+7) (fun n24=>
  dr n (fun b25 o26=>ldI σ9 .i64 b25 (o26+3) (fun n27=>bc (decide (n24=n27)) (cl Tryz.prog (.func (.func 223) #[] #[]) #[.pointer n,.int .i64 n12] σ9 (fun _ σ29=>
  J15 σ29)) (J15 σ9))))))))) (rt σ9 R (.tuple #[]))))) (fun J3=>dr n (fun b30 o31=>ldS σ b30 (o31+2) (fun A32 l32 _=>
  ∃ I35:Nat->Int->Hp->Prop,(∃ n360,I35 n360 0 σ)/\∀ n36:Nat,∀ n37:Int,∀ σ34:Hp,I35 n36 n37 σ34->∀ _:Nat->Value,bc (decide (n37<((l32:Nat):Int))) (cut (α:=Hp->Prop) (fun  σ39=>
  ∀ _:Nat->Value,wk .i64 (n37+1) (fun n41=>bk σ39 n36 (fun m42 σ43=>I35 m42 n41 σ43))) (fun J40=>
  ix A32 l32 n37 1 (fun b44 a45=>ldP σ34 b44 a45 (fun p46=>dr p46 (fun b47 o48=>ldI σ34 .i64 b47 o48 (fun n49=>
  dr n (fun b50 o51=>ldI σ34 .i64 b50 (o51+3) (fun n52=>bc (decide (n49=n52)) (cl Tryz.prog (.func (.func 222) #[] #[]) #[.pointer n,.int .i64 n37] σ34 (fun _ σ54=>
  J40 σ54)) (J40 σ34))))))))) (J3 σ34))))
def Ay:OA:=⟨[],false,[]⟩
def JG:MAn:=(.cut ⟨[],0,[],[(0,true)]⟩ (.seq (.txt []) (.block (.loop ⟨[],0,[.slot 11 (.sc (.int .i64))],[(0,true),(9,true),(10,true)]⟩ (.seq (.txt []) (.seq (.cond .leaf .leaf) (.cut ⟨[],0,[],[(0,true),(9,true),(10,true),(11,true)]⟩ (.block (.seq (.txt []) (.seq (.plan [] (tkVQ2 10 0 Ay .done)) (.cond (.txt []) .leaf)))) (.txt []))))))) (.seq (.txt []) (.block (.loop ⟨[],0,[.slot 35 (.sc (.int .i64))],[(0,true),(33,true),(34,true)]⟩ (.seq (.txt []) (.seq (.cond .leaf .leaf) (.cut ⟨[],0,[],[(0,true),(33,true),(34,true),(35,true)]⟩ (.block (.seq (.txt []) (.seq (.plan [] (tkVQ2 9 0 Ay .done)) (.cond (.txt []) .leaf)))) (.txt []))))))))
theorem JW (σ:Hp) (n:Option Addr) (R:Value->Hp->Prop) (h:DN σ n R):Ae Tryz.prog 167 #[.pointer n] σ R:=
 Ad Ew JG Tryz.func167 rfl (by kernel_rfl) (by kernel_rfl) (by kernel_rfl) h
theorem Hy:Ao Tryz.prog 167=true:=by kernel_rfl
abbrev FH:FuncId:=168
def Dc (σ:Hp) (n:Option Addr) (R:Value->Hp->Prop):Prop:=
 cut (α:=Option Addr->Option Addr->Hp->Prop) (fun p4 p5 σ2=>∀ _:Nat->Value,dr p5 (fun b6 o7=>
  ldS σ2 b6 o7 (fun A8 l8 c8=>cl Tryz.prog (.func (.func 226) #[] #[]) #[.slice A8 l8 c8,(.func (.func 227) #[] #[])] σ2 (fun _ σ10=>
  dr p5 (fun b11 o12=>ldS σ10 b11 o12 (fun A13 l13 _=>∃ I17:Nat->Int->Hp->Prop,(∃ n180,I17 n180 0 σ10) /\
  ∀ n18:Nat,∀ n19:Int,∀ σ16:Hp,I17 n18 n19 σ16->∀ _:Nat->Value,bc (decide (n19<((l13:Nat):Int))) (ix A13 l13 n19 2 (fun b20 a21=>
  ldI σ16 .i64 b20 a21 (fun n22=>ldI σ16 .i64 b20 (a21+1) (fun n23=>dr p4 (fun b24 o25=>ldP σ16 b24 o25 (fun p26=>
  cl Tryz.prog (.func (.func 228) #[] #[]) #[.pointer p26,(.agg #[.int .i64 n22,.int .i64 n23]),.bool false] σ16 (fun _ σ28=>
  dr p4 (fun b29 o30=>ldP σ28 b29 o30 (fun p31=>cl Tryz.prog (.func (.func 222) #[] #[]) #[.pointer p31,.int .i64 n22] σ28 (fun _ σ33=>
  wk .i64 (n19+1) (fun n34=>bk σ33 n18 (fun m35 σ36=>I17 m35 n34 σ36)))))))))))) (rt σ16 R (.tuple #[])))))))) (fun J3=>
  dr n (fun b37 o38=>ldS σ b37 (o38+1) (fun A39 l39 _=>∃ I42:Nat->Option Addr->Option Addr->Int->Hp->Prop,(∃ n430,bx σ (.cells #[.pointer n] 187) (fun b44 σ45=>
  bx σ45 (.cells #[.slice none 0 0] 170) (fun b46 σ47=>I42 n430 (some ⟨b44,0,none⟩) (some ⟨b46,0,none⟩) 0 σ47))) /\
  ∀ n43:Nat,∀ p48 p49:Option Addr,∀ n50:Int,∀ σ41:Hp,I42 n43 p48 p49 n50 σ41->∀ _:Nat->Value,bc (decide (n50<((l39:Nat):Int))) (ix A39 l39 n50 1 (fun b51 a52=>
  ldP σ41 b51 a52 (fun p53=>dr p53 (fun b54 o55=>ldS σ41 b54 (o55+8) (fun A56 l56 c56=>cl Tryz.prog (.func (.func 224) #[] #[]) #[.slice A56 l56 c56,(.func (.func 225) #[] #[.pointer p48,.pointer p49])] σ41 (fun v57 σ58=>
  ∃ A59:Option Addr,∃ l59 c59:Nat,(v57=(.slice A59 l59 c59)/\dr p53 (fun b60 o61=>st σ58 b60 (o61+8) (.slice A59 l59 c59) (fun σ62=>
  wk .i64 (n50+1) (fun n63=>bk σ62 n43 (fun m64 σ65=>I42 m64 p48 p49 n63 σ65))))))))))) (J3 p48 p49 σ41))))
def IK:MAn:=(.seq (.txt []) (.seq (.txt []) (.cut ⟨[false,false],2,[.slot 1 (.sc (.ptr)),.slot 2 (.sc (.ptr))],[]⟩ (.seq (.txt []) (.block (.loop ⟨[false,false],2,[.slot 1 (.sc (.ptr)),.slot 2 (.sc (.ptr)),.slot 12 (.sc (.int .i64))],[(10,true),(11,true)]⟩ (.seq (.txt []) (.seq (.cond .leaf .leaf) (.seq (.block (.seq (.txt []) (.txt []))) (.txt []))))))) (.seq (.txt []) (.seq (.txt []) (.block (.loop ⟨[false,false],2,[.slot 30 (.sc (.int .i64))],[(1,true),(28,true),(29,true)]⟩ (.seq (.txt []) (.seq (.cond .leaf .leaf) (.seq (.block (.seq (.txt []) (.seq (.txt []) (.txt [])))) (.txt [])))))))))))
theorem Jc (σ:Hp) (n:Option Addr) (R:Value->Hp->Prop) (h:Dc σ n R):Ae Tryz.prog 168 #[.pointer n] σ R:=
 Ad Ew IK Tryz.func168 rfl (by kernel_rfl) (by kernel_rfl) (by kernel_rfl) h
theorem GT:Ao Tryz.prog 168=true:=by kernel_rfl
abbrev FL:FuncId:=169
def Dl (σ:Hp) (n:Option Addr) (i:Int) (R:Value->Hp->Prop):Prop:=
 dr n (fun b1 o2=>ldS σ b1 (o2+1) (fun A3 l3 _=>ix A3 l3 i 1 (fun b4 a5=>ldP σ b4 a5 (fun p6=>
  cut (α:=Hp->Prop) (fun  σ8=>∀ _:Nat->Value,dr p6 (fun b10 o11=>ldS σ8 b10 (o11+8) (fun A12 l12 c12=>
  dr p6 (fun b13 o14=>st σ8 b13 (o14+8) (.slice none 0 0) (fun σ15=>dr p6 (fun b16 o17=>ldI σ15 .i64 b16 o17 (fun n18=>
  cut (α:=Option Addr->Nat->Nat->Option Addr->Nat->Nat->Hp->Prop) (fun A22 l22 c22 A23 l23 _ σ20=>
  ∀ _:Nat->Value,dr p6 (fun b24 o25=>st σ20 b24 (o25+8) (.slice A22 l22 c22) (fun σ26=>cut (α:=Hp->Prop) (fun  σ28=>
  ∀ _:Nat->Value,dr p6 (fun b30 o31=>ldS σ28 b30 (o31+5) (fun _ l32 _=>bc (decide ((0:Int)<((l32:Nat):Int))) (dr n (fun b33 o34=>
  ldI σ28 .i64 b33 (o34+3) (fun n35=>dr p6 (fun b36 o37=>st σ28 b36 (o37+6) (.int .i64 n35) (fun σ38=>
  rt σ38 R (.tuple #[])))))) (rt σ28 R (.tuple #[]))))) (fun J29=>∃ I41:Nat->Int->Hp->Prop,(∃ n420,I41 n420 0 σ26) /\
  ∀ n42:Nat,∀ n43:Int,∀ σ40:Hp,I41 n42 n43 σ40->∀ _:Nat->Value,bc (decide (n43<((l23:Nat):Int))) (ix A23 l23 n43 1 (fun b44 a45=>
  ldI σ40 .i64 b44 a45 (fun n46=>cl Tryz.prog (.func (.func 222) #[] #[]) #[.pointer n,.int .i64 n46] σ40 (fun _ σ48=>
  wk .i64 (n43+1) (fun n49=>bk σ48 n42 (fun m50 σ51=>I41 m50 n49 σ51)))))) (J29 σ40))))) (fun J21=>
  ∃ I54:Nat->Option Addr->Nat->Nat->Option Addr->Nat->Nat->Int->Int->Hp->Prop,(∃ n550,I54 n550 none 0 0 none 0 0 n18 0 σ15) /\
  ∀ n55:Nat,∀ A56:Option Addr,∀ l56 c56:Nat,∀ A57:Option Addr,∀ l57 c57:Nat,∀ n58 n59:Int,∀ σ53:Hp,I54 n55 A56 l56 c56 A57 l57 c57 n58 n59 σ53->∀ _:Nat->Value,bc (decide (n59<((l12:Nat):Int))) (cut (α:=Option Addr->Nat->Nat->Option Addr->Nat->Nat->Int->Hp->Prop) (fun A63 l63 c63 A64 l64 c64 n65 σ61=>
  ∀ _:Nat->Value,wk .i64 (n59+1) (fun n66=>bk σ61 n55 (fun m67 σ68=>I54 m67 A63 l63 c63 A64 l64 c64 n65 n66 σ68))) (fun J62=>
  ix A12 l12 n59 2 (fun b69 a70=>ldI σ53 .i64 b69 a70 (fun n71=>ldI σ53 .i64 b69 (a70+1) (fun n72=>
  dr n (fun b73 o74=>ldS σ53 b73 (o74+2) (fun A75 l75 _=>ix A75 l75 n71 1 (fun b76 a77=>ldP σ53 b76 a77 (fun p78=>
  dr p78 (fun b79 o80=>ldI σ53 .i64 b79 (o80+1) (fun n81=>dr p6 (fun b82 o83=>ldI σ53 .i64 b82 (o83+1) (fun n84=>
  wk .i64 (n81*n84) (fun n85=>cut (α:=Bool->Hp->Prop) (fun t89 σ87=>∀ _:Nat->Value,bc t89 (cl Tryz.prog (.func (.func 228) #[] #[]) #[.pointer n,(.agg #[.int .i64 n71,.int .i64 n72]),.bool false] σ87 (fun _ σ91=>
  adp 3 [.int .i64] A57 l57 c57 σ91 (fun (xs92:List Int) σ93=>B0 (List.length xs92+List.length ([n71]:List Int)) (exl 3 [.int .i64] (xs92++([n71]:List Int)) σ93 (fun A94 l94 c94 σ95=>
  J62 A56 l56 c56 A94 l94 c94 n58 σ95))))) (cut (α:=Bool->Hp->Prop) (fun t99 σ97=>∀ _:Nat->Value,
  bc t99 ((0<=n59/\n59<=((l12:Nat):Int)/\adp 240 [.int .i64,.int .i64] A56 l56 c56 σ97 (fun (xs100:List (Int×Int)) σ101=>
  ∃ ys102:List (Int×Int),RdS [.int .i64,.int .i64] σ101 (if c12=(n59:Int).toNat then (A12:Option Addr) else (A12:Option Addr).map (fun x=>
  x.add ((n59:Int).toNat*2))) (l12-(n59:Int).toNat) ys102/\B0 (List.length xs100+List.length ys102) (exl 240 [.int .i64,.int .i64] (xs100++ys102) σ101 (fun A103 l103 c103 σ104=>
  J21 A103 l103 c103 A57 l57 c57 σ104))))) (dr p78 (fun b105 o106=>ldI σ97 .i64 b105 (o106+1) (fun n107=>
  bc (decide (n58<n107)) (adp 240 [.int .i64,.int .i64] A56 l56 c56 σ97 (fun (xs108:List (Int×Int)) σ109=>
  B0 (List.length xs108+List.length ([(n71,n72)]:List (Int×Int))) (exl 240 [.int .i64,.int .i64] (xs108++([(n71,n72)]:List (Int×Int))) σ109 (fun A110 l110 c110 σ111=>
  J62 A110 l110 c110 A57 l57 c57 n58 σ111)))) (dr p78 (fun b112 o113=>ldI σ97 .i64 b112 (o113+1) (fun n114=>
  wk .i64 (n58-n114) (fun n115=>dr p78 (fun b116 o117=>ldI σ97 .i64 b116 (o117+6) (fun n118=>
  wk .i64 (n118-n85) (fun n119=>dr p78 (fun b120 o121=>st σ97 b120 (o121+6) (.int .i64 n119) (fun σ122=>
  dr p6 (fun b123 o124=>ldI σ122 .i64 b123 (o124+9) (fun n125=>wk .i64 (n125+n85) (fun n126=>
  dr p6 (fun b127 o128=>st σ122 b127 (o128+9) (.int .i64 n126) (fun σ129=>dr p6 (fun b130 o131=>
  ldS σ129 b130 (o131+5) (fun A132 l132 c132=>adp 3 [.int .i64] A132 l132 c132 σ129 (fun (xs133:List Int) σ134=>
  B0 (List.length xs133+List.length ([n71]:List Int)) (dr p6 (fun b135 o136=>exl 3 [.int .i64] (xs133++([n71]:List Int)) σ134 (fun A137 l137 c137 σ138=>
  st σ138 b135 (o136+5) (.slice A137 l137 c137) (fun σ139=>cl Tryz.prog (.func (.func 228) #[] #[]) #[.pointer n,(.agg #[.int .i64 n71,.int .i64 n72]),.bool true] σ139 (fun _ σ141=>
  J62 A56 l56 c56 A57 l57 c57 n115 σ141)))))))))))))))))))))))))) (fun J98=>dr p78 (fun b142 o143=>
  ldI σ87 .i64 b142 (o143+1) (fun n144=>bc (decide (n58<n144)) (dr p6 (fun b145 o146=>ldB σ87 b145 (o146+4) (fun t147=>
  J98 (!t147) σ87))) (J98 false σ87)))))) (fun J88=>dr p78 (fun b148 o149=>ldI σ53 .i64 b148 (o149+1) (fun n150=>
  dr p6 (fun b151 o152=>ldI σ53 .i64 b151 o152 (fun n153=>bc (decide (n153<n150)) (J88 true σ53) (dr p78 (fun b154 o155=>
  ldI σ53 .i64 b154 (o155+6) (fun n156=>J88 (decide (n156<n85)) σ53)))))))))))))))))))))) (J21 A56 l56 c56 A57 l57 c57 σ53))))))))) (fun J9=>
  cut (α:=Bool->Hp->Prop) (fun t160 σ158=>∀ _:Nat->Value,bc t160 (rt σ158 R (.tuple #[])) (J9 σ158)) (fun J159=>
  dr p6 (fun b161 o162=>ldS σ b161 (o162+5) (fun _ l163 _=>bc (decide ((0:Int)<((l163:Nat):Int))) (J159 true σ) (dr p6 (fun b164 o165=>
  ldI σ .i64 b164 (o165+7) (fun n166=>bc (decide ((0:Int)<=n166)) (dr n (fun b167 o168=>ldI σ .i64 b167 (o168+3) (fun n169=>
  dr p6 (fun b170 o171=>ldI σ .i64 b170 (o171+7) (fun n172=>wk .i64 (n169-n172) (fun n173=>dr p6 (fun b174 o175=>
  ldI σ .i64 b174 (o175+3) (fun n176=>bc (decide (n173<n176)) (J159 true σ) (dr p6 (fun b177 o178=>
  ldS σ b177 (o178+8) (fun _ l179 _=>J159 (decide (((l179:Nat):Int)=0)) σ))))))))))) (dr p6 (fun b180 o181=>
  ldS σ b180 (o181+8) (fun _ l182 _=>J159 (decide (((l182:Nat):Int)=0)) σ))))))))))))))
def Ab:OA:=⟨[],false,[]⟩
def Je:MAn:=(.seq (.txt []) (.cut ⟨[],0,[],[(0,true),(4,true)]⟩ (.cut ⟨[],0,[.slot 59 (.sc (.bool))],[(0,true),(4,true)]⟩ (.plan [] (tkVQ2 6 0 Ab (.take 6 ⟨[],true,[]⟩ (tkVQ2 5 7 Ab (.take 12 ⟨[],true,[]⟩ (tkVQ2 17 13 Ab (.take 30 ⟨[],true,[]⟩ (tkVQ2 7 31 Ab .done)))))))) (.cond .leaf .leaf)) (.seq (.txt []) (.seq (.txt []) (.seq (.txt []) (.seq (.txt []) (.seq (.txt []) (.cut ⟨[],0,[.slot 6 (.sc (.slc)),.slot 7 (.sc (.slc))],[(0,true),(4,true)]⟩ (.seq (.txt []) (.block (.loop ⟨[],0,[.slot 6 (.sc (.slc)),.slot 7 (.sc (.slc)),.slot 8 (.sc (.int .i64)),.slot 74 (.sc (.int .i64))],[(0,true),(4,true),(5,true),(72,true),(73,true)]⟩ (.seq (.txt []) (.seq (.cond .leaf .leaf) (.cut ⟨[],0,[.slot 6 (.sc (.slc)),.slot 7 (.sc (.slc)),.slot 8 (.sc (.int .i64))],[(0,true),(4,true),(5,true),(72,true),(73,true),(74,true)]⟩ (.block (.seq (.txt []) (.seq (.plan [] (tkVQ2 9 0 Ab .done)) (.seq (.plan [] (tkVQ2 12 0 Ab .done)) (.seq (.block (.cut ⟨[true],1,[.slot 10 (.hb 0 0),.slot 135 (.sc (.bool))],[(0,true),(4,true),(5,true),(6,true),(7,true),(8,true),(9,true),(11,true),(12,true),(72,true),(73,true),(74,true)]⟩ (.plan [] (tkVQ2 11 0 Ab (.take 11 ⟨[],true,[]⟩ (tkVQ2 8 12 Ab .done)))) (.cond (.seq (.txt []) (.seq (.txt []) .leaf)) (.cut ⟨[true],1,[.slot 10 (.hb 0 0),.slot 163 (.sc (.bool))],[(0,true),(4,true),(5,true),(6,true),(7,true),(8,true),(9,true),(11,true),(12,true),(72,true),(73,true),(74,true)]⟩ (.txt [Ab,Ab,Ab,Ab,Ab,Ab,Ab,⟨[],true,[]⟩]) (.cond (.txt []) (.seq (.txt []) (.cond (.seq (.txt []) .leaf) (.seq (.txt []) (.seq (.txt []) (.seq (.txt []) (.seq (.plan [8,11] (tkVQ2 7 0 Ab (.alt 7 true Ab (.alt 8 false Ab (.take 9 Ab (.take 10 Ab (.alt 11 false Ab .done .done))) .done) .done))) (.seq (.txt []) .leaf)))))))))))) .leaf))))) (.txt []))))))) (.seq (.txt []) (.cut ⟨[],0,[],[(0,true),(4,true)]⟩ (.seq (.txt []) (.block (.loop ⟨[],0,[.slot 203 (.sc (.int .i64))],[(0,true),(4,true),(201,true),(202,true)]⟩ (.seq (.txt []) (.seq (.cond .leaf .leaf) (.seq (.block (.seq (.txt []) (.txt []))) (.txt []))))))) (.seq (.txt []) (.cond (.txt []) .leaf))))))))))))
theorem IT (σ:Hp) (n:Option Addr) (i:Int) (R:Value->Hp->Prop) (h:Dl σ n i R):Ae Tryz.prog 169 #[.pointer n,.int .i64 i] σ R:=
 Ad Ew Je Tryz.func169 rfl (by kernel_rfl) (by kernel_rfl) (by kernel_rfl) h
theorem GF:Ao Tryz.prog 169=true:=by kernel_rfl
abbrev Gx:FuncId:=222
def DV (σ:Hp) (n:Option Addr) (group:Int) (R:Value->Hp->Prop):Prop:=
 dr n (fun b1 o2=>ldS σ b1 (o2+2) (fun A3 l3 _=>ix A3 l3 group 1 (fun b4 a5=>ldP σ b4 a5 (fun p6=>
  dr p6 (fun b7 o8=>ldI σ .i64 b7 (o8+5) (fun n9=>dr p6 (fun b10 o11=>ldS σ b10 (o11+3) (fun _ l12 _=>
  bc (decide (n9=((l12:Nat):Int))) (dr n (fun b13 o14=>ldI σ .i64 b13 (o14+3) (fun n15=>dr p6 (fun b16 o17=>
  st σ b16 (o17+8) (.int .i64 n15) (fun σ18=>rt σ18 R (.tuple #[])))))) (dr n (fun b19 o20=>ldI σ .i64 b19 o20 (fun n21=>
  bc (decide (n21=0)) (cl Tryz.prog (.func (.func 223) #[] #[]) #[.pointer n,.int .i64 group] σ (fun _ σ23=>
  rt σ23 R (.tuple #[]))) (dr n (fun b24 o25=>ldI σ .i64 b24 (o25+3) (fun n26=>dr n (fun b27 o28=>
  ldI σ .i64 b27 o28 (fun n29=>wk .i64 (n26+n29) (fun n30=>dr p6 (fun b31 o32=>st σ b31 (o32+7) (.int .i64 n30) (fun σ33=>
  rt σ33 R (.tuple #[]))))))))))))))))))))
def Ap:OA:=⟨[],false,[]⟩
def JX:MAn:=(.seq (.txt []) (.block (.seq (.plan [] (tkVQ2 12 0 Ap .done)) (.cond (.txt []) (.seq (.txt []) (.cond (.txt []) (.plan [12] (tkVQ2 12 0 Ap (.alt 12 false Ap .done .done)))))))))
theorem Ka (σ:Hp) (n:Option Addr) (group:Int) (R:Value->Hp->Prop) (h:DV σ n group R):Ae Tryz.prog 222 #[.pointer n,.int .i64 group] σ R:=
 Ad Ew JX Tryz.func222 rfl (by kernel_rfl) (by kernel_rfl) (by kernel_rfl) h
theorem HW:Ao Tryz.prog 222=true:=by kernel_rfl
abbrev Fb:FuncId:=223
def CK (σ:Hp) (n:Option Addr) (group:Int) (R:Value->Hp->Prop):Prop:=
 dr n (fun b1 o2=>ldS σ b1 (o2+2) (fun A3 l3 _=>ix A3 l3 group 1 (fun b4 a5=>ldP σ b4 a5 (fun p6=>
  dr p6 (fun b7 o8=>st σ b7 (o8+7) (.int .i64 (-1)) (fun σ9=>dr n (fun b10 o11=>ldS σ9 b10 (o11+1) (fun A12 l12 _=>
  dr p6 (fun b13 o14=>ldS σ9 b13 (o14+3) (fun A15 l15 _=>dr p6 (fun b16 o17=>ldI σ9 .i64 b16 (o17+5) (fun n18=>
  ix A15 l15 n18 1 (fun b19 a20=>ldI σ9 .i64 b19 a20 (fun n21=>ix A12 l12 n21 1 (fun b22 a23=>ldP σ9 b22 a23 (fun p24=>
  dr p24 (fun b25 o26=>ldS σ9 b25 (o26+8) (fun A27 l27 c27=>dr n (fun b28 o29=>ldI σ9 .i64 b28 (o29+3) (fun n30=>
  adp 240 [.int .i64,.int .i64] A27 l27 c27 σ9 (fun (xs31:List (Int×Int)) σ32=>B0 (List.length xs31+List.length ([(group,n30)]:List (Int×Int))) (dr p24 (fun b33 o34=>
  exl 240 [.int .i64,.int .i64] (xs31++([(group,n30)]:List (Int×Int))) σ32 (fun A35 l35 c35 σ36=>
  st σ36 b33 (o34+8) (.slice A35 l35 c35) (fun σ37=>rt σ37 R (.tuple #[]))))))))))))))))))))))))))
def Ai:OA:=⟨[],false,[]⟩
def H3:MAn:=(.seq (.txt []) (.seq (.txt []) (.seq (.plan [] (tkVQ2 18 0 Ai .done)) (.plan [12,15] (tkVQ2 11 0 Ai (.alt 11 true Ai (.alt 12 false Ai (.take 13 Ai (.take 14 Ai (.alt 15 false Ai .done .done))) .done) .done))))))
theorem Ij (σ:Hp) (n:Option Addr) (group:Int) (R:Value->Hp->Prop) (h:CK σ n group R):Ae Tryz.prog 223 #[.pointer n,.int .i64 group] σ R:=
 Ad Ew H3 Tryz.func223 rfl (by kernel_rfl) (by kernel_rfl) (by kernel_rfl) h
theorem CH:Ao Tryz.prog 223=true:=by kernel_rfl
abbrev DQ:FuncId:=228
def DO (σ:Hp) (n:Option Addr) (b0 d0:Int) (on:Bool) (R:Value->Hp->Prop):Prop:=
 dr n (fun b1 o2=>ldS σ b1 (o2+2) (fun A3 l3 _=>ix A3 l3 b0 1 (fun b4 a5=>ldP σ b4 a5 (fun p6=>
  dr n (fun b7 o8=>ldS σ b7 (o8+4) (fun A9 l9 c9=>dr p6 (fun b10 o11=>ldI σ .i64 b10 (o11+5) (fun n12=>
  dr p6 (fun b13 o14=>ldS σ b13 (o14+3) (fun A15 l15 _=>dr p6 (fun b16 o17=>ldI σ .i64 b16 (o17+5) (fun n18=>
  ix A15 l15 n18 1 (fun b19 a20=>ldI σ .i64 b19 a20 (fun n21=>dr n (fun b22 o23=>ldI σ .i64 b22 (o23+3) (fun n24=>
  adp 75 [.int .i64,.int .i64,.int .i64,.bool,.int .i64,.int .i64] A9 l9 c9 σ (fun (xs25:List (Int×Int×Int×Bool×Int×Int)) σ26=>
  B0 (List.length xs25+List.length ([(b0,n12,n21,on,d0,n24)]:List (Int×Int×Int×Bool×Int×Int))) (dr n (fun b27 o28=>
  exl 75 [.int .i64,.int .i64,.int .i64,.bool,.int .i64,.int .i64] (xs25++([(b0,n12,n21,on,d0,n24)]:List (Int×Int×Int×Bool×Int×Int))) σ26 (fun A29 l29 c29 σ30=>
  st σ30 b27 (o28+4) (.slice A29 l29 c29) (fun σ31=>dr p6 (fun b32 o33=>ldI σ31 .i64 b32 (o33+5) (fun n34=>
  wk .i64 (n34+1) (fun n35=>dr p6 (fun b36 o37=>st σ31 b36 (o37+5) (.int .i64 n35) (fun σ38=>
  rt σ38 R (.tuple #[])))))))))))))))))))))))))))
def Ag:OA:=⟨[],false,[]⟩
def JJ:MAn:=(.seq (.txt []) (.seq (.plan [] (tkVQ2 9 0 Ag .done)) (.seq (.plan [31,34] (tkVQ2 30 0 Ag (.alt 30 true Ag (.alt 31 false Ag (.take 32 Ag (.take 33 Ag (.alt 34 false Ag .done .done))) .done) .done))) (.txt []))))
theorem JU (σ:Hp) (n:Option Addr) (b0 d0:Int) (on:Bool) (R:Value->Hp->Prop) (h:DO σ n b0 d0 on R):Ae Tryz.prog 228 #[.pointer n,(.agg #[.int .i64 b0,.int .i64 d0]),.bool on] σ R:=
 Ad Ew JJ Tryz.func228 rfl (by kernel_rfl) (by kernel_rfl) (by kernel_rfl) h
theorem Hx:Ao Tryz.prog 228=true:=by kernel_rfl
abbrev EA:FuncId:=224
def Br (σ:Hp) (s_A:Option Addr) (s_n s_c:Nat) (del:Value) (R:Value->Hp->Prop):Prop:=
 cl Tryz.prog (.func (.func 256) #[] #[]) #[.slice s_A s_n s_c,del] σ (fun v1 σ2=>∃ n3:Int,(v1=(.int .i64 n3) /\
  bc (decide (n3=(-1))) (rt σ2 R (.slice s_A s_n s_c)) (cut (α:=Int->Hp->Prop) (fun n7 σ5=>∀ _:Nat->Value,
  (0<=n7/\n7<=((s_n:Nat):Int)/\clr Tryz.prog #[170] 0 #[(.slice (if s_c=(n7:Int).toNat then (s_A:Option Addr) else (s_A:Option Addr).map (fun x=>
  x.add ((n7:Int).toNat*2))) (s_n-(n7:Int).toNat) (s_c-(n7:Int).toNat))] σ5 (fun σ8=>(0<=n7 /\
  n7<=((s_c:Nat):Int)/\rt σ8 R (.slice s_A ((n7:Int).toNat) s_c))))) (fun J6=>wk .i64 (n3+1) (fun n9=>
  ∃ I12:Nat->Int->Int->Hp->Prop,(∃ n130,I12 n130 n3 n9 σ2)/\∀ n13:Nat,∀ n14 n15:Int,∀ σ11:Hp,I12 n13 n14 n15 σ11->∀ _:Nat->Value,bc (decide (n15<((s_n:Nat):Int))) (cut (α:=Int->Hp->Prop) (fun n19 σ17=>
  ∀ _:Nat->Value,wk .i64 (n15+1) (fun n20=>bk σ17 n13 (fun m21 σ22=>I12 m21 n19 n20 σ22))) (fun J18=>
  ix s_A s_n n15 2 (fun b23 a24=>ldI σ11 .i64 b23 a24 (fun n25=>ldI σ11 .i64 b23 (a24+1) (fun n26=>
  cl Tryz.prog del #[(.agg #[.int .i64 n25,.int .i64 n26])] σ11 (fun v27 σ28=>∃ t29:Bool,(v27=(.bool t29) /\
  bc (!t29) (ix s_A s_n n14 2 (fun b30 a31=>st σ28 b30 a31 (.int .i64 n25) (fun σ32=>st σ32 b30 (a31+1) (.int .i64 n26) (fun σ33=>
  wk .i64 (n14+1) (fun n34=>J18 n34 σ33))))) (J18 n14 σ28)))))))) (J6 n14 σ11))))))
def DE:MAn:=(.seq (.txt []) (.seq (.txt []) (.seq (.seq (.txt []) (.cond (.seq (.txt []) .leaf) .leaf)) (.cut ⟨[],0,[.slot 5 (.sc (.int .i64))],[(0,true)]⟩ (.seq (.txt []) (.block (.loop ⟨[],0,[.slot 5 (.sc (.int .i64)),.slot 6 (.sc (.int .i64))],[(0,true),(1,false)]⟩ (.seq (.seq (.txt []) (.cond .leaf .leaf)) (.cut ⟨[],0,[.slot 5 (.sc (.int .i64))],[(0,true),(1,false),(6,true)]⟩ (.block (.seq (.txt []) (.seq (.txt []) (.cond (.seq (.txt []) (.txt [])) .leaf)))) (.txt [])))))) (.seq (.txt []) (.seq (.txt []) .leaf))))))
theorem DI (σ:Hp) (s_A:Option Addr) (s_n s_c:Nat) (del:Value) (R:Value->Hp->Prop) (h:Br σ s_A s_n s_c del R):Ae Tryz.prog 224 #[.slice s_A s_n s_c,del] σ R:=
 Ad Ew DE Tryz.func224 rfl (by kernel_rfl) (by kernel_rfl) (by kernel_rfl) h
theorem C0:Ao Tryz.prog 224=true:=by kernel_rfl
end Go.Proofs.YtoelhdjloaknbaaGreat
