/- Trimmed by wip/trim.py to what this claim rests on. -/
import Derived.Test.YthhadkggldcolaaGreatVB11
namespace Go.Proofs.YthhadkggldcolaaGreat
set_option maxRecDepth 100000
open Go.RowKit
def tkVQ3:Nat->Nat->OA->MPlan->MPlan
 |0,_,_,x=>x
 |n+1,i,a,x=>.take i a (tkVQ3 n (i+1) a x)
theorem L7:Tryz.prog.follows .mixedOrders=true:=by kernel_rfl
abbrev Px:FuncId:=193
def EN (σ:Hp) (p:Option Addr) (R:Value->Hp->Prop):Prop:=
 cut (α:=Hp->Prop) (fun  σ2=>∀ _:Nat->Value,cut (α:=Hp->Prop) (fun  σ5=>∀ _:Nat->Value,
  cut (α:=Hp->Prop) (fun  σ8=>∀ _:Nat->Value,cut (α:=Hp->Prop) (fun  σ11=>∀ _:Nat->Value,
  cut (α:=Hp->Prop) (fun  σ14=>∀ _:Nat->Value,∃ I19:Nat->Int->Hp->Prop,(∃ n200,I19 n200 0 σ14) /\
  ∀ n20:Nat,∀ n21:Int,∀ σ18:Hp,I19 n20 n21 σ18->∀ _:Nat->Value,dr p (fun b22 o23=>ldS σ18 b22 o23 (fun _ l24 _=>
  bc (decide (n21<((l24:Nat):Int))) (cut (α:=Hp->Prop) (fun  σ26=>∀ _:Nat->Value,wk .i64 (n21+1) (fun n28=>
  bk σ26 n20 (fun m29 σ30=>I19 m29 n28 σ30))) (fun J27=>cut (α:=Int->Hp->Prop) (fun n34 σ32=>
  ∀ _:Nat->Value,dr p (fun b35 o36=>ldS σ32 b35 (o36+10) (fun A37 l37 _=>dr p (fun b38 o39=>
  ldS σ32 b38 (o39+10) (fun A40 l40 _=>ix A40 l40 n21 1 (fun b41 a42=>ldI σ32 .i64 b41 a42 (fun n43=>
  ix A37 l37 n21 1 (fun b44 a45=>st σ32 b44 a45 (.int .i64 (if n34>n43 then n34 else n43)) (fun σ46=>
  J27 σ46))))))))) (fun J33=>∃ I49:Nat->Int->Int->Hp->Prop,(∃ n500,I49 n500 0 0 σ18)/\∀ n50:Nat,∀ n51 n52:Int,∀ σ48:Hp,I49 n50 n51 n52 σ48->∀ _:Nat->Value,dr p (fun b53 o54=>
  ldS σ48 b53 (o54+5) (fun A55 l55 _=>ix A55 l55 n21 1 (fun b56 a57=>ldS σ48 b56 a57 (fun _ l58 _=>
  bc (decide (n52<((l58:Nat):Int))) (dr p (fun b59 o60=>ldS σ48 b59 (o60+2) (fun A61 l61 _=>
  dr p (fun b62 o63=>ldS σ48 b62 (o63+5) (fun A64 l64 _=>ix A64 l64 n21 1 (fun b65 a66=>ldS σ48 b65 a66 (fun A67 l67 _=>
  ix A67 l67 n52 1 (fun b68 a69=>ldI σ48 .i64 b68 a69 (fun n70=>ix A61 l61 n70 5 (fun b71 a72=>ldI σ48 .i64 b71 (a72+1) (fun n73=>
  wk .i64 (n51+n73) (fun n74=>wk .i64 (n52+1) (fun n75=>bk σ48 n50 (fun m76 σ77=>I49 m76 n74 n75 σ77)))))))))))))) (J33 n51 σ48)))))))) (rt σ18 R (.tuple #[]))))) (fun J15=>
  ∃ I80:Nat->Int->Hp->Prop,(∃ n810,I80 n810 0 σ11)/\∀ n81:Nat,∀ n82:Int,∀ σ79:Hp,I80 n81 n82 σ79->∀ _:Nat->Value,dr p (fun b83 o84=>
  ldS σ79 b83 o84 (fun _ l85 _=>bc (decide (n82<((l85:Nat):Int))) (cut (α:=Hp->Prop) (fun  σ87=>
  ∀ _:Nat->Value,wk .i64 (n82+1) (fun n89=>bk σ87 n81 (fun m90 σ91=>I80 m90 n89 σ91))) (fun J88=>
  cut (α:=Hp->Prop) (fun  σ93=>∀ _:Nat->Value,cl Tryz.prog (.func (.func 246) #[] #[]) #[.pointer p,.int .i64 n82] σ93 (fun v95 σ96=>
  ∃ t97:Bool,(v95=(.bool t97)/\bc t97 (dr p (fun b98 o99=>ldS σ96 b98 (o99+6) (fun A100 l100 _=>
  dr p (fun b101 o102=>ldI σ96 .i64 b101 (o102+3) (fun n103=>ix A100 l100 n82 1 (fun b104 a105=>
  st σ96 b104 a105 (.int .i64 n103) (fun σ106=>J88 σ106))))))) (J88 σ96)))) (fun J94=>cut (α:=Bool->Hp->Prop) (fun t110 σ108=>
  ∀ _:Nat->Value,bc t110 (J88 σ108) (J94 σ108)) (fun J109=>dr p (fun b111 o112=>ldS σ79 b111 (o112+6) (fun A113 l113 _=>
  ix A113 l113 n82 1 (fun b114 a115=>ldI σ79 .i64 b114 a115 (fun n116=>bc (decide ((0:Int)<=n116)) (J109 true σ79) (dr p (fun b117 o118=>
  ldS σ79 b117 (o118+7) (fun A119 l119 _=>ix A119 l119 n82 1 (fun b120 a121=>ldI σ79 .i64 b120 a121 (fun n122=>
  bc (decide ((0:Int)<=n122)) (dr p (fun b123 o124=>ldI σ79 .i64 b123 (o124+3) (fun n125=>dr p (fun b126 o127=>
  ldS σ79 b126 (o127+7) (fun A128 l128 _=>ix A128 l128 n82 1 (fun b129 a130=>ldI σ79 .i64 b129 a130 (fun n131=>
  wk .i64 (n125-n131) (fun n132=>dr p (fun b133 o134=>ldS σ79 b133 o134 (fun A135 l135 _=>ix A135 l135 n82 5 (fun b136 a137=>
  ldI σ79 .i64 b136 (a137+3) (fun n138=>J109 (decide (n132<n138)) σ79)))))))))))) (J109 false σ79)))))))))))))) (J15 σ79))))) (fun J12=>
  ∃ I141:Nat->Int->Hp->Prop,(∃ n1420,I141 n1420 0 σ8)/\∀ n142:Nat,∀ n143:Int,∀ σ140:Hp,I141 n142 n143 σ140->∀ _:Nat->Value,dr p (fun b144 o145=>
  ldS σ140 b144 (o145+2) (fun _ l146 _=>bc (decide (n143<((l146:Nat):Int))) (cut (α:=Hp->Prop) (fun  σ148=>
  ∀ _:Nat->Value,wk .i64 (n143+1) (fun n150=>bk σ148 n142 (fun m151 σ152=>I141 m151 n150 σ152))) (fun J149=>
  dr p (fun b153 o154=>ldS σ140 b153 (o154+4) (fun A155 l155 _=>ix A155 l155 n143 4 (fun b156 a157=>
  ldI σ140 .i64 b156 a157 (fun n158=>ldI σ140 .i64 b156 (a157+1) (fun _=>ldI σ140 .i64 b156 (a157+2) (fun n160=>
  ldI σ140 .i64 b156 (a157+3) (fun _=>cut (α:=Bool->Hp->Prop) (fun t165 σ163=>∀ _:Nat->Value,
  bc t165 (cl Tryz.prog (.func (.func 245) #[] #[]) #[.pointer p,.int .i64 n143,.bool false] σ163 (fun _ σ167=>
  J149 σ167)) (J149 σ163)) (fun J164=>bc (decide (n158=2)) (dr p (fun b168 o169=>ldI σ140 .i64 b168 (o169+3) (fun n170=>
  wk .i64 (n170-n160) (fun n171=>dr p (fun b172 o173=>ldS σ140 b172 (o173+2) (fun A174 l174 _=>
  ix A174 l174 n143 5 (fun b175 a176=>ldI σ140 .i64 b175 (a176+4) (fun n177=>J164 (decide (n177<n171)) σ140)))))))) (J164 false σ140))))))))))) (J12 σ140))))) (fun J9=>
  ∃ I180:Nat->Int->Hp->Prop,(∃ n1810,I180 n1810 0 σ5)/\∀ n181:Nat,∀ n182:Int,∀ σ179:Hp,I180 n181 n182 σ179->∀ _:Nat->Value,dr p (fun b183 o184=>
  ldS σ179 b183 (o184+2) (fun _ l185 _=>bc (decide (n182<((l185:Nat):Int))) (cut (α:=Hp->Prop) (fun  σ187=>
  ∀ _:Nat->Value,wk .i64 (n182+1) (fun n189=>bk σ187 n181 (fun m190 σ191=>I180 m190 n189 σ191))) (fun J188=>
  dr p (fun b192 o193=>ldS σ179 b192 (o193+4) (fun A194 l194 _=>ix A194 l194 n182 4 (fun b195 a196=>
  ldI σ179 .i64 b195 a196 (fun n197=>ldI σ179 .i64 b195 (a196+1) (fun _=>ldI σ179 .i64 b195 (a196+2) (fun n199=>
  ldI σ179 .i64 b195 (a196+3) (fun _=>cut (α:=Bool->Hp->Prop) (fun t204 σ202=>∀ _:Nat->Value,
  bc t204 (cl Tryz.prog (.func (.func 243) #[] #[]) #[.pointer p,.int .i64 n182] σ202 (fun _ σ206=>
  J188 σ206)) (cut (α:=Bool->Hp->Prop) (fun t210 σ208=>∀ _:Nat->Value,bc t210 (cl Tryz.prog (.func (.func 244) #[] #[]) #[.pointer p,.int .i64 n182] σ208 (fun _ σ212=>
  J188 σ212)) (J188 σ208)) (fun J209=>bc (decide (n197=1)) (dr p (fun b213 o214=>ldI σ202 .i64 b213 (o214+3) (fun n215=>
  wk .i64 (n215-n199) (fun n216=>dr p (fun b217 o218=>ldI σ202 .i64 b217 (o218+1) (fun n219=>
  J209 (decide (n216=n219)) σ202)))))) (J209 false σ202)))) (fun J203=>bc (decide (n197=0)) (dr p (fun b220 o221=>
  ldS σ179 b220 (o221+2) (fun A222 l222 _=>ix A222 l222 n182 5 (fun b223 a224=>ldI σ179 .i64 b223 a224 (fun n225=>
  dr p (fun b226 o227=>ldI σ179 .i64 b226 (o227+3) (fun n228=>J203 (decide (n225=n228)) σ179))))))) (J203 false σ179))))))))))) (J9 σ179))))) (fun J6=>
  ∃ I231:Nat->Int->Hp->Prop,(∃ n2320,I231 n2320 0 σ2)/\∀ n232:Nat,∀ n233:Int,∀ σ230:Hp,I231 n232 n233 σ230->∀ _:Nat->Value,dr p (fun b234 o235=>
  ldS σ230 b234 (o235+2) (fun _ l236 _=>bc (decide (n233<((l236:Nat):Int))) (cut (α:=Hp->Prop) (fun  σ238=>
  ∀ _:Nat->Value,wk .i64 (n233+1) (fun n240=>bk σ238 n232 (fun m241 σ242=>I231 m241 n240 σ242))) (fun J239=>
  dr p (fun b243 o244=>ldS σ230 b243 (o244+4) (fun A245 l245 _=>ix A245 l245 n233 4 (fun b246 a247=>
  ldI σ230 .i64 b246 a247 (fun n248=>ldI σ230 .i64 b246 (a247+1) (fun n249=>ldI σ230 .i64 b246 (a247+2) (fun _=>
  ldI σ230 .i64 b246 (a247+3) (fun _=>cut (α:=Bool->Hp->Prop) (fun t255 σ253=>∀ _:Nat->Value,
  bc t255 (cl Tryz.prog (.func (.func 243) #[] #[]) #[.pointer p,.int .i64 n233] σ253 (fun _ σ257=>
  J239 σ257)) (J239 σ253)) (fun J254=>bc (decide (n248=3)) (dr p (fun b258 o259=>ldS σ230 b258 (o259+7) (fun A260 l260 _=>
  dr p (fun b261 o262=>ldS σ230 b261 (o262+2) (fun A263 l263 _=>ix A263 l263 n233 5 (fun b264 a265=>
  ldS σ230 b264 (a265+3) (fun A266 l266 _=>ix A266 l266 n249 1 (fun b267 a268=>ldI σ230 .i64 b267 a268 (fun n269=>
  ix A260 l260 n269 1 (fun b270 a271=>ldI σ230 .i64 b270 a271 (fun n272=>dr p (fun b273 o274=>ldI σ230 .i64 b273 (o274+3) (fun n275=>
  J254 (decide (n272=n275)) σ230))))))))))))) (J254 false σ230))))))))))) (J6 σ230))))) (fun J3=>∃ I278:Nat->Int->Hp->Prop,(∃ n2790,I278 n2790 0 σ) /\
  ∀ n279:Nat,∀ n280:Int,∀ σ277:Hp,I278 n279 n280 σ277->∀ _:Nat->Value,dr p (fun b281 o282=>
  ldS σ277 b281 o282 (fun _ l283 _=>bc (decide (n280<((l283:Nat):Int))) (cut (α:=Hp->Prop) (fun  σ285=>
  ∀ _:Nat->Value,wk .i64 (n280+1) (fun n287=>bk σ285 n279 (fun m288 σ289=>I278 m288 n287 σ289))) (fun J286=>
  cut (α:=Hp->Prop) (fun  σ291=>∀ _:Nat->Value,dr p (fun b293 o294=>ldS σ291 b293 (o294+6) (fun A295 l295 _=>
  ix A295 l295 n280 1 (fun b296 a297=>st σ291 b296 a297 (.int .i64 (-1)) (fun σ298=>dr p (fun b299 o300=>
  ldS σ298 b299 (o300+7) (fun A301 l301 _=>dr p (fun b302 o303=>ldI σ298 .i64 b302 (o303+3) (fun n304=>
  ix A301 l301 n280 1 (fun b305 a306=>st σ298 b305 a306 (.int .i64 n304) (fun σ307=>J286 σ307))))))))))) (fun J292=>
  cut (α:=Bool->Hp->Prop) (fun t311 σ309=>∀ _:Nat->Value,bc t311 (J286 σ309) (J292 σ309)) (fun J310=>
  dr p (fun b312 o313=>ldS σ277 b312 (o313+6) (fun A314 l314 _=>ix A314 l314 n280 1 (fun b315 a316=>
  ldI σ277 .i64 b315 a316 (fun n317=>bc (decide (n317<0)) (J310 true σ277) (dr p (fun b318 o319=>
  ldI σ277 .i64 b318 (o319+3) (fun n320=>dr p (fun b321 o322=>ldS σ277 b321 (o322+6) (fun A323 l323 _=>
  ix A323 l323 n280 1 (fun b324 a325=>ldI σ277 .i64 b324 a325 (fun n326=>wk .i64 (n320-n326) (fun n327=>
  dr p (fun b328 o329=>ldS σ277 b328 o329 (fun A330 l330 _=>ix A330 l330 n280 5 (fun b331 a332=>
  ldI σ277 .i64 b331 (a332+2) (fun n333=>J310 (!decide (n327=n333)) σ277)))))))))))))))))))) (J3 σ277))))
def Aa:OA:=⟨[],false,[]⟩
def FZ:MAn:=(.plan [] (.take 0 Aa (.take 1 Aa (.take 2 Aa (.take 3 ⟨[],true,[]⟩ (tkVQ3 14 4 Aa .done))))))
def FT:MAn:=(.plan [10] (tkVQ3 10 0 Aa (.alt 10 false Aa .done .done)))
def MG:MAn:=(.cut ⟨[],0,[],[(0,true)]⟩ (.seq (.txt []) (.block (.loop ⟨[],0,[.slot 2 (.sc (.int .i64))],[(0,true)]⟩ (.seq (.seq (.txt []) (.cond .leaf .leaf)) (.cut ⟨[],0,[],[(0,true),(2,true)]⟩ (.block (.cut ⟨[],0,[],[(0,true),(2,true)]⟩ (.cut ⟨[],0,[.slot 54 (.sc (.bool))],[(0,true),(2,true)]⟩ (.plan [] (tkVQ3 8 0 Aa (.take 8 ⟨[],true,[]⟩ (tkVQ3 23 9 Aa .done)))) (.cond .leaf .leaf)) (.seq (.txt []) FT))) (.txt [])))))) (.cut ⟨[],0,[],[(0,true)]⟩ (.seq (.txt []) (.block (.loop ⟨[],0,[.slot 3 (.sc (.int .i64))],[(0,true)]⟩ (.seq (.seq (.txt []) (.cond .leaf .leaf)) (.cut ⟨[],0,[],[(0,true),(3,true)]⟩ (.block (.seq (.txt []) (.cut ⟨[true],1,[.slot 114 (.sc (.bool))],[(0,true),(3,true)]⟩ (.plan [] (.take 0 Aa (.take 1 Aa (.take 2 Aa (.take 3 ⟨[],true,[]⟩ (tkVQ3 24 4 Aa .done)))))) (.cond (.txt []) .leaf)))) (.txt [])))))) (.cut ⟨[],0,[],[(0,true)]⟩ (.seq (.txt []) (.block (.loop ⟨[],0,[.slot 5 (.sc (.int .i64))],[(0,true)]⟩ (.seq (.seq (.txt []) (.cond .leaf .leaf)) (.cut ⟨[],0,[],[(0,true),(5,true)]⟩ (.block (.seq (.txt []) (.cut ⟨[true],1,[.slot 6 (.hb 0 0),.slot 151 (.sc (.bool))],[(0,true),(5,true)]⟩ FZ (.cond (.txt []) (.cut ⟨[true],1,[.slot 172 (.sc (.bool))],[(0,true),(5,true)]⟩ FZ (.cond (.txt []) .leaf)))))) (.txt [])))))) (.cut ⟨[],0,[],[(0,true)]⟩ (.seq (.txt []) (.block (.loop ⟨[],0,[.slot 7 (.sc (.int .i64))],[(0,true)]⟩ (.seq (.seq (.txt []) (.cond .leaf .leaf)) (.cut ⟨[],0,[],[(0,true),(7,true)]⟩ (.block (.seq (.txt []) (.cut ⟨[true],1,[.slot 212 (.sc (.bool))],[(0,true),(7,true)]⟩ (.plan [] (.take 0 Aa (.take 1 Aa (.take 2 Aa (.take 3 ⟨[],true,[]⟩ (tkVQ3 17 4 Aa .done)))))) (.cond (.txt []) .leaf)))) (.txt [])))))) (.cut ⟨[],0,[],[(0,true)]⟩ (.seq (.txt []) (.block (.loop ⟨[],0,[.slot 9 (.sc (.int .i64))],[(0,true)]⟩ (.seq (.seq (.txt []) (.cond .leaf .leaf)) (.cut ⟨[],0,[],[(0,true),(9,true)]⟩ (.block (.cut ⟨[],0,[],[(0,true),(9,true)]⟩ (.cut ⟨[],0,[.slot 267 (.sc (.bool))],[(0,true),(9,true)]⟩ (.plan [] (tkVQ3 8 0 Aa (.take 8 ⟨[],true,[]⟩ (tkVQ3 8 9 Aa (.take 17 ⟨[],true,[]⟩ (tkVQ3 24 18 Aa .done)))))) (.cond .leaf .leaf)) (.seq (.txt []) (.cond FT .leaf)))) (.txt [])))))) (.seq (.txt []) (.block (.loop ⟨[],0,[.slot 10 (.sc (.int .i64))],[(0,true)]⟩ (.seq (.seq (.txt []) (.cond .leaf .leaf)) (.cut ⟨[],0,[],[(0,true),(10,true)]⟩ (.block (.seq (.txt []) (.cut ⟨[],0,[.slot 11 (.sc (.int .i64))],[(0,true),(10,true)]⟩ (.seq (.txt []) (.block (.loop ⟨[],0,[.slot 11 (.sc (.int .i64)),.slot 12 (.sc (.int .i64))],[(0,true),(10,true)]⟩ (.seq (.seq (.txt []) (.cond .leaf .leaf)) (.seq (.block (.plan [] (tkVQ3 20 0 Aa .done))) (.txt [])))))) (.plan [15] (tkVQ3 15 0 Aa (.alt 15 false Aa .done .done)))))) (.txt [])))))))))))
theorem MP (σ:Hp) (p:Option Addr) (R:Value->Hp->Prop) (h:EN σ p R):Af Tryz.prog 193 #[.pointer p] σ R:=
 Ae L7 MG Tryz.func193 rfl (by kernel_rfl) (by kernel_rfl) (by kernel_rfl) h
theorem Jj:Ao Tryz.prog 193=true:=by kernel_rfl
abbrev KZ:FuncId:=243
def F4 (σ:Hp) (p:Option Addr) (g:Int) (R:Value->Hp->Prop):Prop:=
 dr p (fun b1 o2=>ldS σ b1 (o2+4) (fun A3 l3 _=>ix A3 l3 g 4 (fun b4 a5=>ldI σ .i64 b4 (a5+1) (fun n6=>
  wk .i64 (n6+1) (fun n7=>st σ b4 (a5+1) (.int .i64 n7) (fun σ8=>dr p (fun b9 o10=>ldI σ8 .i64 b9 (o10+3) (fun n11=>
  st σ8 b4 (a5+2) (.int .i64 n11) (fun σ12=>ldI σ12 .i64 b4 (a5+1) (fun n13=>dr p (fun b14 o15=>
  ldS σ12 b14 (o15+2) (fun A16 l16 _=>ix A16 l16 g 5 (fun b17 a18=>ldS σ12 b17 (a18+3) (fun _ l19 _=>
  bc (decide (((l19:Nat):Int)<=n13)) (st σ12 b4 a5 (.int .i64 4) (fun σ20=>dr p (fun b21 o22=>
  ldS σ20 b21 (o22+11) (fun A23 l23 _=>dr p (fun b24 o25=>ldI σ20 .i64 b24 (o25+3) (fun n26=>
  ix A23 l23 g 1 (fun b27 a28=>st σ20 b27 a28 (.int .i64 n26) (fun σ29=>rt σ29 R (.tuple #[]))))))))) (st σ12 b4 a5 (.int .i64 1) (fun σ30=>
  dr p (fun b31 o32=>ldI σ30 .i64 b31 (o32+1) (fun n33=>bc (decide (n33=0)) (cl Tryz.prog (.func (.func 244) #[] #[]) #[.pointer p,.int .i64 g] σ30 (fun _ σ35=>
  rt σ35 R (.tuple #[]))) (rt σ30 R (.tuple #[]))))))))))))))))))))
def AI:OA:=⟨[],false,[]⟩
def Pb:MAn:=(.seq (.txt []) (.seq (.txt []) (.seq (.txt []) (.seq (.seq (.plan [] (tkVQ3 14 0 AI .done)) (.cond (.seq (.txt []) (.seq (.plan [10] (tkVQ3 10 0 AI (.alt 10 false AI .done .done))) .leaf)) .leaf)) (.seq (.txt []) (.seq (.txt []) (.cond (.txt []) .leaf)))))))
theorem N9 (σ:Hp) (p:Option Addr) (g:Int) (R:Value->Hp->Prop) (h:F4 σ p g R):Af Tryz.prog 243 #[.pointer p,.int .i64 g] σ R:=
 Ae L7 Pb Tryz.func243 rfl (by kernel_rfl) (by kernel_rfl) (by kernel_rfl) h
theorem Fp:Ao Tryz.prog 243=true:=by kernel_rfl
abbrev Hq:FuncId:=244
def D9 (σ:Hp) (p:Option Addr) (g:Int) (R:Value->Hp->Prop):Prop:=
 dr p (fun b1 o2=>ldS σ b1 (o2+4) (fun A3 l3 _=>ix A3 l3 g 4 (fun b4 a5=>dr p (fun b6 o7=>ldS σ b6 (o7+2) (fun A8 l8 _=>
  ix A8 l8 g 5 (fun b9 a10=>ldS σ b9 (a10+3) (fun A11 l11 _=>ldI σ .i64 b4 (a5+1) (fun n12=>
  ix A11 l11 n12 1 (fun b13 a14=>ldI σ .i64 b13 a14 (fun n15=>st σ b4 a5 (.int .i64 2) (fun σ16=>
  dr p (fun b17 o18=>ldI σ16 .i64 b17 (o18+3) (fun n19=>st σ16 b4 (a5+2) (.int .i64 n19) (fun σ20=>
  dr p (fun b21 o22=>dr p (fun b23 o24=>ldS σ20 b23 (o24+5) (fun A25 l25 _=>ix A25 l25 n15 1 (fun b26 a27=>
  ldS σ20 b26 a27 (fun A28 l28 c28=>((ldS σ20 b21 (o22+5) (fun A29 l29 _=>adp 3 [.int .i64] A28 l28 c28 σ20 (fun (xs30:List Int) σ31=>
  Bm (List.length xs30+List.length ([g]:List Int)) (ix A29 l29 n15 1 (fun b32 a33=>exl 3 [.int .i64] (xs30++([g]:List Int)) σ31 (fun A34 l34 c34 σ35=>
  st σ35 b32 a33 (.slice A34 l34 c34) (fun σ36=>rt σ36 R (.tuple #[]))))))))/\((ldS σ20 b21 (o22+5) (fun A37 l37 _=>
  adp 3 [.int .i64] A28 l28 c28 σ20 (fun (xs38:List Int) σ39=>Bm (List.length xs38+List.length ([g]:List Int)) (ix A37 l37 n15 1 (fun b40 a41=>
  exl 3 [.int .i64] (xs38++([g]:List Int)) σ39 (fun A42 l42 c42 σ43=>st σ43 b40 a41 (.slice A42 l42 c42) (fun σ44=>
  rt σ44 R (.tuple #[]))))))))/\(adp 3 [.int .i64] A28 l28 c28 σ20 (fun (xs45:List Int) σ46=>Bm (List.length xs45+List.length ([g]:List Int)) (ldS σ46 b21 (o22+5) (fun A47 l47 _=>
  ix A47 l47 n15 1 (fun b48 a49=>exl 3 [.int .i64] (xs45++([g]:List Int)) σ46 (fun A50 l50 c50 σ51=>
  st σ51 b48 a49 (.slice A50 l50 c50) (fun σ52=>rt σ52 R (.tuple #[])))))))))))))))))))))))))))))
def An:OA:=⟨[],false,[]⟩
def C5:MPlan:=(.take 15 An (.alt 16 false An .done .done))
def Lg:MAn:=(.seq (.txt []) (.seq (.plan [] (tkVQ3 15 0 An .done)) (.seq (.txt []) (.seq (.txt []) (.plan [14,16] (.take 0 An (.take 1 An (.take 2 An (tkVQ3 9 4 An (.alt 3 true An (.alt 13 true An (.alt 14 false An C5 .done) .done) (.alt 13 true An (.alt 3 true An (.alt 14 false An C5 .done) (.alt 14 false An (.take 3 An C5) .done)) .done)))))))))))
theorem Ld (σ:Hp) (p:Option Addr) (g:Int) (R:Value->Hp->Prop) (h:D9 σ p g R):Af Tryz.prog 244 #[.pointer p,.int .i64 g] σ R:=
 Ae L7 Lg Tryz.func244 rfl (by kernel_rfl) (by kernel_rfl) (by kernel_rfl) h
theorem DX:Ao Tryz.prog 244=true:=by kernel_rfl
abbrev He:FuncId:=245
def Ea (σ:Hp) (p:Option Addr) (g:Int) (on:Bool) (R:Value->Hp->Prop):Prop:=
 dr p (fun b1 o2=>ldS σ b1 (o2+4) (fun A3 l3 _=>ix A3 l3 g 4 (fun b4 a5=>dr p (fun b6 o7=>ldS σ b6 (o7+2) (fun A8 l8 _=>
  ix A8 l8 g 5 (fun b9 a10=>ldS σ b9 (a10+3) (fun A11 l11 _=>ldI σ .i64 b4 (a5+1) (fun n12=>
  ix A11 l11 n12 1 (fun b13 a14=>ldI σ .i64 b13 a14 (fun n15=>cut (α:=Option Addr->Nat->Nat->Hp->Prop) (fun A19 l19 c19 σ17=>
  ∀ _:Nat->Value,dr p (fun b20 o21=>ldS σ17 b20 (o21+5) (fun A22 l22 _=>ix A22 l22 n15 1 (fun b23 a24=>
  st σ17 b23 a24 (.slice A19 l19 c19) (fun σ25=>dr p (fun b26 o27=>ldS σ25 b26 (o27+8) (fun A28 l28 c28=>
  ldI σ25 .i64 b4 (a5+1) (fun n29=>ldI σ25 .i64 b4 (a5+2) (fun n30=>dr p (fun b31 o32=>ldI σ25 .i64 b31 (o32+3) (fun n33=>
  adp 59 [.int .i64,.int .i64,.int .i64,.bool,.int .i64,.int .i64] A28 l28 c28 σ25 (fun (xs34:List (Int×Int×Int×Bool×Int×Int)) σ35=>
  Bm (List.length xs34+List.length ([(g,n29,n15,on,n30,n33)]:List (Int×Int×Int×Bool×Int×Int))) (dr p (fun b36 o37=>
  exl 59 [.int .i64,.int .i64,.int .i64,.bool,.int .i64,.int .i64] (xs34++([(g,n29,n15,on,n30,n33)]:List (Int×Int×Int×Bool×Int×Int))) σ35 (fun A38 l38 c38 σ39=>
  st σ39 b36 (o37+8) (.slice A38 l38 c38) (fun σ40=>bc (!on) (cl Tryz.prog (.func (.func 243) #[] #[]) #[.pointer p,.int .i64 g] σ40 (fun _ σ42=>
  rt σ42 R (.tuple #[]))) (st σ40 b4 a5 (.int .i64 3) (fun σ43=>dr p (fun b44 o45=>ldI σ43 .i64 b44 (o45+3) (fun n46=>
  st σ43 b4 (a5+2) (.int .i64 n46) (fun σ47=>ldI σ47 .i64 b4 (a5+3) (fun n48=>dr p (fun b49 o50=>
  ldS σ47 b49 o50 (fun A51 l51 _=>ix A51 l51 n15 5 (fun b52 a53=>ldI σ47 .i64 b52 (a53+1) (fun n54=>
  dr p (fun b55 o56=>ldS σ47 b55 (o56+2) (fun A57 l57 _=>ix A57 l57 g 5 (fun b58 a59=>ldI σ47 .i64 b58 (a59+1) (fun n60=>
  wk .i64 (n54*n60) (fun n61=>wk .i64 (n48-n61) (fun n62=>st σ47 b4 (a5+3) (.int .i64 n62) (fun σ63=>
  dr p (fun b64 o65=>ldS σ63 b64 (o65+9) (fun A66 l66 _=>ix A66 l66 n15 1 (fun b67 a68=>ldI σ63 .i64 b67 a68 (fun n69=>
  dr p (fun b70 o71=>ldS σ63 b70 o71 (fun A72 l72 _=>ix A72 l72 n15 5 (fun b73 a74=>ldI σ63 .i64 b73 (a74+1) (fun n75=>
  dr p (fun b76 o77=>ldS σ63 b76 (o77+2) (fun A78 l78 _=>ix A78 l78 g 5 (fun b79 a80=>ldI σ63 .i64 b79 (a80+1) (fun n81=>
  wk .i64 (n75*n81) (fun n82=>wk .i64 (n69+n82) (fun n83=>ix A66 l66 n15 1 (fun b84 a85=>st σ63 b84 a85 (.int .i64 n83) (fun σ86=>
  rt σ86 R (.tuple #[])))))))))))))))))))))))))))))))))))))))))))))))))) (fun J18=>∃ I89:Nat->Option Addr->Nat->Nat->Int->Hp->Prop,(∃ n900,I89 n900 none 0 0 0 σ) /\
  ∀ n90:Nat,∀ A91:Option Addr,∀ l91 c91:Nat,∀ n92:Int,∀ σ88:Hp,I89 n90 A91 l91 c91 n92 σ88->∀ _:Nat->Value,dr p (fun b93 o94=>
  ldS σ88 b93 (o94+5) (fun A95 l95 _=>ix A95 l95 n15 1 (fun b96 a97=>ldS σ88 b96 a97 (fun _ l98 _=>
  bc (decide (n92<((l98:Nat):Int))) (cut (α:=Option Addr->Nat->Nat->Hp->Prop) (fun A102 l102 c102 σ100=>
  ∀ _:Nat->Value,wk .i64 (n92+1) (fun n103=>bk σ100 n90 (fun m104 σ105=>I89 m104 A102 l102 c102 n103 σ105))) (fun J101=>
  dr p (fun b106 o107=>ldS σ88 b106 (o107+5) (fun A108 l108 _=>ix A108 l108 n15 1 (fun b109 a110=>
  ldS σ88 b109 a110 (fun A111 l111 _=>ix A111 l111 n92 1 (fun b112 a113=>ldI σ88 .i64 b112 a113 (fun n114=>
  bc (!decide (n114=g)) (dr p (fun b115 o116=>ldS σ88 b115 (o116+5) (fun A117 l117 _=>ix A117 l117 n15 1 (fun b118 a119=>
  ldS σ88 b118 a119 (fun A120 l120 _=>ix A120 l120 n92 1 (fun b121 a122=>ldI σ88 .i64 b121 a122 (fun n123=>
  adp 3 [.int .i64] A91 l91 c91 σ88 (fun (xs124:List Int) σ125=>Bm (List.length xs124+List.length ([n123]:List Int)) (exl 3 [.int .i64] (xs124++([n123]:List Int)) σ125 (fun A126 l126 c126 σ127=>
  J101 A126 l126 c126 σ127)))))))))) (J101 A91 l91 c91 σ88))))))))) (J18 A91 l91 c91 σ88))))))))))))))))
def Ac:OA:=⟨[],false,[]⟩
def Lp:MAn:=(.seq (.txt []) (.seq (.plan [] (tkVQ3 15 0 Ac .done)) (.seq (.txt []) (.cut ⟨[],0,[.slot 8 (.sc (.slc))],[(0,true),(1,true),(2,true),(6,true),(7,true)]⟩ (.seq (.txt []) (.block (.loop ⟨[],0,[.slot 8 (.sc (.slc)),.slot 9 (.sc (.int .i64))],[(0,true),(1,true),(2,true),(6,true),(7,true)]⟩ (.seq (.seq (.txt []) (.cond .leaf .leaf)) (.cut ⟨[],0,[.slot 8 (.sc (.slc))],[(0,true),(1,true),(2,true),(6,true),(7,true),(9,true)]⟩ (.block (.seq (.txt []) (.cond (.txt []) .leaf))) (.txt [])))))) (.seq (.txt []) (.seq (.plan [22,25] (tkVQ3 21 0 Ac (.alt 21 true Ac (.alt 22 false Ac (.take 23 Ac (.take 24 Ac (.alt 25 false Ac .done .done))) .done) .done))) (.seq (.seq (.txt []) (.cond (.seq (.txt []) .leaf) .leaf)) (.seq (.txt []) (.seq (.txt []) (.seq (.plan [25] (tkVQ3 25 0 Ac (.alt 25 false Ac .done .done))) (.plan [27] (tkVQ3 27 0 Ac (.alt 27 false Ac .done .done)))))))))))))
theorem Lb (σ:Hp) (p:Option Addr) (g:Int) (on:Bool) (R:Value->Hp->Prop) (h:Ea σ p g on R):Af Tryz.prog 245 #[.pointer p,.int .i64 g,.bool on] σ R:=
 Ae L7 Lp Tryz.func245 rfl (by kernel_rfl) (by kernel_rfl) (by kernel_rfl) h
theorem Iw:Ao Tryz.prog 245=true:=by kernel_rfl
abbrev H8:FuncId:=246
def EM (σ:Hp) (p:Option Addr) (ride:Int) (R:Value->Hp->Prop):Prop:=
 dr p (fun b1 o2=>ldS σ b1 o2 (fun A3 l3 _=>ix A3 l3 ride 5 (fun b4 a5=>ldI σ .i64 b4 a5 (fun n6=>
  ldI σ .i64 b4 (a5+1) (fun n7=>ldI σ .i64 b4 (a5+2) (fun _=>ldI σ .i64 b4 (a5+3) (fun _=>
  ldB σ b4 (a5+4) (fun t10=>dr p (fun b11 o12=>ldS σ b11 (o12+5) (fun A13 l13 _=>ix A13 l13 ride 1 (fun b14 a15=>
  ldS σ b14 a15 (fun A16 l16 _=>∃ ys17:List Int,RdS [.int .i64] σ A16 l16 ys17/\Bm (List.length ([]:List Int)+List.length ys17) (cut (α:=Int->Hp->Prop) (fun n21 σ19=>
  ∀ _:Nat->Value,rt σ19 R (.bool (decide (n21<n6)))) (fun J20=>∃ I24:Nat->Int->Int->Hp->Prop,(∃ n250,I24 n250 n6 0 σ) /\
  ∀ n25:Nat,∀ n26 n27:Int,∀ σ23:Hp,I24 n25 n26 n27 σ23->∀ _:Nat->Value,bc (decide (n27<((List.length (([]:List Int)++ys17):Nat):Int))) (cut (α:=Int->Hp->Prop) (fun n31 σ29=>
  ∀ _:Nat->Value,wk .i64 (n27+1) (fun n32=>bk σ29 n25 (fun m33 σ34=>I24 m33 n31 n32 σ34))) (fun J30=>
  (0<=n27/\n27<((List.length (([]:List Int)++ys17):Nat):Int)/\lat (([]:List Int)++ys17) ((n27:Int).toNat) (fun r35=>
  dr p (fun b36 o37=>ldS σ23 b36 (o37+2) (fun A38 l38 _=>ix A38 l38 r35 5 (fun b39 a40=>ldI σ23 .i64 b39 (a40+1) (fun n41=>
  cut (α:=Bool->Hp->Prop) (fun t45 σ43=>∀ _:Nat->Value,bc t45 (cl Tryz.prog (.func (.func 245) #[] #[]) #[.pointer p,.int .i64 r35,.bool false] σ43 (fun _ σ47=>
  J30 n26 σ47)) (bc (decide (n41<=n26)) (wk .i64 (n26-n41) (fun n48=>cl Tryz.prog (.func (.func 245) #[] #[]) #[.pointer p,.int .i64 r35,.bool true] σ43 (fun _ σ50=>
  J30 n48 σ50))) (bc (!t10) (rt σ43 R (.bool (decide (n26<n6)))) (J30 n26 σ43)))) (fun J44=>bc (decide (n6<n41)) (J44 true σ23) (dr p (fun b51 o52=>
  ldS σ23 b51 (o52+4) (fun A53 l53 _=>ix A53 l53 r35 4 (fun b54 a55=>ldI σ23 .i64 b54 (a55+3) (fun n56=>
  wk .i64 (n41*n7) (fun n57=>J44 (decide (n56<n57)) σ23))))))))))))))) (J20 n26 σ23)))))))))))))))
def AS:OA:=⟨[],false,[]⟩
def Mb:MAn:=(.seq (.txt []) (.seq (.txt []) (.seq (.txt []) (.seq (.txt []) (.cut ⟨[true,true],2,[.slot 5 (.hb 0 0),.slot 6 (.sc (.int .i64))],[]⟩ (.seq (.txt []) (.block (.loop ⟨[true,true],2,[.slot 5 (.hb 0 0),.slot 6 (.sc (.int .i64)),.slot 7 (.hl 1 1),.slot 8 (.sc (.int .i64))],[(0,true)]⟩ (.seq (.seq (.txt []) (.cond .leaf .leaf)) (.cut ⟨[true,true],2,[.slot 5 (.hb 0 0),.slot 6 (.sc (.int .i64)),.slot 7 (.hl 1 1)],[(0,true),(8,true)]⟩ (.block (.seq (.txt []) (.seq (.txt []) (.block (.cut ⟨[true,true],2,[.slot 5 (.hb 0 0),.slot 7 (.hl 1 1),.slot 48 (.sc (.bool))],[(0,true),(6,true),(8,true),(9,true),(10,true)]⟩ (.plan [] (tkVQ3 4 0 AS (.take 4 ⟨[],true,[]⟩ (tkVQ3 15 5 AS .done)))) (.cond (.txt []) (.seq (.txt []) (.cond (.seq (.txt []) (.txt [])) (.seq (.txt []) (.cond (.seq (.txt []) .leaf) .leaf)))))))))) (.txt [])))))) (.seq (.txt []) .leaf))))))
theorem Mf (σ:Hp) (p:Option Addr) (ride:Int) (R:Value->Hp->Prop) (h:EM σ p ride R):Af Tryz.prog 246 #[.pointer p,.int .i64 ride] σ R:=
 Ae L7 Mb Tryz.func246 rfl (by kernel_rfl) (by kernel_rfl) (by kernel_rfl) h
theorem Jc:Ao Tryz.prog 246=true:=by kernel_rfl
end Go.Proofs.YthhadkggldcolaaGreat
