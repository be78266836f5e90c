/- What this claim rests on. -/
import Derived.Test.YtoelhdjloaknbaaGreatVB11
namespace Go.Proofs.YtoelhdjloaknbaaGreat
set_option maxRecDepth 100000
open Go.RowKit Go.Proofs.Tryz
def aR (x:MAn):MAn:=.seq (.txt []) x
def tkVQ3:Nat->Nat->OA->MPlan->MPlan
 |0,_,_,x=>x
 |n+1,i,a,x=>.take i a (tkVQ3 n (i+1) a x)
theorem Nv:prog.follows .mixedOrders=true:=by kernel_rfl
def E3 (σ:Hp) (p:aA) (R:aB):Prop:=
 aF (fun σ2=>aF (fun s5=>
  aF (fun s8=>aF (fun s11=>
  aF (fun s14=>∃ I19:Nat->Int->Hp->Prop,(∃ n200,I19 n200 0 s14) /\
  ∀ n20 n21 s18,I19 n20 n21 s18->∀ _:Nat->Value,dr p (fun b22 o23=>ldS s18 b22 o23 (fun _ l24 _=>
  bc (decide (n21<(l24:Int))) (aF (fun s26=>wk .i64 (n21+1) (fun n28=>
  bk s26 n20 (fun m29 s30=>I19 m29 n28 s30))) (fun J27=>aH (fun n34 s32=>dr p (fun b35 o36=>ldS s32 b35 (o36+10) (fun A37 l37 _=>dr p (fun b38 o39=>
  ldS s32 b38 (o39+10) (fun A40 l40 _=>ix A40 l40 n21 1 (fun b41 a42=>ldI s32 .i64 b41 a42 (fun n43=>
  ix A37 l37 n21 1 (fun b44 a45=>st s32 b44 a45 (aD (if n34>n43 then n34 else n43)) (fun s46=>
  J27 s46))))))))) (fun J33=>∃ I49:Nat->Int->Int->Hp->Prop,(∃ n500,I49 n500 0 0 s18)/\∀ n50 n51 n52 s48,I49 n50 n51 n52 s48->∀ _:Nat->Value,dr p (fun b53 o54=>
  ldS s48 b53 (o54+5) (fun A55 l55 _=>ix A55 l55 n21 1 (fun b56 a57=>ldS s48 b56 a57 (fun _ l58 _=>
  bc (decide (n52<(l58:Int))) (dr p (fun b59 o60=>ldS s48 b59 (o60+2) (fun A61 l61 _=>
  dr p (fun b62 o63=>ldS s48 b62 (o63+5) (fun A64 l64 _=>ix A64 l64 n21 1 (fun b65 a66=>ldS s48 b65 a66 (fun A67 l67 _=>
  ix A67 l67 n52 1 (fun b68 a69=>ldI s48 .i64 b68 a69 (fun n70=>ix A61 l61 n70 5 (fun b71 a72=>ldI s48 .i64 b71 (a72+1) (fun n73=>
  wk .i64 (n51+n73) (fun n74=>wk .i64 (n52+1) (fun n75=>bk s48 n50 (fun m76 s77=>I49 m76 n74 n75 s77)))))))))))))) (J33 n51 s48)))))))) (rt s18 R (.tuple #[]))))) (fun J15=>
  ∃ I80:Nat->Int->Hp->Prop,(∃ n810,I80 n810 0 s11)/\∀ n81 n82 s79,I80 n81 n82 s79->∀ _:Nat->Value,dr p (fun b83 o84=>
  ldS s79 b83 o84 (fun _ l85 _=>bc (decide (n82<(l85:Int))) (aF (fun s87=>wk .i64 (n82+1) (fun n89=>bk s87 n81 (fun m90 s91=>I80 m90 n89 s91))) (fun J88=>
  aF (fun s93=>aC 221 #[.pointer p,aD n82] s93 (aI fun t97 s96=>(bc t97 (dr p (fun b98 o99=>ldS s96 b98 (o99+6) (fun A100 l100 _=>
  dr p (fun b101 o102=>ldI s96 .i64 b101 (o102+3) (fun n103=>ix A100 l100 n82 1 (fun b104 a105=>
  st s96 b104 a105 (aD n103) (fun s106=>J88 s106))))))) (J88 s96)))) (fun J94=>aG (fun t110 s108=>bc t110 (J88 s108) (J94 s108)) (fun J109=>dr p (fun b111 o112=>ldS s79 b111 (o112+6) (fun A113 l113 _=>
  ix A113 l113 n82 1 (fun b114 a115=>ldI s79 .i64 b114 a115 (fun n116=>bc (decide ((0:Int)<=n116)) (J109 true s79) (dr p (fun b117 o118=>
  ldS s79 b117 (o118+7) (fun A119 l119 _=>ix A119 l119 n82 1 (fun b120 a121=>ldI s79 .i64 b120 a121 (fun n122=>
  bc (decide ((0:Int)<=n122)) (dr p (fun b123 o124=>ldI s79 .i64 b123 (o124+3) (fun n125=>dr p (fun b126 o127=>
  ldS s79 b126 (o127+7) (fun A128 l128 _=>ix A128 l128 n82 1 (fun b129 a130=>ldI s79 .i64 b129 a130 (fun n131=>
  wk .i64 (n125-n131) (fun n132=>dr p (fun b133 o134=>ldS s79 b133 o134 (fun A135 l135 _=>ix A135 l135 n82 5 (fun b136 a137=>
  ldI s79 .i64 b136 (a137+3) (fun n138=>J109 (decide (n132<n138)) s79)))))))))))) (J109 false s79)))))))))))))) (J15 s79))))) (fun J12=>
  ∃ I141:Nat->Int->Hp->Prop,(∃ n1420,I141 n1420 0 s8)/\∀ n142 n143 s140,I141 n142 n143 s140->∀ _:Nat->Value,dr p (fun b144 o145=>
  ldS s140 b144 (o145+2) (fun _ l146 _=>bc (decide (n143<(l146:Int))) (aF (fun s148=>wk .i64 (n143+1) (fun n150=>bk s148 n142 (fun m151 s152=>I141 m151 n150 s152))) (fun J149=>
  dr p (fun b153 o154=>ldS s140 b153 (o154+4) (fun A155 l155 _=>ix A155 l155 n143 4 (fun b156 a157=>
  ldI s140 .i64 b156 a157 (fun n158=>ldI s140 .i64 b156 (a157+1) (fun _=>ldI s140 .i64 b156 (a157+2) (fun n160=>
  ldI s140 .i64 b156 (a157+3) (fun _=>aG (fun t165 s163=>
  bc t165 (aC 220 #[.pointer p,aD n143,.bool false] s163 (fun _ s167=>
  J149 s167)) (J149 s163)) (fun J164=>bc (decide (n158=2)) (dr p (fun b168 o169=>ldI s140 .i64 b168 (o169+3) (fun n170=>
  wk .i64 (n170-n160) (fun n171=>dr p (fun b172 o173=>ldS s140 b172 (o173+2) (fun A174 l174 _=>
  ix A174 l174 n143 5 (fun b175 a176=>ldI s140 .i64 b175 (a176+4) (fun n177=>J164 (decide (n177<n171)) s140)))))))) (J164 false s140))))))))))) (J12 s140))))) (fun J9=>
  ∃ I180:Nat->Int->Hp->Prop,(∃ n1810,I180 n1810 0 s5)/\∀ n181 n182 s179,I180 n181 n182 s179->∀ _:Nat->Value,dr p (fun b183 o184=>
  ldS s179 b183 (o184+2) (fun _ l185 _=>bc (decide (n182<(l185:Int))) (aF (fun s187=>wk .i64 (n182+1) (fun n189=>bk s187 n181 (fun m190 s191=>I180 m190 n189 s191))) (fun J188=>
  dr p (fun b192 o193=>ldS s179 b192 (o193+4) (fun A194 l194 _=>ix A194 l194 n182 4 (fun b195 a196=>
  ldI s179 .i64 b195 a196 (fun n197=>ldI s179 .i64 b195 (a196+1) (fun _=>ldI s179 .i64 b195 (a196+2) (fun n199=>
  ldI s179 .i64 b195 (a196+3) (fun _=>aG (fun t204 s202=>
  bc t204 (aC 218 #[.pointer p,aD n182] s202 (fun _ s206=>
  J188 s206)) (aG (fun t210 s208=>bc t210 (aC 219 #[.pointer p,aD n182] s208 (fun _ s212=>
  J188 s212)) (J188 s208)) (fun J209=>bc (decide (n197=1)) (dr p (fun b213 o214=>ldI s202 .i64 b213 (o214+3) (fun n215=>
  wk .i64 (n215-n199) (fun n216=>dr p (fun b217 o218=>ldI s202 .i64 b217 (o218+1) (fun n219=>
  J209 (decide (n216=n219)) s202)))))) (J209 false s202)))) (fun J203=>bc (decide (n197=0)) (dr p (fun b220 o221=>
  ldS s179 b220 (o221+2) (fun A222 l222 _=>ix A222 l222 n182 5 (fun b223 a224=>ldI s179 .i64 b223 a224 (fun n225=>
  dr p (fun b226 o227=>ldI s179 .i64 b226 (o227+3) (fun n228=>J203 (decide (n225=n228)) s179))))))) (J203 false s179))))))))))) (J9 s179))))) (fun J6=>
  ∃ I231:Nat->Int->Hp->Prop,(∃ n2320,I231 n2320 0 σ2)/\∀ n232 n233 s230,I231 n232 n233 s230->∀ _:Nat->Value,dr p (fun b234 o235=>
  ldS s230 b234 (o235+2) (fun _ l236 _=>bc (decide (n233<(l236:Int))) (aF (fun s238=>wk .i64 (n233+1) (fun n240=>bk s238 n232 (fun m241 s242=>I231 m241 n240 s242))) (fun J239=>
  dr p (fun b243 o244=>ldS s230 b243 (o244+4) (fun A245 l245 _=>ix A245 l245 n233 4 (fun b246 a247=>
  ldI s230 .i64 b246 a247 (fun n248=>ldI s230 .i64 b246 (a247+1) (fun n249=>ldI s230 .i64 b246 (a247+2) (fun _=>
  ldI s230 .i64 b246 (a247+3) (fun _=>aG (fun t255 s253=>
  bc t255 (aC 218 #[.pointer p,aD n233] s253 (fun _ s257=>
  J239 s257)) (J239 s253)) (fun J254=>bc (decide (n248=3)) (dr p (fun b258 o259=>ldS s230 b258 (o259+7) (fun A260 l260 _=>
  dr p (fun b261 o262=>ldS s230 b261 (o262+2) (fun A263 l263 _=>ix A263 l263 n233 5 (fun b264 a265=>
  ldS s230 b264 (a265+3) (fun A266 l266 _=>ix A266 l266 n249 1 (fun b267 a268=>ldI s230 .i64 b267 a268 (fun n269=>
  ix A260 l260 n269 1 (fun b270 a271=>ldI s230 .i64 b270 a271 (fun n272=>dr p (fun b273 o274=>ldI s230 .i64 b273 (o274+3) (fun n275=>
  J254 (decide (n272=n275)) s230))))))))))))) (J254 false s230))))))))))) (J6 s230))))) (fun J3=>∃ I278:Nat->Int->Hp->Prop,(∃ n2790,I278 n2790 0 σ) /\
  ∀ n279 n280 s277,I278 n279 n280 s277->∀ _:Nat->Value,dr p (fun b281 o282=>
  ldS s277 b281 o282 (fun _ l283 _=>bc (decide (n280<(l283:Int))) (aF (fun s285=>wk .i64 (n280+1) (fun n287=>bk s285 n279 (fun m288 s289=>I278 m288 n287 s289))) (fun J286=>
  aF (fun s291=>dr p (fun b293 o294=>ldS s291 b293 (o294+6) (fun A295 l295 _=>
  ix A295 l295 n280 1 (fun b296 a297=>st s291 b296 a297 (aD (-1)) (fun s298=>dr p (fun b299 o300=>
  ldS s298 b299 (o300+7) (fun A301 l301 _=>dr p (fun b302 o303=>ldI s298 .i64 b302 (o303+3) (fun n304=>
  ix A301 l301 n280 1 (fun b305 a306=>st s298 b305 a306 (aD n304) (fun s307=>J286 s307))))))))))) (fun J292=>
  aG (fun t311 s309=>bc t311 (J286 s309) (J292 s309)) (fun J310=>
  dr p (fun b312 o313=>ldS s277 b312 (o313+6) (fun A314 l314 _=>ix A314 l314 n280 1 (fun b315 a316=>
  ldI s277 .i64 b315 a316 (fun n317=>bc (decide (n317<0)) (J310 true s277) (dr p (fun b318 o319=>
  ldI s277 .i64 b318 (o319+3) (fun n320=>dr p (fun b321 o322=>ldS s277 b321 (o322+6) (fun A323 l323 _=>
  ix A323 l323 n280 1 (fun b324 a325=>ldI s277 .i64 b324 a325 (fun n326=>wk .i64 (n320-n326) (fun n327=>
  dr p (fun b328 o329=>ldS s277 b328 o329 (fun A330 l330 _=>ix A330 l330 n280 5 (fun b331 a332=>
  ldI s277 .i64 b331 (a332+2) (fun n333=>J310 (!decide (n327=n333)) s277)))))))))))))))))))) (J3 s277))))
def Aa:OA:=⟨[],false,[]⟩
def Gj:MAn:=(.plan [] (.take 0 Aa (.take 1 Aa (.take 2 Aa (.take 3 ⟨[],true,[]⟩ (tkVQ3 14 4 Aa .done))))))
def Gk:MAn:=(.plan [10] (tkVQ3 10 0 Aa (.alt 10 false Aa .done .done)))
def Nj:MAn:=(.cut ⟨[],0,[],[(0,true)]⟩ (aR (.block (.loop ⟨[],0,[.slot 2 (.sc (.int .i64))],[(0,true)]⟩ (.seq (aR (.cond .leaf .leaf)) (.cut ⟨[],0,[],[(0,true),(2,true)]⟩ (.block (.cut ⟨[],0,[],[(0,true),(2,true)]⟩ (.cut ⟨[],0,[.slot 54 (.sc (.bool))],[(0,true),(2,true)]⟩ (.plan [] (tkVQ3 8 0 Aa (.take 8 ⟨[],true,[]⟩ (tkVQ3 23 9 Aa .done)))) (.cond .leaf .leaf)) (aR Gk))) (.txt [])))))) (.cut ⟨[],0,[],[(0,true)]⟩ (aR (.block (.loop ⟨[],0,[.slot 3 (.sc (.int .i64))],[(0,true)]⟩ (.seq (aR (.cond .leaf .leaf)) (.cut ⟨[],0,[],[(0,true),(3,true)]⟩ (.block (aR (.cut ⟨[true],1,[.slot 114 (.sc (.bool))],[(0,true),(3,true)]⟩ (.plan [] (.take 0 Aa (.take 1 Aa (.take 2 Aa (.take 3 ⟨[],true,[]⟩ (tkVQ3 24 4 Aa .done)))))) (.cond (.txt []) .leaf)))) (.txt [])))))) (.cut ⟨[],0,[],[(0,true)]⟩ (aR (.block (.loop ⟨[],0,[.slot 5 (.sc (.int .i64))],[(0,true)]⟩ (.seq (aR (.cond .leaf .leaf)) (.cut ⟨[],0,[],[(0,true),(5,true)]⟩ (.block (aR (.cut ⟨[true],1,[.slot 6 (.hb 0 0),.slot 151 (.sc (.bool))],[(0,true),(5,true)]⟩ Gj (.cond (.txt []) (.cut ⟨[true],1,[.slot 172 (.sc (.bool))],[(0,true),(5,true)]⟩ Gj (.cond (.txt []) .leaf)))))) (.txt [])))))) (.cut ⟨[],0,[],[(0,true)]⟩ (aR (.block (.loop ⟨[],0,[.slot 7 (.sc (.int .i64))],[(0,true)]⟩ (.seq (aR (.cond .leaf .leaf)) (.cut ⟨[],0,[],[(0,true),(7,true)]⟩ (.block (aR (.cut ⟨[true],1,[.slot 212 (.sc (.bool))],[(0,true),(7,true)]⟩ (.plan [] (.take 0 Aa (.take 1 Aa (.take 2 Aa (.take 3 ⟨[],true,[]⟩ (tkVQ3 17 4 Aa .done)))))) (.cond (.txt []) .leaf)))) (.txt [])))))) (.cut ⟨[],0,[],[(0,true)]⟩ (aR (.block (.loop ⟨[],0,[.slot 9 (.sc (.int .i64))],[(0,true)]⟩ (.seq (aR (.cond .leaf .leaf)) (.cut ⟨[],0,[],[(0,true),(9,true)]⟩ (.block (.cut ⟨[],0,[],[(0,true),(9,true)]⟩ (.cut ⟨[],0,[.slot 267 (.sc (.bool))],[(0,true),(9,true)]⟩ (.plan [] (tkVQ3 8 0 Aa (.take 8 ⟨[],true,[]⟩ (tkVQ3 8 9 Aa (.take 17 ⟨[],true,[]⟩ (tkVQ3 24 18 Aa .done)))))) (.cond .leaf .leaf)) (aR (.cond Gk .leaf)))) (.txt [])))))) (aR (.block (.loop ⟨[],0,[.slot 10 (.sc (.int .i64))],[(0,true)]⟩ (.seq (aR (.cond .leaf .leaf)) (.cut ⟨[],0,[],[(0,true),(10,true)]⟩ (.block (aR (.cut ⟨[],0,[.slot 11 (.sc (.int .i64))],[(0,true),(10,true)]⟩ (aR (.block (.loop ⟨[],0,[.slot 11 (.sc (.int .i64)),.slot 12 (.sc (.int .i64))],[(0,true),(10,true)]⟩ (.seq (aR (.cond .leaf .leaf)) (.seq (.block (.plan [] (tkVQ3 20 0 Aa .done))) (.txt [])))))) (.plan [15] (tkVQ3 15 0 Aa (.alt 15 false Aa .done .done)))))) (.txt [])))))))))))
theorem Nc (σ:Hp) (p:aA) (R:aB) (h:E3 σ p R):Af prog 164 #[.pointer p] σ R:=
 Ae Nv Nj Tryz.func164 rfl (h:=h)
def Gw (σ:Hp) (p:aA) (g:Int) (R:aB):Prop:=
 dr p (fun b1 o2=>ldS σ b1 (o2+4) (fun A3 l3 _=>ix A3 l3 g 4 (fun b4 a5=>ldI σ .i64 b4 (a5+1) (fun n6=>
  wk .i64 (n6+1) (fun n7=>st σ b4 (a5+1) (aD n7) (fun s8=>dr p (fun b9 o10=>ldI s8 .i64 b9 (o10+3) (fun n11=>
  st s8 b4 (a5+2) (aD n11) (fun s12=>ldI s12 .i64 b4 (a5+1) (fun n13=>dr p (fun b14 o15=>
  ldS s12 b14 (o15+2) (fun A16 l16 _=>ix A16 l16 g 5 (fun b17 a18=>ldS s12 b17 (a18+3) (fun _ l19 _=>
  bc (decide ((l19:Int)<=n13)) (st s12 b4 a5 (aD 4) (fun s20=>dr p (fun b21 o22=>
  ldS s20 b21 (o22+11) (fun A23 l23 _=>dr p (fun b24 o25=>ldI s20 .i64 b24 (o25+3) (fun n26=>
  ix A23 l23 g 1 (fun b27 a28=>st s20 b27 a28 (aD n26) (fun s29=>rt s29 R (.tuple #[]))))))))) (st s12 b4 a5 (aD 1) (fun s30=>
  dr p (fun b31 o32=>ldI s30 .i64 b31 (o32+1) (fun n33=>bc (decide (n33=0)) (aC 219 #[.pointer p,aD g] s30 (fun _ s35=>
  rt s35 R (.tuple #[]))) (rt s30 R (.tuple #[]))))))))))))))))))))
def AK:OA:=⟨[],false,[]⟩
def Pm:MAn:=(aR (aR (aR (.seq (.seq (.plan [] (tkVQ3 14 0 AK .done)) (.cond (aR (.seq (.plan [10] (tkVQ3 10 0 AK (.alt 10 false AK .done .done))) .leaf)) .leaf)) (aR (aR (.cond (.txt []) .leaf)))))))
theorem PB (σ:Hp) (p:aA) (g:Int) (R:aB) (h:Gw σ p g R):Af prog 218 #[.pointer p,aD g] σ R:=
 Ae Nv Pm Tryz.func218 rfl (h:=h)
def Ee (σ:Hp) (p:aA) (g:Int) (R:aB):Prop:=
 dr p (fun b1 o2=>ldS σ b1 (o2+4) (fun A3 l3 _=>ix A3 l3 g 4 (fun b4 a5=>dr p (fun b6 o7=>ldS σ b6 (o7+2) (fun A8 l8 _=>
  ix A8 l8 g 5 (fun b9 a10=>ldS σ b9 (a10+3) (fun A11 l11 _=>ldI σ .i64 b4 (a5+1) (fun n12=>
  ix A11 l11 n12 1 (fun b13 a14=>ldI σ .i64 b13 a14 (fun n15=>st σ b4 a5 (aD 2) (fun s16=>
  dr p (fun b17 o18=>ldI s16 .i64 b17 (o18+3) (fun n19=>st s16 b4 (a5+2) (aD n19) (fun s20=>
  dr p (fun b21 o22=>dr p (fun b23 o24=>ldS s20 b23 (o24+5) (fun A25 l25 _=>ix A25 l25 n15 1 (fun b26 a27=>
  ldS s20 b26 a27 (fun A28 l28 c28=>((ldS s20 b21 (o22+5) (fun A29 l29 _=>adp 3 aM A28 l28 c28 s20 (fun (xs30:List Int) s31=>
  Bi (List.length xs30+List.length ([g]:List Int)) (ix A29 l29 n15 1 (fun b32 a33=>exl 3 aM (xs30++([g]:List Int)) s31 (fun A34 l34 c34 s35=>
  st s35 b32 a33 (aN A34 l34 c34) (fun s36=>rt s36 R (.tuple #[]))))))))/\((ldS s20 b21 (o22+5) (fun A37 l37 _=>
  adp 3 aM A28 l28 c28 s20 (fun (xs38:List Int) s39=>Bi (List.length xs38+List.length ([g]:List Int)) (ix A37 l37 n15 1 (fun b40 a41=>
  exl 3 aM (xs38++([g]:List Int)) s39 (fun A42 l42 c42 s43=>st s43 b40 a41 (aN A42 l42 c42) (fun s44=>
  rt s44 R (.tuple #[]))))))))/\(adp 3 aM A28 l28 c28 s20 (fun (xs45:List Int) s46=>Bi (List.length xs45+List.length ([g]:List Int)) (ldS s46 b21 (o22+5) (fun A47 l47 _=>
  ix A47 l47 n15 1 (fun b48 a49=>exl 3 aM (xs45++([g]:List Int)) s46 (fun A50 l50 c50 s51=>
  st s51 b48 a49 (aN A50 l50 c50) (fun s52=>rt s52 R (.tuple #[])))))))))))))))))))))))))))))
def Ap:OA:=⟨[],false,[]⟩
def C3:MPlan:=(.take 15 Ap (.alt 16 false Ap .done .done))
def L9:MAn:=(aR (.seq (.plan [] (tkVQ3 15 0 Ap .done)) (aR (aR (.plan [14,16] (.take 0 Ap (.take 1 Ap (.take 2 Ap (tkVQ3 9 4 Ap (.alt 3 true Ap (.alt 13 true Ap (.alt 14 false Ap C3 .done) .done) (.alt 13 true Ap (.alt 3 true Ap (.alt 14 false Ap C3 .done) (.alt 14 false Ap (.take 3 Ap C3) .done)) .done)))))))))))
theorem LV (σ:Hp) (p:aA) (g:Int) (R:aB) (h:Ee σ p g R):Af prog 219 #[.pointer p,aD g] σ R:=
 Ae Nv L9 Tryz.func219 rfl (h:=h)
def Ei (σ:Hp) (p:aA) (g:Int) (on:Bool) (R:aB):Prop:=
 dr p (fun b1 o2=>ldS σ b1 (o2+4) (fun A3 l3 _=>ix A3 l3 g 4 (fun b4 a5=>dr p (fun b6 o7=>ldS σ b6 (o7+2) (fun A8 l8 _=>
  ix A8 l8 g 5 (fun b9 a10=>ldS σ b9 (a10+3) (fun A11 l11 _=>ldI σ .i64 b4 (a5+1) (fun n12=>
  ix A11 l11 n12 1 (fun b13 a14=>ldI σ .i64 b13 a14 (fun n15=>cut (α:=aA->Nat->Nat->Hp->Prop) (fun A19 l19 c19 s17=>
  ∀ _:Nat->Value,dr p (fun b20 o21=>ldS s17 b20 (o21+5) (fun A22 l22 _=>ix A22 l22 n15 1 (fun b23 a24=>
  st s17 b23 a24 (aN A19 l19 c19) (fun s25=>dr p (fun b26 o27=>ldS s25 b26 (o27+8) (fun A28 l28 c28=>
  ldI s25 .i64 b4 (a5+1) (fun n29=>ldI s25 .i64 b4 (a5+2) (fun n30=>dr p (fun b31 o32=>ldI s25 .i64 b31 (o32+3) (fun n33=>
  adp 75 [.int .i64,.int .i64,.int .i64,.bool,.int .i64,.int .i64] A28 l28 c28 s25 (fun (xs34:List (Int×Int×Int×Bool×Int×Int)) s35=>
  Bi (List.length xs34+List.length ([(g,n29,n15,on,n30,n33)]:List (Int×Int×Int×Bool×Int×Int))) (dr p (fun b36 o37=>
  exl 75 [.int .i64,.int .i64,.int .i64,.bool,.int .i64,.int .i64] (xs34++([(g,n29,n15,on,n30,n33)]:List (Int×Int×Int×Bool×Int×Int))) s35 (fun A38 l38 c38 s39=>
  st s39 b36 (o37+8) (aN A38 l38 c38) (fun s40=>bc (!on) (aC 218 #[.pointer p,aD g] s40 (fun _ s42=>
  rt s42 R (.tuple #[]))) (st s40 b4 a5 (aD 3) (fun s43=>dr p (fun b44 o45=>ldI s43 .i64 b44 (o45+3) (fun n46=>
  st s43 b4 (a5+2) (aD n46) (fun s47=>ldI s47 .i64 b4 (a5+3) (fun n48=>dr p (fun b49 o50=>
  ldS s47 b49 o50 (fun A51 l51 _=>ix A51 l51 n15 5 (fun b52 a53=>ldI s47 .i64 b52 (a53+1) (fun n54=>
  dr p (fun b55 o56=>ldS s47 b55 (o56+2) (fun A57 l57 _=>ix A57 l57 g 5 (fun b58 a59=>ldI s47 .i64 b58 (a59+1) (fun n60=>
  wk .i64 (n54*n60) (fun n61=>wk .i64 (n48-n61) (fun n62=>st s47 b4 (a5+3) (aD n62) (fun s63=>
  dr p (fun b64 o65=>ldS s63 b64 (o65+9) (fun A66 l66 _=>ix A66 l66 n15 1 (fun b67 a68=>ldI s63 .i64 b67 a68 (fun n69=>
  dr p (fun b70 o71=>ldS s63 b70 o71 (fun A72 l72 _=>ix A72 l72 n15 5 (fun b73 a74=>ldI s63 .i64 b73 (a74+1) (fun n75=>
  dr p (fun b76 o77=>ldS s63 b76 (o77+2) (fun A78 l78 _=>ix A78 l78 g 5 (fun b79 a80=>ldI s63 .i64 b79 (a80+1) (fun n81=>
  wk .i64 (n75*n81) (fun n82=>wk .i64 (n69+n82) (fun n83=>ix A66 l66 n15 1 (fun b84 a85=>st s63 b84 a85 (aD n83) (fun s86=>
  rt s86 R (.tuple #[])))))))))))))))))))))))))))))))))))))))))))))))))) (fun J18=>∃ I89:Nat->aA->Nat->Nat->Int->Hp->Prop,(∃ n900,I89 n900 none 0 0 0 σ) /\
  ∀ n90 A91 l91 c91 n92 s88,I89 n90 A91 l91 c91 n92 s88->∀ _:Nat->Value,dr p (fun b93 o94=>
  ldS s88 b93 (o94+5) (fun A95 l95 _=>ix A95 l95 n15 1 (fun b96 a97=>ldS s88 b96 a97 (fun _ l98 _=>
  bc (decide (n92<(l98:Int))) (cut (α:=aA->Nat->Nat->Hp->Prop) (fun A102 l102 c102 s100=>
  ∀ _:Nat->Value,wk .i64 (n92+1) (fun n103=>bk s100 n90 (fun m104 s105=>I89 m104 A102 l102 c102 n103 s105))) (fun J101=>
  dr p (fun b106 o107=>ldS s88 b106 (o107+5) (fun A108 l108 _=>ix A108 l108 n15 1 (fun b109 a110=>
  ldS s88 b109 a110 (fun A111 l111 _=>ix A111 l111 n92 1 (fun b112 a113=>ldI s88 .i64 b112 a113 (fun n114=>
  bc (!decide (n114=g)) (dr p (fun b115 o116=>ldS s88 b115 (o116+5) (fun A117 l117 _=>ix A117 l117 n15 1 (fun b118 a119=>
  ldS s88 b118 a119 (fun A120 l120 _=>ix A120 l120 n92 1 (fun b121 a122=>ldI s88 .i64 b121 a122 (fun n123=>
  adp 3 aM A91 l91 c91 s88 (fun (xs124:List Int) s125=>Bi (List.length xs124+List.length ([n123]:List Int)) (exl 3 aM (xs124++([n123]:List Int)) s125 (fun A126 l126 c126 s127=>
  J101 A126 l126 c126 s127)))))))))) (J101 A91 l91 c91 s88))))))))) (J18 A91 l91 c91 s88))))))))))))))))
def Ac:OA:=⟨[],false,[]⟩
def LT:MAn:=(aR (.seq (.plan [] (tkVQ3 15 0 Ac .done)) (aR (.cut ⟨[],0,[.slot 8 (.sc (.slc))],[(0,true),(1,true),(2,true),(6,true),(7,true)]⟩ (aR (.block (.loop ⟨[],0,[.slot 8 (.sc (.slc)),.slot 9 (.sc (.int .i64))],[(0,true),(1,true),(2,true),(6,true),(7,true)]⟩ (.seq (aR (.cond .leaf .leaf)) (.cut ⟨[],0,[.slot 8 (.sc (.slc))],[(0,true),(1,true),(2,true),(6,true),(7,true),(9,true)]⟩ (.block (aR (.cond (.txt []) .leaf))) (.txt [])))))) (aR (.seq (.plan [22,25] (tkVQ3 21 0 Ac (.alt 21 true Ac (.alt 22 false Ac (.take 23 Ac (.take 24 Ac (.alt 25 false Ac .done .done))) .done) .done))) (.seq (aR (.cond (aR .leaf) .leaf)) (aR (aR (.seq (.plan [25] (tkVQ3 25 0 Ac (.alt 25 false Ac .done .done))) (.plan [27] (tkVQ3 27 0 Ac (.alt 27 false Ac .done .done)))))))))))))
theorem L4 (σ:Hp) (p:aA) (g:Int) (on:Bool) (R:aB) (h:Ei σ p g on R):Af prog 220 #[.pointer p,aD g,.bool on] σ R:=
 Ae Nv LT Tryz.func220 rfl (h:=h)
def Ff (σ:Hp) (p:aA) (ride:Int) (R:aB):Prop:=
 dr p (fun b1 o2=>ldS σ b1 o2 (fun A3 l3 _=>ix A3 l3 ride 5 (fun b4 a5=>ldI σ .i64 b4 a5 (fun n6=>
  ldI σ .i64 b4 (a5+1) (fun n7=>ldI σ .i64 b4 (a5+2) (fun _=>ldI σ .i64 b4 (a5+3) (fun _=>
  ldB σ b4 (a5+4) (fun t10=>dr p (fun b11 o12=>ldS σ b11 (o12+5) (fun A13 l13 _=>ix A13 l13 ride 1 (fun b14 a15=>
  ldS σ b14 a15 (fun A16 l16 _=>∃ ys17:List Int,RdS aM σ A16 l16 ys17/\Bi (List.length ([]:List Int)+List.length ys17) (aH (fun n21 s19=>rt s19 R (.bool (decide (n21<n6)))) (fun J20=>∃ I24:Nat->Int->Int->Hp->Prop,(∃ n250,I24 n250 n6 0 σ) /\
  ∀ n25 n26 n27 s23,I24 n25 n26 n27 s23->∀ _:Nat->Value,bc (decide (n27<((List.length (([]:List Int)++ys17):Nat):Int))) (aH (fun n31 s29=>wk .i64 (n27+1) (fun n32=>bk s29 n25 (fun m33 s34=>I24 m33 n31 n32 s34))) (fun J30=>
  (0<=n27/\n27<((List.length (([]:List Int)++ys17):Nat):Int)/\lat (([]:List Int)++ys17) ((n27:Int).toNat) (fun r35=>
  dr p (fun b36 o37=>ldS s23 b36 (o37+2) (fun A38 l38 _=>ix A38 l38 r35 5 (fun b39 a40=>ldI s23 .i64 b39 (a40+1) (fun n41=>
  aG (fun t45 s43=>bc t45 (aC 220 #[.pointer p,aD r35,.bool false] s43 (fun _ s47=>
  J30 n26 s47)) (bc (decide (n41<=n26)) (wk .i64 (n26-n41) (fun n48=>aC 220 #[.pointer p,aD r35,.bool true] s43 (fun _ s50=>
  J30 n48 s50))) (bc (!t10) (rt s43 R (.bool (decide (n26<n6)))) (J30 n26 s43)))) (fun J44=>bc (decide (n6<n41)) (J44 true s23) (dr p (fun b51 o52=>
  ldS s23 b51 (o52+4) (fun A53 l53 _=>ix A53 l53 r35 4 (fun b54 a55=>ldI s23 .i64 b54 (a55+3) (fun n56=>
  wk .i64 (n41*n7) (fun n57=>J44 (decide (n56<n57)) s23))))))))))))))) (J20 n26 s23)))))))))))))))
def AR:OA:=⟨[],false,[]⟩
def Na:MAn:=(aR (aR (aR (aR (.cut ⟨[true,true],2,[.slot 5 (.hb 0 0),.slot 6 (.sc (.int .i64))],[]⟩ (aR (.block (.loop ⟨[true,true],2,[.slot 5 (.hb 0 0),.slot 6 (.sc (.int .i64)),.slot 7 (.hl 1 1),.slot 8 (.sc (.int .i64))],[(0,true)]⟩ (.seq (aR (.cond .leaf .leaf)) (.cut ⟨[true,true],2,[.slot 5 (.hb 0 0),.slot 6 (.sc (.int .i64)),.slot 7 (.hl 1 1)],[(0,true),(8,true)]⟩ (.block (aR (aR (.block (.cut ⟨[true,true],2,[.slot 5 (.hb 0 0),.slot 7 (.hl 1 1),.slot 48 (.sc (.bool))],[(0,true),(6,true),(8,true),(9,true),(10,true)]⟩ (.plan [] (tkVQ3 4 0 AR (.take 4 ⟨[],true,[]⟩ (tkVQ3 15 5 AR .done)))) (.cond (.txt []) (aR (.cond (aR (.txt [])) (aR (.cond (aR .leaf) .leaf)))))))))) (.txt [])))))) (aR .leaf))))))
theorem Ml (σ:Hp) (p:aA) (ride:Int) (R:aB) (h:Ff σ p ride R):Af prog 221 #[.pointer p,aD ride] σ R:=
 Ae Nv Na Tryz.func221 rfl (h:=h)
end Go.Proofs.YtoelhdjloaknbaaGreat
