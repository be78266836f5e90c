/- What this claim rests on. -/
import Derived.Test.YtoelhdjloaknbaaGreatUB11
namespace Go.Proofs.YtoelhdjloaknbaaGreat
set_option maxRecDepth 100000
open Go.RowKit Go.Proofs.Tryz
def aO (x:MAn):MAn:=.seq (.txt []) x
def tkUQ2:Nat->Nat->OA->MPlan->MPlan
 |0,_,_,x=>x
 |n+1,i,a,x=>.take i a (tkUQ2 n (i+1) a x)
theorem Ei:prog.follows .mixedOrders=true:=by kernel_rfl
def IU (σ:Hp) (b0:aA) (a0 _:Nat) (d0:Int) (l_A:aA) (l_n _:Nat) (R:aB):Prop:=
 cut (α:=Int->List (aA)->aA->Nat->Nat->Int->aA->Nat->Nat->Hp->Prop) (fun n4 xs5 A6 l6 c6 n7 A8 l8 c8 σ2=>
  ∀ _:Nat->Value,cut (α:=Int->aA->Nat->Nat->Int->aA->Nat->Nat->Hp->Prop) (fun n12 A13 l13 c13 _ A15 l15 c15 s10=>
  ∀ _:Nat->Value,cut (α:=aA->Hp->Prop) (fun p19 s17=>∀ _:Nat->Value,dr p19 (fun b20 o21=>
  ldS s17 b20 (o21+4) (fun A22 l22 c22=>aC 170 #[aN A22 l22 c22,(.func (.func 171) #[] #[])] s17 (fun _ s24=>
  rt s24 R (.pointer p19))))) (fun J18=>∃ I27:Nat->aA->Hp->Prop,(∃ n280,exl 168 [.ptr] xs5 s10 (fun A29 l29 c29 s30=>
  bx s30 (.cells #[aD n12,aN A29 l29 c29,aN A13 l13 c13,aD 0,aN A15 l15 c15] 186) (fun b31 s32=>
  I27 n280 (some ⟨b31,0,none⟩) s32)))/\∀ n28 p33 s26,I27 n28 p33 s26->∀ _:Nat->Value,dr p33 (fun b34 o35=>
  ldI s26 .i64 b34 (o35+3) (fun n36=>bc (decide (n36<=4000)) (aF (fun s38=>
  dr p33 (fun b40 o41=>ldI s38 .i64 b40 (o41+3) (fun n42=>wk .i64 (n42+1) (fun n43=>dr p33 (fun b44 o45=>
  st s38 b44 (o45+3) (aD n43) (fun s46=>bk s46 n28 (fun m47 s48=>I27 m47 p33 s48))))))) (fun J39=>
  aC 166 #[.pointer p33] s26 (fun _ s50=>aC 167 #[.pointer p33] s50 (fun _ s52=>
  aC 168 #[.pointer p33] s52 (fun _ s54=>aF (fun s56=>dr p33 (fun b58 o59=>ldS s56 b58 (o59+1) (fun A60 l60 _=>∃ I63:Nat->Int->Hp->Prop,(∃ n640,I63 n640 0 s56) /\
  ∀ n64 n65 s62,I63 n64 n65 s62->∀ _:Nat->Value,bc (decide (n65<(l60:Int))) (aF (fun s67=>wk .i64 (n65+1) (fun n69=>bk s67 n64 (fun m70 s71=>I63 m70 n69 s71))) (fun J68=>
  ix A60 l60 n65 1 (fun b72 a73=>ldP s62 b72 a73 (fun p74=>aH (fun n78 s76=>dr p74 (fun b79 o80=>ldI s76 .i64 b79 (o80+10) (fun n81=>dr p74 (fun b82 o83=>
  st s76 b82 (o83+10) (aD (if n78>n81 then n78 else n81)) (fun s84=>J68 s84))))) (fun J77=>
  dr p74 (fun b85 o86=>ldS s62 b85 (o86+8) (fun A87 l87 _=>∃ I90:Nat->Int->Int->Hp->Prop,(∃ n910,I90 n910 0 0 s62) /\
  ∀ n91 n92 n93 s89,I90 n91 n92 n93 s89->∀ _:Nat->Value,bc (decide (n93<(l87:Int))) (ix A87 l87 n93 2 (fun b94 a95=>
  ldI s89 .i64 b94 a95 (fun n96=>ldI s89 .i64 b94 (a95+1) (fun _=>dr p33 (fun b98 o99=>ldS s89 b98 (o99+2) (fun A100 l100 _=>
  ix A100 l100 n96 1 (fun b101 a102=>ldP s89 b101 a102 (fun p103=>dr p103 (fun b104 o105=>ldI s89 .i64 b104 (o105+1) (fun n106=>
  wk .i64 (n92+n106) (fun n107=>wk .i64 (n93+1) (fun n108=>bk s89 n91 (fun m109 s110=>I90 m109 n107 n108 s110))))))))))))) (J77 n92 s89)))))))) (J39 s62)))) (fun J57=>
  dr p33 (fun b111 o112=>ldS s54 b111 (o112+1) (fun _ l113 _=>∃ I116:Nat->Int->Hp->Prop,(∃ n1170,I116 n1170 0 s54) /\
  ∀ n117 n118 s115,I116 n117 n118 s115->∀ _:Nat->Value,bc (decide (n118<(l113:Int))) (aC 169 #[.pointer p33,aD n118] s115 (fun _ s120=>
  wk .i64 (n118+1) (fun n121=>bk s120 n117 (fun m122 s123=>I116 m122 n121 s123)))) (J57 s115))))))))) (J18 p33 s26))))) (fun J11=>
  ∃ I126:Nat->Int->Int->aA->Nat->Nat->Int->aA->Nat->Nat->Hp->Prop,(∃ n1270,I126 n1270 0 n4 A6 l6 c6 n7 A8 l8 c8 σ2) /\
  ∀ n127 n128 n129 A130 l130 c130 n131 A132 l132 c132 s125,I126 n127 n128 n129 A130 l130 c130 n131 A132 l132 c132 s125->∀ _:Nat->Value,bc (decide (n128<(l_n:Int))) (ix l_A l_n n128 5 (fun b133 a134=>
  ldI s125 .i64 b133 a134 (fun n135=>ldI s125 .i64 b133 (a134+1) (fun n136=>ldI s125 .i64 b133 (a134+2) (fun n137=>
  ldS s125 b133 (a134+3) (fun A138 l138 c138=>ldI s125 .i64 b133 (a134+4) (fun n139=>bx s125 (.cells #[aD n135,aD n136,aD n137,aN A138 l138 c138,aD n139,aD 0,aD n137,(aD (-1)),(aD (-1))] 165) (fun b140 s141=>
  bx s141 (.cells #[(.pointer (some ⟨b140,0,none⟩))] 162) (fun b142 s143=>(Hp.Sub s141 s143/\adp 162 [.ptr] A130 l130 c130 s143 (fun (xs144:List (aA)) s145=>
  ∃ ys146:List (aA),RdS [.ptr] s145 (some ⟨b142,0,none⟩) 1 ys146/\AZ (List.length xs144+List.length ys146) (wk .i64 (n128+1) (fun n147=>
  bk s145 n127 (fun m148 s149=>exl 162 [.ptr] (xs144++ys146) s149 (fun A150 l150 c150 s151=>I126 m148 n147 n129 A150 l150 c150 n131 A132 l132 c132 s151))))))))))))))) (J11 n129 A130 l130 c130 n131 A132 l132 c132 s125))) (fun J3=>
  ∃ I154:Nat->Int->Int->List (aA)->aA->Nat->Nat->Int->aA->Nat->Nat->Hp->Prop,(∃ n1550,adp 168 [.ptr] none 0 0 σ (fun (xs156:List (aA)) s157=>
  I154 n1550 0 d0 xs156 none 0 0 0 none 0 0 s157))/\∀ n155 n158 n159 xs160 A161 l161 c161 n162 A163 l163 c163 s153,I154 n155 n158 n159 xs160 A161 l161 c161 n162 A163 l163 c163 s153->∀ _:Nat->Value,bc (decide (n158<(a0:Int))) (ix b0 a0 n158 5 (fun b164 a165=>
  ldI s153 .i64 b164 a165 (fun n166=>ldI s153 .i64 b164 (a165+1) (fun n167=>ldI s153 .i64 b164 (a165+2) (fun n168=>
  ldI s153 .i64 b164 (a165+3) (fun n169=>ldB s153 b164 (a165+4) (fun t170=>bx s153 (.cells #[aD n166,aD n167,aD n168,aD n169,.bool t170,aN none 0 0,aD 0,(aD (-1)),aN none 0 0,aD 0,aD 0] 172) (fun b171 s172=>
  bx s172 (.cells #[(.pointer (some ⟨b171,0,none⟩))] 168) (fun b173 s174=>(Hp.Sub s172 s174/\∃ ys175:List (aA),RdS [.ptr] s174 (some ⟨b173,0,none⟩) 1 ys175 /\
  AZ (List.length xs160+List.length ys175) (wk .i64 (n158+1) (fun n176=>bk s174 n155 (fun m177 s178=>
  I154 m177 n176 n159 (xs160++ys175) A161 l161 c161 n162 A163 l163 c163 s178))))))))))))) (J3 n159 xs160 A161 l161 c161 n162 A163 l163 c163 s153))
def Am:OA:=⟨[],false,[]⟩
def PI:MAn:=(aO (aO (.cut ⟨[true,false],3,[.slot 5 (.hb 1 0),.modb 1 186 [.sc (.int .i64),.lst 2 168 [.ptr],.sc (.slc),.sc (.int .i64),.sc (.slc)]],[(1,true)]⟩ (aO (.block (.loop ⟨[true,false],3,[.slot 5 (.hb 1 0),.slot 23 (.sc (.int .i64)),.modb 1 186 [.sc (.int .i64),.lst 2 168 [.ptr],.sc (.slc),.sc (.int .i64),.sc (.slc)]],[(1,true),(21,true),(22,true)]⟩ (aO (.seq (.cond .leaf .leaf) (.seq (.block (aO (.plan [9,12] (tkUQ2 7 0 Am (.alt 7 true Am (.alt 8 true Am (.alt 9 false Am (.take 10 Am (.take 11 Am (.alt 12 false Am .done .done))) .done) .done) .done))))) (.txt []))))))) (.cut ⟨[true,false,true],3,[.slot 5 (.hb 1 0),.modb 1 186 [.sc (.int .i64),.hl 2 0,.sc (.slc),.sc (.int .i64),.sc (.slc)]],[]⟩ (aO (.block (.loop ⟨[true,false,true],3,[.slot 5 (.hb 1 0),.slot 42 (.sc (.int .i64)),.modb 1 186 [.sc (.int .i64),.hl 2 0,.sc (.slc),.sc (.int .i64),.sc (.slc)]],[(40,true),(41,true)]⟩ (aO (.seq (.cond .leaf .leaf) (.seq (.block (aO (.plan [11,14] (tkUQ2 9 0 Am (.alt 9 true Am (.alt 10 true Am (.alt 11 false Am (.take 12 Am (.take 13 Am (.alt 14 false Am .done .done))) .done) .done) .done))))) (.txt []))))))) (.cut ⟨[true,false,false],3,[.slot 5 (.sc (.ptr))],[]⟩ (aO (.block (.loop ⟨[true,false,false],3,[.slot 5 (.sc (.ptr))],[]⟩ (.seq (aO (.cond .leaf .leaf)) (.cut ⟨[true,false,false],3,[],[(5,true)]⟩ (.block (aO (aO (aO (.cut ⟨[true,false,false],3,[],[(5,true)]⟩ (aO (.block (.loop ⟨[true,false,false],3,[.slot 87 (.sc (.int .i64))],[(5,true),(86,true)]⟩ (aO (.seq (.cond .leaf .leaf) (.seq (.block (aO (.txt []))) (.txt []))))))) (aO (.block (.loop ⟨[true,false,false],3,[.slot 99 (.sc (.int .i64))],[(5,true),(97,true),(98,true)]⟩ (aO (.seq (.cond .leaf .leaf) (.cut ⟨[true,false,false],3,[],[(5,true),(97,true),(98,true),(99,true)]⟩ (.block (aO (aO (.cut ⟨[true,false,false],3,[.slot 13 (.sc (.int .i64))],[(5,true),(12,true),(97,true),(98,true),(99,true)]⟩ (aO (.block (.loop ⟨[true,false,false],3,[.slot 13 (.sc (.int .i64)),.slot 108 (.sc (.int .i64))],[(5,true),(12,true),(97,true),(98,true),(99,true),(106,true),(107,true)]⟩ (aO (.seq (.cond .leaf .leaf) (.seq (.block (aO (.plan [] (tkUQ2 15 0 Am .done)))) (.txt []))))))) (.txt []))))) (.txt [])))))))))))) (.txt [])))))) (aO (aO .leaf)))))))
theorem PD (σ:Hp) (b0:aA) (a0 c0:Nat) (d0:Int) (l_A:aA) (l_n l_c:Nat) (R:aB) (h:IU σ b0 a0 c0 d0 l_A l_n l_c R):Af prog 105 #[(.agg #[aN b0 a0 c0,aD d0]),aN l_A l_n l_c] σ R:=
 Ae Ei PI Tryz.func105 rfl (h:=h)
def ED (σ:Hp) (n:aA) (R:aB):Prop:=
 cut (α:=aA->Nat->Nat->Hp->Prop) (fun A4 l4 c4 σ2=>∀ _:Nat->Value,aC 49 #[aN A4 l4 c4] σ2 (fun _ s6=>
  ∃ I10:Nat->Int->Hp->Prop,(∃ n110,I10 n110 0 s6)/\∀ n11 n12 s9,I10 n11 n12 s9->∀ _:Nat->Value,bc (decide (n12<(l4:Int))) (ix A4 l4 n12 1 (fun b13 a14=>
  ldI s9 .i64 b13 a14 (fun n15=>aC 222 #[.pointer n,aD n15] s9 (fun _ s17=>
  wk .i64 (n12+1) (fun n18=>bk s17 n11 (fun m19 s20=>I10 m19 n18 s20)))))) (rt s9 R (.tuple #[])))) (fun J3=>
  dr n (fun b21 o22=>ldS σ b21 (o22+1) (fun A23 l23 _=>∃ I26:Nat->aA->Nat->Nat->Int->Hp->Prop,(∃ n270,I26 n270 none 0 0 0 σ) /\
  ∀ n27 A28 l28 c28 n29 s25,I26 n27 A28 l28 c28 n29 s25->∀ _:Nat->Value,bc (decide (n29<(l23:Int))) (cut (α:=aA->Nat->Nat->Hp->Prop) (fun A33 l33 c33 s31=>
  ∀ _:Nat->Value,wk .i64 (n29+1) (fun n34=>bk s31 n27 (fun m35 s36=>I26 m35 A33 l33 c33 n34 s36))) (fun J32=>
  ix A23 l23 n29 1 (fun b37 a38=>ldP s25 b37 a38 (fun p39=>aG (fun t43 s41=>bc t43 (dr p39 (fun b44 o45=>ldS s41 b44 (o45+5) (fun A46 l46 _=>adp 3 aM A28 l28 c28 s41 (fun (xs47:List Int) s48=>
  ∃ ys49:List Int,RdS aM s48 A46 l46 ys49/\AZ (List.length xs47+List.length ys49) (dr n (fun b50 o51=>
  ldI s48 .i64 b50 (o51+3) (fun n52=>dr p39 (fun b53 o54=>st s48 b53 (o54+5) (aN none 0 0) (fun s55=>
  dr p39 (fun b56 o57=>st s55 b56 (o57+7) (aD n52) (fun s58=>exl 3 aM (xs47++ys49) s58 (fun A59 l59 c59 s60=>
  J32 A59 l59 c59 s60)))))))))))) (J32 A28 l28 c28 s41)) (fun J42=>dr p39 (fun b61 o62=>ldS s25 b61 (o62+5) (fun _ l63 _=>
  bc (decide ((0:Int)<(l63:Int))) (dr p39 (fun b64 o65=>ldI s25 .i64 b64 (o65+6) (fun n66=>
  dr p39 (fun b67 o68=>ldI s25 .i64 b67 (o68+2) (fun n69=>wk .i64 (n66+n69) (fun n70=>dr n (fun b71 o72=>
  ldI s25 .i64 b71 (o72+3) (fun n73=>J42 (decide (n70=n73)) s25)))))))) (J42 false s25)))))))) (J3 A28 l28 c28 s25))))
def Aw:OA:=⟨[],false,[]⟩
def Km:MAn:=(aO (.cut ⟨[],0,[.slot 2 (.sc (.slc))],[(0,true)]⟩ (aO (.block (.loop ⟨[],0,[.slot 2 (.sc (.slc)),.slot 12 (.sc (.int .i64))],[(0,true),(10,true),(11,true)]⟩ (aO (.seq (.cond .leaf .leaf) (.cut ⟨[],0,[.slot 2 (.sc (.slc))],[(0,true),(10,true),(11,true),(12,true)]⟩ (.block (aO (.cut ⟨[],0,[.slot 38 (.sc (.bool))],[(0,true),(2,true),(4,true),(10,true),(11,true),(12,true)]⟩ (.plan [] (tkUQ2 6 0 Aw (.take 6 ⟨[],true,[]⟩ (tkUQ2 16 7 Aw .done)))) (.cond (aO (.txt [])) .leaf)))) (.txt []))))))) (aO (aO (.block (.loop ⟨[],0,[.slot 60 (.sc (.int .i64))],[(0,true),(58,true),(59,true)]⟩ (aO (.seq (.cond .leaf .leaf) (.seq (.block (aO (.txt []))) (.txt []))))))))))
theorem KJ (σ:Hp) (n:aA) (R:aB) (h:ED σ n R):Af prog 166 #[.pointer n] σ R:=
 Ae Ei Km Tryz.func166 rfl (h:=h)
def DW (σ:Hp) (n:aA) (R:aB):Prop:=
 aF (fun σ2=>dr n (fun b4 o5=>ldS σ2 b4 (o5+2) (fun A6 l6 _=>
  ∃ I10:Nat->Int->Hp->Prop,(∃ n110,I10 n110 0 σ2)/\∀ n11 n12 s9,I10 n11 n12 s9->∀ _:Nat->Value,bc (decide (n12<(l6:Int))) (aF (fun s14=>wk .i64 (n12+1) (fun n16=>bk s14 n11 (fun m17 s18=>I10 m17 n16 s18))) (fun J15=>
  ix A6 l6 n12 1 (fun b19 a20=>ldP s9 b19 a20 (fun p21=>dr p21 (fun b22 o23=>ldI s9 .i64 b22 (o23+7) (fun n24=>
  dr n (fun b25 o26=>ldI s9 .i64 b25 (o26+3) (fun n27=>bc (decide (n24=n27)) (aC 223 #[.pointer n,aD n12] s9 (fun _ s29=>
  J15 s29)) (J15 s9))))))))) (rt s9 R (.tuple #[]))))) (fun J3=>dr n (fun b30 o31=>ldS σ b30 (o31+2) (fun A32 l32 _=>
  ∃ I35:Nat->Int->Hp->Prop,(∃ n360,I35 n360 0 σ)/\∀ n36 n37 s34,I35 n36 n37 s34->∀ _:Nat->Value,bc (decide (n37<(l32:Int))) (aF (fun s39=>wk .i64 (n37+1) (fun n41=>bk s39 n36 (fun m42 s43=>I35 m42 n41 s43))) (fun J40=>
  ix A32 l32 n37 1 (fun b44 a45=>ldP s34 b44 a45 (fun p46=>dr p46 (fun b47 o48=>ldI s34 .i64 b47 o48 (fun n49=>
  dr n (fun b50 o51=>ldI s34 .i64 b50 (o51+3) (fun n52=>bc (decide (n49=n52)) (aC 222 #[.pointer n,aD n37] s34 (fun _ s54=>
  J40 s54)) (J40 s34))))))))) (J3 s34))))
def Az:OA:=⟨[],false,[]⟩
def JF:MAn:=(.cut ⟨[],0,[],[(0,true)]⟩ (aO (.block (.loop ⟨[],0,[.slot 11 (.sc (.int .i64))],[(0,true),(9,true),(10,true)]⟩ (aO (.seq (.cond .leaf .leaf) (.cut ⟨[],0,[],[(0,true),(9,true),(10,true),(11,true)]⟩ (.block (aO (.seq (.plan [] (tkUQ2 10 0 Az .done)) (.cond (.txt []) .leaf)))) (.txt []))))))) (aO (.block (.loop ⟨[],0,[.slot 35 (.sc (.int .i64))],[(0,true),(33,true),(34,true)]⟩ (aO (.seq (.cond .leaf .leaf) (.cut ⟨[],0,[],[(0,true),(33,true),(34,true),(35,true)]⟩ (.block (aO (.seq (.plan [] (tkUQ2 9 0 Az .done)) (.cond (.txt []) .leaf)))) (.txt []))))))))
theorem JX (σ:Hp) (n:aA) (R:aB) (h:DW σ n R):Af prog 167 #[.pointer n] σ R:=
 Ae Ei JF Tryz.func167 rfl (h:=h)
def Da (σ:Hp) (n:aA) (R:aB):Prop:=
 cut (α:=aA->aA->Hp->Prop) (fun p4 p5 σ2=>∀ _:Nat->Value,dr p5 (fun b6 o7=>
  ldS σ2 b6 o7 (fun A8 l8 c8=>aC 226 #[aN A8 l8 c8,(.func (.func 227) #[] #[])] σ2 (fun _ s10=>
  dr p5 (fun b11 o12=>ldS s10 b11 o12 (fun A13 l13 _=>∃ I17:Nat->Int->Hp->Prop,(∃ n180,I17 n180 0 s10) /\
  ∀ n18 n19 s16,I17 n18 n19 s16->∀ _:Nat->Value,bc (decide (n19<(l13:Int))) (ix A13 l13 n19 2 (fun b20 a21=>
  ldI s16 .i64 b20 a21 (fun n22=>ldI s16 .i64 b20 (a21+1) (fun n23=>dr p4 (fun b24 o25=>ldP s16 b24 o25 (fun p26=>
  aC 228 #[.pointer p26,(.agg #[aD n22,aD n23]),.bool false] s16 (fun _ s28=>
  dr p4 (fun b29 o30=>ldP s28 b29 o30 (fun p31=>aC 222 #[.pointer p31,aD n22] s28 (fun _ s33=>
  wk .i64 (n19+1) (fun n34=>bk s33 n18 (fun m35 s36=>I17 m35 n34 s36)))))))))))) (rt s16 R (.tuple #[])))))))) (fun J3=>
  dr n (fun b37 o38=>ldS σ b37 (o38+1) (fun A39 l39 _=>∃ I42:Nat->aA->aA->Int->Hp->Prop,(∃ n430,bx σ (.cells #[.pointer n] 187) (fun b44 s45=>
  bx s45 (.cells #[aN none 0 0] 170) (fun b46 s47=>I42 n430 (some ⟨b44,0,none⟩) (some ⟨b46,0,none⟩) 0 s47))) /\
  ∀ n43 p48 p49 n50 s41,I42 n43 p48 p49 n50 s41->∀ _:Nat->Value,bc (decide (n50<(l39:Int))) (ix A39 l39 n50 1 (fun b51 a52=>
  ldP s41 b51 a52 (fun p53=>dr p53 (fun b54 o55=>ldS s41 b54 (o55+8) (fun A56 l56 c56=>aC 224 #[aN A56 l56 c56,(.func (.func 225) #[] #[.pointer p48,.pointer p49])] s41 (aK fun A59 l59 c59 s58=>(dr p53 (fun b60 o61=>st s58 b60 (o61+8) (aN A59 l59 c59) (fun s62=>
  wk .i64 (n50+1) (fun n63=>bk s62 n43 (fun m64 s65=>I42 m64 p48 p49 n63 s65))))))))))) (J3 p48 p49 s41))))
def II:MAn:=(aO (aO (.cut ⟨[false,false],2,[.slot 1 (.sc (.ptr)),.slot 2 (.sc (.ptr))],[]⟩ (aO (.block (.loop ⟨[false,false],2,[.slot 1 (.sc (.ptr)),.slot 2 (.sc (.ptr)),.slot 12 (.sc (.int .i64))],[(10,true),(11,true)]⟩ (aO (.seq (.cond .leaf .leaf) (.seq (.block (aO (.txt []))) (.txt []))))))) (aO (aO (.block (.loop ⟨[false,false],2,[.slot 30 (.sc (.int .i64))],[(1,true),(28,true),(29,true)]⟩ (aO (.seq (.cond .leaf .leaf) (.seq (.block (aO (aO (.txt [])))) (.txt [])))))))))))
theorem IR (σ:Hp) (n:aA) (R:aB) (h:Da σ n R):Af prog 168 #[.pointer n] σ R:=
 Ae Ei II Tryz.func168 rfl (h:=h)
def Dp (σ:Hp) (n:aA) (i:Int) (R:aB):Prop:=
 dr n (fun b1 o2=>ldS σ b1 (o2+1) (fun A3 l3 _=>ix A3 l3 i 1 (fun b4 a5=>ldP σ b4 a5 (fun p6=>
  aF (fun s8=>dr p6 (fun b10 o11=>ldS s8 b10 (o11+8) (fun A12 l12 c12=>
  dr p6 (fun b13 o14=>st s8 b13 (o14+8) (aN none 0 0) (fun s15=>dr p6 (fun b16 o17=>ldI s15 .i64 b16 o17 (fun n18=>
  cut (α:=aA->Nat->Nat->aA->Nat->Nat->Hp->Prop) (fun A22 l22 c22 A23 l23 _ s20=>
  ∀ _:Nat->Value,dr p6 (fun b24 o25=>st s20 b24 (o25+8) (aN A22 l22 c22) (fun s26=>aF (fun s28=>dr p6 (fun b30 o31=>ldS s28 b30 (o31+5) (fun _ l32 _=>bc (decide ((0:Int)<(l32:Int))) (dr n (fun b33 o34=>
  ldI s28 .i64 b33 (o34+3) (fun n35=>dr p6 (fun b36 o37=>st s28 b36 (o37+6) (aD n35) (fun s38=>
  rt s38 R (.tuple #[])))))) (rt s28 R (.tuple #[]))))) (fun J29=>∃ I41:Nat->Int->Hp->Prop,(∃ n420,I41 n420 0 s26) /\
  ∀ n42 n43 s40,I41 n42 n43 s40->∀ _:Nat->Value,bc (decide (n43<(l23:Int))) (ix A23 l23 n43 1 (fun b44 a45=>
  ldI s40 .i64 b44 a45 (fun n46=>aC 222 #[.pointer n,aD n46] s40 (fun _ s48=>
  wk .i64 (n43+1) (fun n49=>bk s48 n42 (fun m50 s51=>I41 m50 n49 s51)))))) (J29 s40))))) (fun J21=>
  ∃ I54:Nat->aA->Nat->Nat->aA->Nat->Nat->Int->Int->Hp->Prop,(∃ n550,I54 n550 none 0 0 none 0 0 n18 0 s15) /\
  ∀ n55 A56 l56 c56 A57 l57 c57 n58 n59 s53,I54 n55 A56 l56 c56 A57 l57 c57 n58 n59 s53->∀ _:Nat->Value,bc (decide (n59<(l12:Int))) (cut (α:=aA->Nat->Nat->aA->Nat->Nat->Int->Hp->Prop) (fun A63 l63 c63 A64 l64 c64 n65 s61=>
  ∀ _:Nat->Value,wk .i64 (n59+1) (fun n66=>bk s61 n55 (fun m67 s68=>I54 m67 A63 l63 c63 A64 l64 c64 n65 n66 s68))) (fun J62=>
  ix A12 l12 n59 2 (fun b69 a70=>ldI s53 .i64 b69 a70 (fun n71=>ldI s53 .i64 b69 (a70+1) (fun n72=>
  dr n (fun b73 o74=>ldS s53 b73 (o74+2) (fun A75 l75 _=>ix A75 l75 n71 1 (fun b76 a77=>ldP s53 b76 a77 (fun p78=>
  dr p78 (fun b79 o80=>ldI s53 .i64 b79 (o80+1) (fun n81=>dr p6 (fun b82 o83=>ldI s53 .i64 b82 (o83+1) (fun n84=>
  wk .i64 (n81*n84) (fun n85=>aG (fun t89 s87=>bc t89 (aC 228 #[.pointer n,(.agg #[aD n71,aD n72]),.bool false] s87 (fun _ s91=>
  adp 3 aM A57 l57 c57 s91 (fun (xs92:List Int) s93=>AZ (List.length xs92+List.length ([n71]:List Int)) (exl 3 aM (xs92++([n71]:List Int)) s93 (fun A94 l94 c94 s95=>
  J62 A56 l56 c56 A94 l94 c94 n58 s95))))) (aG (fun t99 s97=>
  bc t99 ((0<=n59/\n59<=(l12:Int)/\adp 240 [.int .i64,.int .i64] A56 l56 c56 s97 (fun (xs100:List (Int×Int)) s101=>
  ∃ ys102:List (Int×Int),RdS [.int .i64,.int .i64] s101 (if c12=(n59:Int).toNat then (A12:aA) else (A12:aA).map (fun x=>
  x.add ((n59:Int).toNat*2))) (l12-(n59:Int).toNat) ys102/\AZ (List.length xs100+List.length ys102) (exl 240 [.int .i64,.int .i64] (xs100++ys102) s101 (fun A103 l103 c103 s104=>
  J21 A103 l103 c103 A57 l57 c57 s104))))) (dr p78 (fun b105 o106=>ldI s97 .i64 b105 (o106+1) (fun n107=>
  bc (decide (n58<n107)) (adp 240 [.int .i64,.int .i64] A56 l56 c56 s97 (fun (xs108:List (Int×Int)) s109=>
  AZ (List.length xs108+List.length ([(n71,n72)]:List (Int×Int))) (exl 240 [.int .i64,.int .i64] (xs108++([(n71,n72)]:List (Int×Int))) s109 (fun A110 l110 c110 s111=>
  J62 A110 l110 c110 A57 l57 c57 n58 s111)))) (dr p78 (fun b112 o113=>ldI s97 .i64 b112 (o113+1) (fun n114=>
  wk .i64 (n58-n114) (fun n115=>dr p78 (fun b116 o117=>ldI s97 .i64 b116 (o117+6) (fun n118=>
  wk .i64 (n118-n85) (fun n119=>dr p78 (fun b120 o121=>st s97 b120 (o121+6) (aD n119) (fun s122=>
  dr p6 (fun b123 o124=>ldI s122 .i64 b123 (o124+9) (fun n125=>wk .i64 (n125+n85) (fun n126=>
  dr p6 (fun b127 o128=>st s122 b127 (o128+9) (aD n126) (fun s129=>dr p6 (fun b130 o131=>
  ldS s129 b130 (o131+5) (fun A132 l132 c132=>adp 3 aM A132 l132 c132 s129 (fun (xs133:List Int) s134=>
  AZ (List.length xs133+List.length ([n71]:List Int)) (dr p6 (fun b135 o136=>exl 3 aM (xs133++([n71]:List Int)) s134 (fun A137 l137 c137 s138=>
  st s138 b135 (o136+5) (aN A137 l137 c137) (fun s139=>aC 228 #[.pointer n,(.agg #[aD n71,aD n72]),.bool true] s139 (fun _ s141=>
  J62 A56 l56 c56 A57 l57 c57 n115 s141)))))))))))))))))))))))))) (fun J98=>dr p78 (fun b142 o143=>
  ldI s87 .i64 b142 (o143+1) (fun n144=>bc (decide (n58<n144)) (dr p6 (fun b145 o146=>ldB s87 b145 (o146+4) (fun t147=>
  J98 (!t147) s87))) (J98 false s87)))))) (fun J88=>dr p78 (fun b148 o149=>ldI s53 .i64 b148 (o149+1) (fun n150=>
  dr p6 (fun b151 o152=>ldI s53 .i64 b151 o152 (fun n153=>bc (decide (n153<n150)) (J88 true s53) (dr p78 (fun b154 o155=>
  ldI s53 .i64 b154 (o155+6) (fun n156=>J88 (decide (n156<n85)) s53)))))))))))))))))))))) (J21 A56 l56 c56 A57 l57 c57 s53))))))))) (fun J9=>
  aG (fun t160 s158=>bc t160 (rt s158 R (.tuple #[])) (J9 s158)) (fun J159=>
  dr p6 (fun b161 o162=>ldS σ b161 (o162+5) (fun _ l163 _=>bc (decide ((0:Int)<(l163:Int))) (J159 true σ) (dr p6 (fun b164 o165=>
  ldI σ .i64 b164 (o165+7) (fun n166=>bc (decide ((0:Int)<=n166)) (dr n (fun b167 o168=>ldI σ .i64 b167 (o168+3) (fun n169=>
  dr p6 (fun b170 o171=>ldI σ .i64 b170 (o171+7) (fun n172=>wk .i64 (n169-n172) (fun n173=>dr p6 (fun b174 o175=>
  ldI σ .i64 b174 (o175+3) (fun n176=>bc (decide (n173<n176)) (J159 true σ) (dr p6 (fun b177 o178=>
  ldS σ b177 (o178+8) (fun _ l179 _=>J159 (decide ((l179:Int)=0)) σ))))))))))) (dr p6 (fun b180 o181=>
  ldS σ b180 (o181+8) (fun _ l182 _=>J159 (decide ((l182:Int)=0)) σ))))))))))))))
def Aa:OA:=⟨[],false,[]⟩
def Jm:MAn:=(aO (.cut ⟨[],0,[],[(0,true),(4,true)]⟩ (.cut ⟨[],0,[.slot 59 (.sc (.bool))],[(0,true),(4,true)]⟩ (.plan [] (tkUQ2 6 0 Aa (.take 6 ⟨[],true,[]⟩ (tkUQ2 5 7 Aa (.take 12 ⟨[],true,[]⟩ (tkUQ2 17 13 Aa (.take 30 ⟨[],true,[]⟩ (tkUQ2 7 31 Aa .done)))))))) (.cond .leaf .leaf)) (aO (aO (aO (aO (aO (.cut ⟨[],0,[.slot 6 (.sc (.slc)),.slot 7 (.sc (.slc))],[(0,true),(4,true)]⟩ (aO (.block (.loop ⟨[],0,[.slot 6 (.sc (.slc)),.slot 7 (.sc (.slc)),.slot 8 (.sc (.int .i64)),.slot 74 (.sc (.int .i64))],[(0,true),(4,true),(5,true),(72,true),(73,true)]⟩ (aO (.seq (.cond .leaf .leaf) (.cut ⟨[],0,[.slot 6 (.sc (.slc)),.slot 7 (.sc (.slc)),.slot 8 (.sc (.int .i64))],[(0,true),(4,true),(5,true),(72,true),(73,true),(74,true)]⟩ (.block (aO (.seq (.plan [] (tkUQ2 9 0 Aa .done)) (.seq (.plan [] (tkUQ2 12 0 Aa .done)) (.seq (.block (.cut ⟨[true],1,[.slot 10 (.hb 0 0),.slot 135 (.sc (.bool))],[(0,true),(4,true),(5,true),(6,true),(7,true),(8,true),(9,true),(11,true),(12,true),(72,true),(73,true),(74,true)]⟩ (.plan [] (tkUQ2 11 0 Aa (.take 11 ⟨[],true,[]⟩ (tkUQ2 8 12 Aa .done)))) (.cond (aO (aO .leaf)) (.cut ⟨[true],1,[.slot 10 (.hb 0 0),.slot 163 (.sc (.bool))],[(0,true),(4,true),(5,true),(6,true),(7,true),(8,true),(9,true),(11,true),(12,true),(72,true),(73,true),(74,true)]⟩ (.txt [Aa,Aa,Aa,Aa,Aa,Aa,Aa,⟨[],true,[]⟩]) (.cond (.txt []) (aO (.cond (aO .leaf) (aO (aO (aO (.seq (.plan [8,11] (tkUQ2 7 0 Aa (.alt 7 true Aa (.alt 8 false Aa (.take 9 Aa (.take 10 Aa (.alt 11 false Aa .done .done))) .done) .done))) (aO .leaf)))))))))))) .leaf))))) (.txt []))))))) (aO (.cut ⟨[],0,[],[(0,true),(4,true)]⟩ (aO (.block (.loop ⟨[],0,[.slot 203 (.sc (.int .i64))],[(0,true),(4,true),(201,true),(202,true)]⟩ (aO (.seq (.cond .leaf .leaf) (.seq (.block (aO (.txt []))) (.txt []))))))) (aO (.cond (.txt []) .leaf))))))))))))
theorem IJ (σ:Hp) (n:aA) (i:Int) (R:aB) (h:Dp σ n i R):Af prog 169 #[.pointer n,aD i] σ R:=
 Ae Ei Jm Tryz.func169 rfl (h:=h)
def DM (σ:Hp) (n:aA) (group:Int) (R:aB):Prop:=
 dr n (fun b1 o2=>ldS σ b1 (o2+2) (fun A3 l3 _=>ix A3 l3 group 1 (fun b4 a5=>ldP σ b4 a5 (fun p6=>
  dr p6 (fun b7 o8=>ldI σ .i64 b7 (o8+5) (fun n9=>dr p6 (fun b10 o11=>ldS σ b10 (o11+3) (fun _ l12 _=>
  bc (decide (n9=(l12:Int))) (dr n (fun b13 o14=>ldI σ .i64 b13 (o14+3) (fun n15=>dr p6 (fun b16 o17=>
  st σ b16 (o17+8) (aD n15) (fun s18=>rt s18 R (.tuple #[])))))) (dr n (fun b19 o20=>ldI σ .i64 b19 o20 (fun n21=>
  bc (decide (n21=0)) (aC 223 #[.pointer n,aD group] σ (fun _ s23=>
  rt s23 R (.tuple #[]))) (dr n (fun b24 o25=>ldI σ .i64 b24 (o25+3) (fun n26=>dr n (fun b27 o28=>
  ldI σ .i64 b27 o28 (fun n29=>wk .i64 (n26+n29) (fun n30=>dr p6 (fun b31 o32=>st σ b31 (o32+7) (aD n30) (fun s33=>
  rt s33 R (.tuple #[]))))))))))))))))))))
def Aq:OA:=⟨[],false,[]⟩
def Kc:MAn:=(aO (.block (.seq (.plan [] (tkUQ2 12 0 Aq .done)) (.cond (.txt []) (aO (.cond (.txt []) (.plan [12] (tkUQ2 12 0 Aq (.alt 12 false Aq .done .done)))))))))
theorem JQ (σ:Hp) (n:aA) (group:Int) (R:aB) (h:DM σ n group R):Af prog 222 #[.pointer n,aD group] σ R:=
 Ae Ei Kc Tryz.func222 rfl (h:=h)
def CS (σ:Hp) (n:aA) (group:Int) (R:aB):Prop:=
 dr n (fun b1 o2=>ldS σ b1 (o2+2) (fun A3 l3 _=>ix A3 l3 group 1 (fun b4 a5=>ldP σ b4 a5 (fun p6=>
  dr p6 (fun b7 o8=>st σ b7 (o8+7) (aD (-1)) (fun s9=>dr n (fun b10 o11=>ldS s9 b10 (o11+1) (fun A12 l12 _=>
  dr p6 (fun b13 o14=>ldS s9 b13 (o14+3) (fun A15 l15 _=>dr p6 (fun b16 o17=>ldI s9 .i64 b16 (o17+5) (fun n18=>
  ix A15 l15 n18 1 (fun b19 a20=>ldI s9 .i64 b19 a20 (fun n21=>ix A12 l12 n21 1 (fun b22 a23=>ldP s9 b22 a23 (fun p24=>
  dr p24 (fun b25 o26=>ldS s9 b25 (o26+8) (fun A27 l27 c27=>dr n (fun b28 o29=>ldI s9 .i64 b28 (o29+3) (fun n30=>
  adp 240 [.int .i64,.int .i64] A27 l27 c27 s9 (fun (xs31:List (Int×Int)) s32=>AZ (List.length xs31+List.length ([(group,n30)]:List (Int×Int))) (dr p24 (fun b33 o34=>
  exl 240 [.int .i64,.int .i64] (xs31++([(group,n30)]:List (Int×Int))) s32 (fun A35 l35 c35 s36=>
  st s36 b33 (o34+8) (aN A35 l35 c35) (fun s37=>rt s37 R (.tuple #[]))))))))))))))))))))))))))
def Aj:OA:=⟨[],false,[]⟩
def H1:MAn:=(aO (aO (.seq (.plan [] (tkUQ2 18 0 Aj .done)) (.plan [12,15] (tkUQ2 11 0 Aj (.alt 11 true Aj (.alt 12 false Aj (.take 13 Aj (.take 14 Aj (.alt 15 false Aj .done .done))) .done) .done))))))
theorem IC (σ:Hp) (n:aA) (group:Int) (R:aB) (h:CS σ n group R):Af prog 223 #[.pointer n,aD group] σ R:=
 Ae Ei H1 Tryz.func223 rfl (h:=h)
def DQ (σ:Hp) (n:aA) (e0 f0:Int) (on:Bool) (R:aB):Prop:=
 dr n (fun b1 o2=>ldS σ b1 (o2+2) (fun A3 l3 _=>ix A3 l3 e0 1 (fun b4 a5=>ldP σ b4 a5 (fun p6=>
  dr n (fun b7 o8=>ldS σ b7 (o8+4) (fun A9 l9 c9=>dr p6 (fun b10 o11=>ldI σ .i64 b10 (o11+5) (fun n12=>
  dr p6 (fun b13 o14=>ldS σ b13 (o14+3) (fun A15 l15 _=>dr p6 (fun b16 o17=>ldI σ .i64 b16 (o17+5) (fun n18=>
  ix A15 l15 n18 1 (fun b19 a20=>ldI σ .i64 b19 a20 (fun n21=>dr n (fun b22 o23=>ldI σ .i64 b22 (o23+3) (fun n24=>
  adp 75 [.int .i64,.int .i64,.int .i64,.bool,.int .i64,.int .i64] A9 l9 c9 σ (fun (xs25:List (Int×Int×Int×Bool×Int×Int)) s26=>
  AZ (List.length xs25+List.length ([(e0,n12,n21,on,f0,n24)]:List (Int×Int×Int×Bool×Int×Int))) (dr n (fun b27 o28=>
  exl 75 [.int .i64,.int .i64,.int .i64,.bool,.int .i64,.int .i64] (xs25++([(e0,n12,n21,on,f0,n24)]:List (Int×Int×Int×Bool×Int×Int))) s26 (fun A29 l29 c29 s30=>
  st s30 b27 (o28+4) (aN A29 l29 c29) (fun s31=>dr p6 (fun b32 o33=>ldI s31 .i64 b32 (o33+5) (fun n34=>
  wk .i64 (n34+1) (fun n35=>dr p6 (fun b36 o37=>st s31 b36 (o37+5) (aD n35) (fun s38=>
  rt s38 R (.tuple #[])))))))))))))))))))))))))))
def Ag:OA:=⟨[],false,[]⟩
def Ke:MAn:=(aO (.seq (.plan [] (tkUQ2 9 0 Ag .done)) (.seq (.plan [31,34] (tkUQ2 30 0 Ag (.alt 30 true Ag (.alt 31 false Ag (.take 32 Ag (.take 33 Ag (.alt 34 false Ag .done .done))) .done) .done))) (.txt []))))
theorem JH (σ:Hp) (n:aA) (e0 f0:Int) (on:Bool) (R:aB) (h:DQ σ n e0 f0 on R):Af prog 228 #[.pointer n,(.agg #[aD e0,aD f0]),.bool on] σ R:=
 Ae Ei Ke Tryz.func228 rfl (h:=h)
def BA (σ:Hp) (s_A:aA) (s_n s_c:Nat) (del:Value) (R:aB):Prop:=
 aC 256 #[aN s_A s_n s_c,del] σ (fun v1 σ2=>∃ n3:Int,(v1=(aD n3) /\
  bc (decide (n3=(-1))) (rt σ2 R (aN s_A s_n s_c)) (aH (fun n7 s5=>
  (0<=n7/\n7<=(s_n:Int)/\clr prog #[170] 0 #[(aN (if s_c=(n7:Int).toNat then (s_A:aA) else (s_A:aA).map (fun x=>
  x.add ((n7:Int).toNat*2))) (s_n-(n7:Int).toNat) (s_c-(n7:Int).toNat))] s5 (fun s8=>(0<=n7 /\
  n7<=(s_c:Int)/\rt s8 R (aN s_A ((n7:Int).toNat) s_c))))) (fun J6=>wk .i64 (n3+1) (fun n9=>
  ∃ I12:Nat->Int->Int->Hp->Prop,(∃ n130,I12 n130 n3 n9 σ2)/\∀ n13 n14 n15 s11,I12 n13 n14 n15 s11->∀ _:Nat->Value,bc (decide (n15<(s_n:Int))) (aH (fun n19 s17=>wk .i64 (n15+1) (fun n20=>bk s17 n13 (fun m21 s22=>I12 m21 n19 n20 s22))) (fun J18=>
  ix s_A s_n n15 2 (fun b23 a24=>ldI s11 .i64 b23 a24 (fun n25=>ldI s11 .i64 b23 (a24+1) (fun n26=>
  cl prog del #[(.agg #[aD n25,aD n26])] s11 (fun v27 s28=>∃ t29:Bool,(v27=(.bool t29) /\
  bc (!t29) (ix s_A s_n n14 2 (fun b30 a31=>st s28 b30 a31 (aD n25) (fun s32=>st s32 b30 (a31+1) (aD n26) (fun s33=>
  wk .i64 (n14+1) (fun n34=>J18 n34 s33))))) (J18 n14 s28)))))))) (J6 n14 s11))))))
def DC:MAn:=(aO (aO (.seq (aO (.cond (aO .leaf) .leaf)) (.cut ⟨[],0,[.slot 5 (.sc (.int .i64))],[(0,true)]⟩ (aO (.block (.loop ⟨[],0,[.slot 5 (.sc (.int .i64)),.slot 6 (.sc (.int .i64))],[(0,true),(1,false)]⟩ (.seq (aO (.cond .leaf .leaf)) (.cut ⟨[],0,[.slot 5 (.sc (.int .i64))],[(0,true),(1,false),(6,true)]⟩ (.block (aO (aO (.cond (aO (.txt [])) .leaf)))) (.txt [])))))) (aO (aO .leaf))))))
theorem DJ (σ:Hp) (s_A:aA) (s_n s_c:Nat) (del:Value) (R:aB) (h:BA σ s_A s_n s_c del R):Af prog 224 #[aN s_A s_n s_c,del] σ R:=
 Ae Ei DC Tryz.func224 rfl (h:=h)
theorem X6:prog.follows .mixedOrders=true:=by kernel_rfl
def BE (σ:Hp) (s_A:aA) (s_n _:Nat) (f:Value) (R:aB):Prop:=
 aF (fun σ2=>rt σ2 R (aD (-1))) (fun J3=>∃ I6:Nat->Int->Hp->Prop,(∃ n70,I6 n70 0 σ) /\
  ∀ n7 n8 s5,I6 n7 n8 s5->∀ _:Nat->Value,bc (decide (n8<(s_n:Int))) (ix s_A s_n n8 2 (fun b9 a10=>
  ldI s5 .i64 b9 a10 (fun n11=>ldI s5 .i64 b9 (a10+1) (fun n12=>cl prog f #[(.agg #[aD n11,aD n12])] s5 (aI fun t15 s14=>(bc t15 (rt s14 R (aD n8)) (wk .i64 (n8+1) (fun n16=>bk s14 n7 (fun m17 s18=>
  I6 m17 n16 s18))))))))) (J3 s5))
def D8:MAn:=(aO (.cut ⟨[],0,[],[]⟩ (aO (.block (.loop ⟨[],0,[.slot 8 (.sc (.int .i64))],[(0,true),(1,false),(7,true)]⟩ (aO (.seq (.cond .leaf .leaf) (.seq (.block (aO (aO (.cond (aO .leaf) .leaf)))) (.txt []))))))) (aO .leaf)))
theorem Ea (σ:Hp) (s_A:aA) (s_n s_c:Nat) (f:Value) (R:aB) (h:BE σ s_A s_n s_c f R):Af prog 256 #[aN s_A s_n s_c,f] σ R:=
 Ae X6 D8 Tryz.func256 rfl (h:=h)
theorem Bf:prog.follows .mixedOrders=true:=by kernel_rfl
def KZ (σ:Hp) (_:aA) (a0 _:Nat) (_:Int) (l_A:aA) (l_n _:Nat) (R:aB):Prop:=
 aF (fun σ2=>aF (fun s5=>
  rt s5 R (.bool false)) (fun J6=>∃ I9:Nat->Int->Hp->Prop,(∃ n100,I9 n100 0 σ2)/\∀ n10 n11 s8,I9 n10 n11 s8->∀ _:Nat->Value,bc (decide (n11<(l_n:Int))) (ix l_A l_n n11 5 (fun b12 a13=>
  ldS s8 b12 (a13+3) (fun _ l14 _=>bc (decide ((20:Int)<(l14:Int))) (rt s8 R (.bool true)) (wk .i64 (n11+1) (fun n15=>
  bk s8 n10 (fun m16 s17=>I9 m16 n15 s17)))))) (J6 s8))) (fun J3=>aG (fun t21 s19=>bc t21 (rt s19 R (.bool true)) (J3 s19)) (fun J20=>bc (decide ((10:Int)<(a0:Int))) (J20 true σ) (J20 (decide ((70:Int)<(l_n:Int))) σ)))
def QM:MAn:=(aO (.cut ⟨[true],1,[],[(1,true)]⟩ (.cut ⟨[true],1,[.slot 14 (.sc (.bool))],[(1,true)]⟩ (.txt [⟨[],false,[]⟩,⟨[],false,[]⟩,⟨[],false,[]⟩,⟨[],false,[]⟩,⟨[],true,[]⟩]) (.cond (aO .leaf) .leaf)) (.cut ⟨[true],1,[],[]⟩ (aO (.block (.loop ⟨[true],1,[.slot 5 (.sc (.int .i64))],[(1,true)]⟩ (.seq (aO (.cond .leaf .leaf)) (.seq (.block (aO (.cond (aO .leaf) .leaf))) (.txt [])))))) (aO .leaf))))
theorem QI (σ:Hp) (b0:aA) (a0 c0:Nat) (d0:Int) (l_A:aA) (l_n l_c:Nat) (R:aB) (h:KZ σ b0 a0 c0 d0 l_A l_n l_c R):Af prog 45 #[(.agg #[aN b0 a0 c0,aD d0]),aN l_A l_n l_c] σ R:=
 Ae Bf QM Tryz.func45 rfl (h:=h)
def HI (σ:Hp) (b0:aA) (a0 c0:Nat) (d0:Int) (l_A:aA) (l_n l_c:Nat) (R:aB):Prop:=
 aC 123 #[(.agg #[aN b0 a0 c0,aD d0])] σ (aJ fun n3 σ2=>(bc (!decide (n3=0)) (rt σ2 R (aD n3)) (bx σ2 (.cells #[aN b0 a0 c0,aD d0] 24) (fun b4 s5=>
  aF (fun s7=>rt s7 R (aD 0)) (fun J8=>aG (fun t12 s10=>bc t12 (rt s10 R (aD 71)) (J8 s10)) (fun J11=>bc (decide ((60:Int)<(l_n:Int))) (J11 true s5) (aC 127 #[aN l_A l_n l_c,(.func (.func 124) #[] #[(.pointer (some ⟨b4,0,none⟩))])] s5 (aI fun t15 s14=>(J11 t15 s14)))))))))
def Ow:MAn:=(aO (.seq (aO (aO (.cond (aO .leaf) .leaf))) (aO (.cut ⟨[false],1,[],[]⟩ (.cut ⟨[false],1,[.slot 20 (.sc (.bool))],[]⟩ (.txt [⟨[],false,[]⟩,⟨[],false,[]⟩,⟨[],false,[]⟩,⟨[],true,[]⟩]) (.cond (aO .leaf) .leaf)) (aO .leaf)))))
theorem Oi (σ:Hp) (b0:aA) (a0 c0:Nat) (d0:Int) (l_A:aA) (l_n l_c:Nat) (R:aB) (h:HI σ b0 a0 c0 d0 l_A l_n l_c R):Af prog 68 #[(.agg #[aN b0 a0 c0,aD d0]),aN l_A l_n l_c] σ R:=
 Ae Bf Ow Tryz.func68 rfl (h:=h)
def IK (σ:Hp) (b0:aA) (a0 _:Nat) (d0:Int) (R:aB):Prop:=
 (((∃ ys1:List (Int×Int×Int×Int×Bool),RdS [.int .i64,.int .i64,.int .i64,.int .i64,.bool] σ b0 a0 ys1 /\
  AZ (List.length ([]:List (Int×Int×Int×Int×Bool))+List.length ys1) (exl 77 [.int .i64,.int .i64,.int .i64,.int .i64,.bool] (([]:List (Int×Int×Int×Int×Bool))++ys1) σ (fun A2 l2 c2 s3=>
  rt s3 R (.agg #[aN A2 l2 c2,aD d0]))))/\(∃ ys4:List (Int×Int×Int×Int×Bool),RdS [.int .i64,.int .i64,.int .i64,.int .i64,.bool] σ b0 a0 ys4 /\
  AZ (List.length ([]:List (Int×Int×Int×Int×Bool))+List.length ys4) (exl 77 [.int .i64,.int .i64,.int .i64,.int .i64,.bool] (([]:List (Int×Int×Int×Int×Bool))++ys4) σ (fun A5 l5 c5 s6=>
  rt s6 R (.agg #[aN A5 l5 c5,aD d0])))))/\(∃ ys7:List (Int×Int×Int×Int×Bool),RdS [.int .i64,.int .i64,.int .i64,.int .i64,.bool] σ b0 a0 ys7 /\
  AZ (List.length ([]:List (Int×Int×Int×Int×Bool))+List.length ys7) (exl 77 [.int .i64,.int .i64,.int .i64,.int .i64,.bool] (([]:List (Int×Int×Int×Int×Bool))++ys7) σ (fun A8 l8 c8 s9=>
  rt s9 R (.agg #[aN A8 l8 c8,aD d0])))))
def AR:OA:=⟨[],false,[]⟩
def Pt:MAn:=(aO (.seq (.plan [3,7] (.take 1 AR (.take 2 AR (.take 4 AR (.alt 0 true AR (.alt 3 false AR (.take 5 AR (.take 6 AR (.alt 7 false AR .done .done))) (.alt 5 true AR (.alt 3 false AR (.take 6 AR (.alt 7 false AR .done .done)) .done) .done)) (.alt 5 true AR (.alt 0 true AR (.alt 3 false AR (.take 6 AR (.alt 7 false AR .done .done)) .done) .done) .done)))))) .leaf))
theorem Pg (σ:Hp) (b0:aA) (a0 c0:Nat) (d0:Int) (R:aB) (h:IK σ b0 a0 c0 d0 R):Af prog 38 #[(.agg #[aN b0 a0 c0,aD d0])] σ R:=
 Ae Bf Pt Tryz.func38 rfl (h:=h)
def DT (σ:Hp) (l_A:aA) (l_n _:Nat) (R:aB):Prop:=
 ∃ ys1:List (Int×Int×Int×(aA×Nat×Nat)×Int),RdS [.int .i64,.int .i64,.int .i64,.slc,.int .i64] σ l_A l_n ys1 /\
  AZ (List.length ([]:List (Int×Int×Int×(aA×Nat×Nat)×Int))+List.length ys1) (cut (α:=aA->Nat->Nat->Hp->Prop) (fun A5 l5 c5 s3=>
  ∀ _:Nat->Value,rt s3 R (aN A5 l5 c5)) (fun J4=>∃ I8:Nat->aA->Nat->Nat->Int->Hp->Prop,(∃ n90,exl 65 [.int .i64,.int .i64,.int .i64,.slc,.int .i64] (([]:List (Int×Int×Int×(aA×Nat×Nat)×Int))++ys1) σ (fun A10 l10 c10 s11=>
  I8 n90 A10 l10 c10 0 s11))/\∀ n9 A12 l12 c12 n13 s7,I8 n9 A12 l12 c12 n13 s7->∀ _:Nat->Value,bc (decide (n13<(l12:Int))) (ix A12 l12 n13 5 (fun b14 a15=>
  ldS s7 b14 (a15+3) (fun A16 l16 _=>∃ ys17:List Int,RdS aM s7 A16 l16 ys17/\AZ (List.length ([]:List Int)+List.length ys17) (ix A12 l12 n13 5 (fun b18 a19=>
  exl 3 aM (([]:List Int)++ys17) s7 (fun A20 l20 c20 s21=>st s21 b18 (a19+3) (aN A20 l20 c20) (fun s22=>
  wk .i64 (n13+1) (fun n23=>bk s22 n9 (fun m24 s25=>I8 m24 A12 l12 c12 n23 s25))))))))) (J4 A12 l12 c12 s7)))
def JU:MAn:=(aO (aO (.cut ⟨[false],1,[.slot 3 (.sc (.slc))],[]⟩ (aO (.block (.loop ⟨[false],1,[.slot 3 (.sc (.slc)),.slot 4 (.sc (.int .i64))],[]⟩ (.seq (aO (.cond .leaf .leaf)) (.seq (.block (.txt [])) (.txt [])))))) (aO .leaf))))
theorem J2 (σ:Hp) (l_A:aA) (l_n l_c:Nat) (R:aB) (h:DT σ l_A l_n l_c R):Af prog 51 #[aN l_A l_n l_c] σ R:=
 Ae Bf JU Tryz.func51 rfl (h:=h)
def Jv (σ:Hp) (b0:aA) (a0 c0:Nat) (d0:Int) (l_A:aA) (l_n l_c:Nat) (R:aB):Prop:=
 aC 93 #[(.agg #[aN b0 a0 c0,aD d0]),aN l_A l_n l_c,(.func (.func 94) #[] #[]),(.func (.func 95) #[] #[])] σ (fun v1 σ2=>
  ∃ A3:aA,∃ l3 c3:Nat,∃ n4:Int,(v1=(.tuple #[aN A3 l3 c3,aD n4]) /\
  rt σ2 R (.tuple #[aN A3 l3 c3,aD n4])))
def PH:MAn:=(aO (aO .leaf))
theorem Pq (σ:Hp) (b0:aA) (a0 c0:Nat) (d0:Int) (l_A:aA) (l_n l_c:Nat) (R:aB) (h:Jv σ b0 a0 c0 d0 l_A l_n l_c R):Af prog 50 #[(.agg #[aN b0 a0 c0,aD d0]),aN l_A l_n l_c] σ R:=
 Ae Bf PH Tryz.func50 rfl (h:=h)
def FK (σ:Hp) (R:aB):Prop:=
 exl 77 [.int .i64,.int .i64,.int .i64,.int .i64,.bool] ([(4,2,3,1,false),(2,5,2,0,false)]:List (Int×Int×Int×Int×Bool)) σ (fun A1 l1 c1 σ2=>
  exl 3 aM ([0,1]:List Int) σ2 (fun A3 l3 c3 s4=>exl 3 aM ([0,1]:List Int) s4 (fun A5 l5 c5 s6=>
  exl 65 [.int .i64,.int .i64,.int .i64,.slc,.int .i64] ([(0,3,20,(A3,l3,c3),100),(0,2,30,(A5,l5,c5),100)]:List (Int×Int×Int×(aA×Nat×Nat)×Int)) s6 (fun A7 l7 c7 s8=>
  rt s8 R (.tuple #[(.agg #[aN A1 l1 c1,aD 1]),aN A7 l7 c7])))))
def Mr:MAn:=(aO (aO (aO .leaf)))
theorem MT (σ:Hp) (R:aB) (h:FK σ  R):Af prog 67 #[] σ R:=
 Ae Bf Mr Tryz.func67 rfl (h:=h)
def FC (σ:Hp) (b0:aA) (a0 c0:Nat) (d0:Int) (R:aB):Prop:=
 aF (fun σ2=>rt σ2 R (aD 0)) (fun J3=>aG (fun t7 s5=>bc t7 (rt s5 R (aD 70)) (J3 s5)) (fun J6=>bc (decide ((8:Int)<(a0:Int))) (J6 true σ) (aC 126 #[aD d0,aD 0,aD 100] σ (aI fun t10 s9=>(bc (!t10) (J6 true s9) (aC 181 #[aN b0 a0 c0,(.func (.func 180) #[] #[])] s9 (aI fun t13 s12=>(J6 t13 s12))))))))
def Bg:OA:=⟨[],false,[]⟩
def Mt:MAn:=(aO (aO (.cut ⟨[true],1,[],[]⟩ (.cut ⟨[true],1,[.slot 19 (.sc (.bool))],[]⟩ (.txt [Bg,Bg,Bg,Bg,⟨[],true,[]⟩,Bg,Bg,Bg,Bg,Bg,⟨[],true,[]⟩]) (.cond (aO .leaf) .leaf)) (aO .leaf))))
theorem Mq (σ:Hp) (b0:aA) (a0 c0:Nat) (d0:Int) (R:aB) (h:FC σ b0 a0 c0 d0 R):Af prog 123 #[(.agg #[aN b0 a0 c0,aD d0])] σ R:=
 Ae Bf Mt Tryz.func123 rfl (h:=h)
def FJ (σ:Hp) (g_At y0 k0:Int) (i0:aA) (g0 j0:Nat) (h0:Int) (cap0:aA) (R:aB):Prop:=
 aC 126 #[aD g_At,aD 0,aD 2000] σ (aI fun t3 σ2=>(bc (!t3) (rt σ2 R (.bool true)) (aC 126 #[aD y0,aD 1,aD 40] σ2 (aI fun t6 s5=>(bc (!t6) (rt s5 R (.bool true)) (aC 126 #[aD k0,aD 0,aD 10000] s5 (aI fun t9 s8=>(bc (!t9) (rt s8 R (.bool true)) (aC 126 #[aD h0,aD 0,aD 2000] s8 (aI fun t12 s11=>(bc (!t12) (rt s11 R (.bool true)) (bc (decide ((10:Int)<(g0:Int))) (rt s11 R (.bool true)) (aC 33 #[aN i0 g0 j0,(.func (.func 125) #[] #[.pointer cap0])] s11 (aI fun t15 s14=>(rt s14 R (.bool t15))))))))))))))))
def Ax:OA:=⟨[],false,[]⟩
def Ml:MAn:=(aO (aO (.seq (.txt [Ax,Ax,Ax,Ax,⟨[],true,[]⟩,Ax,Ax,Ax,Ax,Ax,⟨[],true,[]⟩,Ax,Ax,Ax,Ax,Ax,⟨[],true,[]⟩,Ax,Ax,Ax,Ax,Ax,⟨[],true,[]⟩,Ax,Ax,Ax,Ax,Ax,⟨[],true,[]⟩]) .leaf)))
theorem MH (σ:Hp) (g_At y0 k0:Int) (i0:aA) (g0 j0:Nat) (h0:Int) (cap0:aA) (R:aB) (h:FJ σ g_At y0 k0 i0 g0 j0 h0 cap0 R):Af prog 124 #[(.agg #[aD g_At,aD y0,aD k0,aN i0 g0 j0,aD h0]),.pointer cap0] σ R:=
 Ae Bf Ml Tryz.func124 rfl (h:=h)
def EG (σ:Hp) (n:Int) (cap0:aA) (R:aB):Prop:=
 dr cap0 (fun b1 o2=>ldS σ b1 o2 (fun _ l3 _=>wk .i64 ((l3:Int)-1) (fun n4=>aC 126 #[aD n,aD 0,aD n4] σ (aI fun t7 s6=>(rt s6 R (.bool (!t7)))))))
def KM:MAn:=(aO (aO .leaf))
theorem KI (σ:Hp) (n:Int) (cap0:aA) (R:aB) (h:EG σ n cap0 R):Af prog 125 #[aD n,.pointer cap0] σ R:=
 Ae Bf KM Tryz.func125 rfl (h:=h)
def Gv (σ:Hp) (n low high:Int) (R:aB):Prop:=
 bc (decide (low<=n)) (rt σ R (.bool (decide (n<=high)))) (rt σ R (.bool false))
def Ni:MAn:=(aO (.seq (.txt [⟨[],false,[]⟩,⟨[],false,[]⟩,⟨[],false,[]⟩,⟨[],true,[]⟩]) .leaf))
theorem NG (σ:Hp) (n low high:Int) (R:aB) (h:Gv σ n low high R):Af prog 126 #[aD n,aD low,aD high] σ R:=
 Ae Bf Ni Tryz.func126 rfl (h:=h)
def BC (σ:Hp) (s_A:aA) (s_n s_c:Nat) (f:Value) (R:aB):Prop:=
 aC 73 #[aN s_A s_n s_c,f] σ (fun v1 σ2=>∃ n3:Int,(v1=(aD n3) /\
  rt σ2 R (.bool (decide ((0:Int)<=n3)))))
def FI:MAn:=(aO (aO .leaf))
theorem Cs (σ:Hp) (s_A:aA) (s_n s_c:Nat) (f:Value) (R:aB) (h:BC σ s_A s_n s_c f R):Af prog 33 #[aN s_A s_n s_c,f] σ R:=
 Ae Bf FI Tryz.func33 rfl (h:=h)
def BB (σ:Hp) (s_A:aA) (s_n s_c:Nat) (f:Value) (R:aB):Prop:=
 aC 182 #[aN s_A s_n s_c,f] σ (fun v1 σ2=>∃ n3:Int,(v1=(aD n3) /\
  rt σ2 R (.bool (decide ((0:Int)<=n3)))))
def DO:MAn:=(aO (aO .leaf))
theorem DI (σ:Hp) (s_A:aA) (s_n s_c:Nat) (f:Value) (R:aB) (h:BB σ s_A s_n s_c f R):Af prog 127 #[aN s_A s_n s_c,f] σ R:=
 Ae Bf DO Tryz.func127 rfl (h:=h)
def Cc (σ:Hp) (b0:aA) (a0 c0:Nat) (d0:Int) (l_A:aA) (l_n l_c:Nat) (elements number:Value) (R:aB):Prop:=
 aC 68 #[(.agg #[aN b0 a0 c0,aD d0]),aN l_A l_n l_c] σ (aJ fun n3 σ2=>(bc (!decide (n3=0)) (rt σ2 R (.tuple #[aN none 0 0,aD n3])) (cut (α:=List Int->Hp->Prop) (fun xs7 s5=>
  ∀ _:Nat->Value,exl 3 aM xs7 s5 (fun A8 l8 c8 s9=>rt s9 R (.tuple #[aN A8 l8 c8,aD 0]))) (fun J6=>
  aC 105 #[(.agg #[aN b0 a0 c0,aD d0]),aN l_A l_n l_c] σ2 (fun v10 s11=>
  ∃ p12:aA,(v10=(.pointer p12)/\cl prog elements #[.pointer p12] s11 (aK fun A15 l15 _ s14=>(∃ I18:Nat->List Int->Int->Hp->Prop,(∃ n190,adp 3 aM none 0 0 s14 (fun (xs20:List Int) s21=>
  I18 n190 xs20 0 s21))/\∀ n19 xs22 n23 s17,I18 n19 xs22 n23 s17->∀ _:Nat->Value,bc (decide (n23<(l15:Int))) (ix A15 l15 n23 1 (fun b24 a25=>
  ldP s17 b24 a25 (fun p26=>cl prog number #[.pointer p26] s17 (fun v27 s28=>∃ n29:Int,(v27=(aD n29) /\
  AZ (List.length xs22+List.length ([n29]:List Int)) (wk .i64 (n23+1) (fun n30=>bk s28 n19 (fun m31 s32=>
  I18 m31 (xs22++([n29]:List Int)) n30 s32)))))))) (J6 xs22 s17)))))))))
def GN:MAn:=(aO (.seq (aO (aO (.cond (aO .leaf) .leaf))) (.cut ⟨[true],2,[.slot 8 (.lst 1 3 aM)],[]⟩ (aO (.block (.loop ⟨[true],2,[.slot 8 (.lst 1 3 aM),.slot 25 (.sc (.int .i64))],[(3,false),(23,true),(24,true)]⟩ (aO (.seq (.cond .leaf .leaf) (.seq (.block (aO (.txt []))) (.txt []))))))) (aO .leaf))))
theorem Gu (σ:Hp) (b0:aA) (a0 c0:Nat) (d0:Int) (l_A:aA) (l_n l_c:Nat) (elements number:Value) (R:aB) (h:Cc σ b0 a0 c0 d0 l_A l_n l_c elements number R):Af prog 93 #[(.agg #[aN b0 a0 c0,aD d0]),aN l_A l_n l_c,elements,number] σ R:=
 Ae Bf GN Tryz.func93 rfl (h:=h)
def FG (σ:Hp) (n:aA) (R:aB):Prop:=
 dr n (fun b1 o2=>ldS σ b1 (o2+2) (fun A3 l3 c3=>rt σ R (aN A3 l3 c3)))
def Md:MAn:=(aO (aO .leaf))
theorem Mg (σ:Hp) (n:aA) (R:aB) (h:FG σ n R):Af prog 94 #[.pointer n] σ R:=
 Ae Bf Md Tryz.func94 rfl (h:=h)
def Gr (σ:Hp) (p:aA) (R:aB):Prop:=
 dr p (fun b1 o2=>ldI σ .i64 b1 (o2+8) (fun n3=>rt σ R (aD n3)))
def NL:MAn:=(aO (aO .leaf))
theorem MU (σ:Hp) (p:aA) (R:aB) (h:Gr σ p R):Af prog 95 #[.pointer p] σ R:=
 Ae Bf NL Tryz.func95 rfl (h:=h)
def Ek (σ:Hp) (q0 r0 t0 l0:Int) (_:Bool) (R:aB):Prop:=
 aC 126 #[aD q0,aD 1,aD 40] σ (aI fun t3 σ2=>(bc (!t3) (rt σ2 R (.bool true)) (aC 126 #[aD r0,aD 0,aD 100] σ2 (aI fun t6 s5=>(bc (!t6) (rt s5 R (.bool true)) (aC 126 #[aD t0,aD 1,aD 100] s5 (aI fun t9 s8=>(bc (!t9) (rt s8 R (.bool true)) (aC 126 #[aD l0,aD 0,aD 100] s8 (aI fun t12 s11=>(rt s11 R (.bool (!t12)))))))))))))
def AJ:OA:=⟨[],false,[]⟩
def Kk:MAn:=(aO (.seq (.txt [AJ,AJ,AJ,AJ,⟨[],true,[]⟩,AJ,AJ,AJ,AJ,AJ,⟨[],true,[]⟩,AJ,AJ,AJ,AJ,AJ,⟨[],true,[]⟩]) .leaf))
theorem Kr (σ:Hp) (q0 r0 t0 l0:Int) (i1:Bool) (R:aB) (h:Ek σ q0 r0 t0 l0 i1 R):Af prog 180 #[(.agg #[aD q0,aD r0,aD t0,aD l0,.bool i1])] σ R:=
 Ae Bf Kk Tryz.func180 rfl (h:=h)
def Bz (σ:Hp) (s_A:aA) (s_n s_c:Nat) (f:Value) (R:aB):Prop:=
 aC 237 #[aN s_A s_n s_c,f] σ (fun v1 σ2=>∃ n3:Int,(v1=(aD n3) /\
  rt σ2 R (.bool (decide ((0:Int)<=n3)))))
def DF:MAn:=(aO (aO .leaf))
theorem DH (σ:Hp) (s_A:aA) (s_n s_c:Nat) (f:Value) (R:aB) (h:Bz σ s_A s_n s_c f R):Af prog 181 #[aN s_A s_n s_c,f] σ R:=
 Ae Bf DF Tryz.func181 rfl (h:=h)
def BZ (σ:Hp) (s_A:aA) (s_n _:Nat) (f:Value) (R:aB):Prop:=
 aF (fun σ2=>rt σ2 R (aD (-1))) (fun J3=>∃ I6:Nat->Int->Hp->Prop,(∃ n70,I6 n70 0 σ) /\
  ∀ n7 n8 s5,I6 n7 n8 s5->∀ _:Nat->Value,bc (decide (n8<(s_n:Int))) (ix s_A s_n n8 1 (fun b9 a10=>
  ldI s5 .i64 b9 a10 (fun n11=>cl prog f #[aD n11] s5 (fun v12 s13=>∃ t14:Bool,(v12=(.bool t14) /\
  bc t14 (rt s13 R (aD n8)) (wk .i64 (n8+1) (fun n15=>bk s13 n7 (fun m16 s17=>I6 m16 n15 s17)))))))) (J3 s5))
def G6:MAn:=(aO (.cut ⟨[],0,[],[]⟩ (aO (.block (.loop ⟨[],0,[.slot 8 (.sc (.int .i64))],[(0,true),(1,false),(7,true)]⟩ (aO (.seq (.cond .leaf .leaf) (.seq (.block (aO (aO (.cond (aO .leaf) .leaf)))) (.txt []))))))) (aO .leaf)))
theorem C8 (σ:Hp) (s_A:aA) (s_n s_c:Nat) (f:Value) (R:aB) (h:BZ σ s_A s_n s_c f R):Af prog 73 #[aN s_A s_n s_c,f] σ R:=
 Ae Bf G6 Tryz.func73 rfl (h:=h)
def BT (σ:Hp) (s_A:aA) (s_n _:Nat) (f:Value) (R:aB):Prop:=
 aF (fun σ2=>rt σ2 R (aD (-1))) (fun J3=>∃ I6:Nat->Int->Hp->Prop,(∃ n70,I6 n70 0 σ) /\
  ∀ n7 n8 s5,I6 n7 n8 s5->∀ _:Nat->Value,bc (decide (n8<(s_n:Int))) (ix s_A s_n n8 5 (fun b9 a10=>
  ldI s5 .i64 b9 a10 (fun n11=>ldI s5 .i64 b9 (a10+1) (fun n12=>ldI s5 .i64 b9 (a10+2) (fun n13=>
  ldS s5 b9 (a10+3) (fun A14 l14 c14=>ldI s5 .i64 b9 (a10+4) (fun n15=>cl prog f #[(.agg #[aD n11,aD n12,aD n13,aN A14 l14 c14,aD n15])] s5 (aI fun t18 s17=>(bc t18 (rt s17 R (aD n8)) (wk .i64 (n8+1) (fun n19=>bk s17 n7 (fun m20 s21=>
  I6 m20 n19 s21)))))))))))) (J3 s5))
def EO:MAn:=(aO (.cut ⟨[],0,[],[]⟩ (aO (.block (.loop ⟨[],0,[.slot 8 (.sc (.int .i64))],[(0,true),(1,false),(7,true)]⟩ (aO (.seq (.cond .leaf .leaf) (.seq (.block (aO (aO (.cond (aO .leaf) .leaf)))) (.txt []))))))) (aO .leaf)))
theorem EM (σ:Hp) (s_A:aA) (s_n s_c:Nat) (f:Value) (R:aB) (h:BT σ s_A s_n s_c f R):Af prog 182 #[aN s_A s_n s_c,f] σ R:=
 Ae Bf EO Tryz.func182 rfl (h:=h)
def Jn (σ:Hp) (x0:aA) (o0 _:Nat) (R:aB):Prop:=
 aF (fun σ2=>rt σ2 R (aD 0)) (fun J3=>∃ I6:Nat->Int->Hp->Prop,(∃ n70,I6 n70 0 σ) /\
  ∀ n7 n8 s5,I6 n7 n8 s5->∀ _:Nat->Value,bc (decide (n8<(o0:Int))) (ix x0 o0 n8 1 (fun b9 a10=>
  ldI s5 .i64 b9 a10 (fun n11=>bc (!decide (n11=0)) (rt s5 R (aD n11)) (wk .i64 (n8+1) (fun n12=>
  bk s5 n7 (fun m13 s14=>I6 m13 n12 s14)))))) (J3 s5))
def PC:MAn:=(aO (aO (.cut ⟨[],0,[],[(3,true)]⟩ (aO (.block (.loop ⟨[],0,[.slot 8 (.sc (.int .i64))],[(3,true),(6,true),(7,true)]⟩ (aO (.seq (.cond .leaf .leaf) (.seq (.block (aO (aO (.cond (aO .leaf) .leaf)))) (.txt []))))))) (aO .leaf))))
theorem Pj (σ:Hp) (x0:aA) (o0 f1:Nat) (R:aB) (h:Jn σ x0 o0 f1 R):Af prog 172 #[aN x0 o0 f1] σ R:=
 Ae Bf PC Tryz.func172 rfl (h:=h)
def BS (σ:Hp) (s_A:aA) (s_n _:Nat) (f:Value) (R:aB):Prop:=
 aF (fun σ2=>rt σ2 R (aD (-1))) (fun J3=>∃ I6:Nat->Int->Hp->Prop,(∃ n70,I6 n70 0 σ) /\
  ∀ n7 n8 s5,I6 n7 n8 s5->∀ _:Nat->Value,bc (decide (n8<(s_n:Int))) (ix s_A s_n n8 5 (fun b9 a10=>
  ldI s5 .i64 b9 a10 (fun n11=>ldI s5 .i64 b9 (a10+1) (fun n12=>ldI s5 .i64 b9 (a10+2) (fun n13=>
  ldI s5 .i64 b9 (a10+3) (fun n14=>ldB s5 b9 (a10+4) (fun t15=>cl prog f #[(.agg #[aD n11,aD n12,aD n13,aD n14,.bool t15])] s5 (aI fun t18 s17=>(bc t18 (rt s17 R (aD n8)) (wk .i64 (n8+1) (fun n19=>bk s17 n7 (fun m20 s21=>
  I6 m20 n19 s21)))))))))))) (J3 s5))
def EK:MAn:=(aO (.cut ⟨[],0,[],[]⟩ (aO (.block (.loop ⟨[],0,[.slot 8 (.sc (.int .i64))],[(0,true),(1,false),(7,true)]⟩ (aO (.seq (.cond .leaf .leaf) (.seq (.block (aO (aO (.cond (aO .leaf) .leaf)))) (.txt []))))))) (aO .leaf)))
theorem EP (σ:Hp) (s_A:aA) (s_n s_c:Nat) (f:Value) (R:aB) (h:BS σ s_A s_n s_c f R):Af prog 237 #[aN s_A s_n s_c,f] σ R:=
 Ae Bf EK Tryz.func237 rfl (h:=h)
def GC (σ:Hp) (p0 u0 _:Int) (_:Bool) (_ w0 n0 z0 _:Int) (_:Bool) (_ v0:Int) (R:aB):Prop:=
 wk .i64 (w0-v0) (fun n1=>wk .i64 (p0-n0) (fun n2=>wk .i64 (u0-z0) (fun n3=>
  exl 3 aM ([n1,n2,n3]:List Int) σ (fun A4 l4 c4 s5=>aC 172 #[aN A4 l4 c4] s5 (aJ fun n8 s7=>(rt s7 R (aD n8)))))))
def N4:MAn:=(aO (aO .leaf))
theorem N3 (σ:Hp) (p0 u0 d1:Int) (a_On:Bool) (g1 w0 n0 z0 j1:Int) (b_On:Bool) (a1 v0:Int) (R:aB) (h:GC σ p0 u0 d1 a_On g1 w0 n0 z0 j1 b_On a1 v0 R):Af prog 171 #[(.agg #[aD p0,aD u0,aD d1,.bool a_On,aD g1,aD w0]),(.agg #[aD n0,aD z0,aD j1,.bool b_On,aD a1,aD v0])] σ R:=
 Ae Bf N4 Tryz.func171 rfl (h:=h)
def CD (σ:Hp) (e0 f0:Int) (cap0 cap1:aA) (R:aB):Prop:=
 dr cap0 (fun b1 o2=>ldP σ b1 o2 (fun p3=>dr p3 (fun b4 o5=>ldI σ .i64 b4 (o5+3) (fun n6=>wk .i64 (n6-f0) (fun n7=>
  dr cap0 (fun b8 o9=>ldP σ b8 o9 (fun p10=>dr p10 (fun b11 o12=>ldS σ b11 (o12+2) (fun A13 l13 _=>
  ix A13 l13 e0 1 (fun b14 a15=>ldP σ b14 a15 (fun p16=>dr p16 (fun b17 o18=>ldI σ .i64 b17 (o18+4) (fun n19=>
  aF (fun s21=>rt s21 R (.bool (decide (n19<n7)))) (fun J22=>
  bc (decide (n19<n7)) (dr cap1 (fun b23 o24=>ldS σ b23 o24 (fun A25 l25 c25=>adp 240 [.int .i64,.int .i64] A25 l25 c25 σ (fun (xs26:List (Int×Int)) s27=>
  AZ (List.length xs26+List.length ([(e0,f0)]:List (Int×Int))) (exl 240 [.int .i64,.int .i64] (xs26++([(e0,f0)]:List (Int×Int))) s27 (fun A28 l28 c28 s29=>
  dr cap1 (fun b30 o31=>st s29 b30 o31 (aN A28 l28 c28) (fun s32=>J22 s32)))))))) (J22 σ)))))))))))))))
def As:OA:=⟨[],false,[]⟩
def HH:MAn:=(aO (.seq (.plan [] (tkUQ2 21 0 As .done)) (.cut ⟨[true],1,[],[(5,true)]⟩ (aO (.cond (.txt []) .leaf)) (aO .leaf))))
theorem HA (σ:Hp) (e0 f0:Int) (cap0 cap1:aA) (R:aB) (h:CD σ e0 f0 cap0 cap1 R):Af prog 225 #[(.agg #[aD e0,aD f0]),.pointer cap0,.pointer cap1] σ R:=
 Ae Bf HH Tryz.func225 rfl (h:=h)
def CG (σ:Hp) (s0 _ m0 _:Int) (R:aB):Prop:=
 wk .i64 (s0-m0) (fun n1=>rt σ R (aD n1))
def Ht:MAn:=(aO (aO .leaf))
theorem HQ (σ:Hp) (s0 h1 m0 e1:Int) (R:aB) (h:CG σ s0 h1 m0 e1 R):Af prog 227 #[(.agg #[aD s0,aD h1]),(.agg #[aD m0,aD e1])] σ R:=
 Ae Bf Ht Tryz.func227 rfl (h:=h)
end Go.Proofs.YtoelhdjloaknbaaGreat
