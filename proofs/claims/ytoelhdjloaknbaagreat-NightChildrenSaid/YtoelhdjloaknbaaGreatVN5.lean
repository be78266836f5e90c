/- Trimmed by wip/trim.py to what this claim rests on. -/
import Derived.Test.YtoelhdjloaknbaaGreatVB11
namespace Go.Proofs.YtoelhdjloaknbaaGreat
set_option maxRecDepth 100000
open Go.RowKit
def tkVN5:Nat->Nat->OA->MPlan->MPlan
 |0,_,_,x=>x
 |n+1,i,a,x=>.take i a (tkVN5 n (i+1) a x)
theorem Dq:Tryz.prog.follows .mixedOrders=true:=by kernel_rfl
abbrev Lv:FuncId:=84
def Dh (σ:Hp) (o:Option Addr) (child asker:Int) (R:Value->Hp->Prop):Prop:=
 dr o (fun b1 o2=>ldS σ b1 o2 (fun A3 l3 _=>ix A3 l3 asker 3 (fun b4 a5=>ldI σ .i64 b4 (a5+2) (fun n6=>
  wk .u64 (n6) (fun n7=>cl Tryz.prog (.func (.func 145) #[] #[]) #[.int .u64 n7] σ (fun v8 σ9=>∃ n10:Int,(v8=(.int .i64 n10) /\
  bc (decide ((3:Int)<=n10)) (dr o (fun b11 o12=>ldS σ9 b11 o12 (fun A13 l13 _=>ix A13 l13 child 3 (fun b14 a15=>
  ldI σ9 .i64 b14 (a15+2) (fun n16=>wk .i64 (((BitVec.ofInt (IntKind.bits .i64) n16 &&& BitVec.ofInt (IntKind.bits .i64) n6).toNat:Int)) (fun n17=>
  rt σ9 R (.bool (decide (n17=n6))))))))) (rt σ9 R (.bool false)))))))))
def IQ:MAn:=(.seq (.txt []) (.seq (.txt []) (.seq (.txt [⟨[],false,[]⟩,⟨[],false,[]⟩,⟨[],false,[]⟩,⟨[],false,[]⟩,⟨[],true,[]⟩]) .leaf)))
theorem IJ (σ:Hp) (o:Option Addr) (child asker:Int) (R:Value->Hp->Prop) (h:Dh σ o child asker R):Ae Tryz.prog 84 #[.pointer o,.int .i64 child,.int .i64 asker] σ R:=
 Ad Dq IQ Tryz.func84 rfl (by kernel_rfl) (by kernel_rfl) (by kernel_rfl) h
theorem C6:Ao Tryz.prog 84=true:=by kernel_rfl
abbrev QH:FuncId:=82
def HD (σ:Hp) (l_A:Option Addr) (l_n _:Nat) (fits:Value) (R:Value->Hp->Prop):Prop:=
 cut (α:=Int->Bool->Hp->Prop) (fun n4 t5 σ2=>∀ _:Nat->Value,rt σ2 R (.tuple #[.int .i64 n4,.bool t5])) (fun J3=>
  ∃ I8:Nat->Int->Bool->Int->Hp->Prop,(∃ n90,I8 n90 0 false 0 σ)/\∀ n9:Nat,∀ n10:Int,∀ t11:Bool,∀ n12:Int,∀ σ7:Hp,I8 n9 n10 t11 n12 σ7->∀ _:Nat->Value,bc (decide (n12<((l_n:Nat):Int))) (cut (α:=Int->Bool->Hp->Prop) (fun n16 t17 σ14=>
  ∀ _:Nat->Value,wk .i64 (n12+1) (fun n18=>bk σ14 n9 (fun m19 σ20=>I8 m19 n16 t17 n18 σ20))) (fun J15=>
  ix l_A l_n n12 1 (fun b21 a22=>ldI σ7 .i64 b21 a22 (fun n23=>cl Tryz.prog fits #[.int .i64 n23] σ7 (fun v24 σ25=>
  ∃ t26:Bool,(v24=(.bool t26)/\bc (!t26) (J15 n10 t11 σ25) (bc t11 (rt σ25 R (.tuple #[.int .i64 0,.bool false])) (J15 n23 true σ25)))))))) (J3 n10 t11 σ7))
def N3:MAn:=(.seq (.txt []) (.cut ⟨[],0,[.slot 4 (.sc (.int .i64)),.slot 5 (.sc (.bool))],[]⟩ (.seq (.txt []) (.block (.loop ⟨[],0,[.slot 4 (.sc (.int .i64)),.slot 5 (.sc (.bool)),.slot 10 (.sc (.int .i64))],[(1,false),(8,true),(9,true)]⟩ (.seq (.txt []) (.seq (.cond .leaf .leaf) (.cut ⟨[],0,[.slot 4 (.sc (.int .i64)),.slot 5 (.sc (.bool))],[(1,false),(8,true),(9,true),(10,true)]⟩ (.block (.seq (.txt []) (.seq (.seq (.txt []) (.cond .leaf .leaf)) (.seq (.seq (.txt []) (.cond (.seq (.txt []) .leaf) .leaf)) (.txt []))))) (.txt []))))))) (.seq (.txt []) .leaf)))
theorem N6 (σ:Hp) (l_A:Option Addr) (l_n l_c:Nat) (fits:Value) (R:Value->Hp->Prop) (h:HD σ l_A l_n l_c fits R):Ae Tryz.prog 82 #[.slice l_A l_n l_c,fits] σ R:=
 Ad Dq N3 Tryz.func82 rfl (by kernel_rfl) (by kernel_rfl) (by kernel_rfl) h
theorem FJ:Ao Tryz.prog 82=true:=by kernel_rfl
abbrev LM:FuncId:=43
def Dk (σ:Hp) (o:Option Addr) (at_:Int) (R:Value->Hp->Prop):Prop:=
 cut (α:=Hp->Prop) (fun  σ2=>∀ _:Nat->Value,rt σ2 R (.bool false)) (fun J3=>dr o (fun b4 o5=>
  ix (some ⟨b4,o5+1,none⟩) 3 1 1 (fun b6 a7=>ldS σ b6 a7 (fun A8 l8 _=>∃ I11:Nat->Option Addr->Int->Hp->Prop,(∃ n120,bx σ (.cells #[.pointer o] 100) (fun b13 σ14=>
  I11 n120 (some ⟨b13,0,none⟩) 0 σ14))/\∀ n12:Nat,∀ p15:Option Addr,∀ n16:Int,∀ σ10:Hp,I11 n12 p15 n16 σ10->∀ _:Nat->Value,bc (decide (n16<((l8:Nat):Int))) (cut (α:=Hp->Prop) (fun  σ18=>
  ∀ _:Nat->Value,wk .i64 (n16+1) (fun n20=>bk σ18 n12 (fun m21 σ22=>I11 m21 p15 n20 σ22))) (fun J19=>
  ix A8 l8 n16 1 (fun b23 a24=>ldI σ10 .i64 b23 a24 (fun n25=>dr p15 (fun b26 o27=>ldP σ10 b26 o27 (fun p28=>
  dr p28 (fun b29 o30=>ix (some ⟨b29,o30+1,none⟩) 3 2 1 (fun b31 a32=>ldS σ10 b31 a32 (fun A33 l33 c33=>
  bx σ10 (.cells #[.int .i64 n25] 3) (fun b34 σ35=>cl Tryz.prog (.func (.func 82) #[] #[]) #[.slice A33 l33 c33,(.func (.func 83) #[] #[.pointer p15,(.pointer (some ⟨b34,0,none⟩))])] σ35 (fun v36 σ37=>
  ∃ n38:Int,∃ t39:Bool,(v36=(.tuple #[.int .i64 n38,.bool t39])/\bc (!t39) (J19 σ37) (dr p15 (fun b40 o41=>
  ldP σ37 b40 o41 (fun p42=>dr p42 (fun b43 o44=>ix (some ⟨b43,o44+1,none⟩) 3 1 1 (fun b45 a46=>
  ldS σ37 b45 a46 (fun A47 l47 c47=>bx σ37 (.cells #[.int .i64 n38] 3) (fun b48 σ49=>cl Tryz.prog (.func (.func 82) #[] #[]) #[.slice A47 l47 c47,(.func (.func 85) #[] #[.pointer p15,(.pointer (some ⟨b48,0,none⟩))])] σ49 (fun v50 σ51=>
  ∃ n52:Int,∃ t53:Bool,(v50=(.tuple #[.int .i64 n52,.bool t53])/\bc (!t53) (J19 σ51) (cut (α:=Hp->Prop) (fun  σ55=>
  ∀ _:Nat->Value,cut (α:=Hp->Prop) (fun  σ58=>∀ _:Nat->Value,rt σ58 R (.bool true)) (fun J59=>
  dr p15 (fun b60 o61=>ldP σ55 b60 o61 (fun p62=>dr p62 (fun b63 o64=>ldS σ55 b63 (o64+4) (fun A65 l65 c65=>
  ldI σ55 .i64 b34 0 (fun n66=>ldI σ55 .i64 b48 0 (fun n67=>((dr p15 (fun b68 o69=>ldP σ55 b68 o69 (fun p70=>
  adp 51 [.int .i64,.int .i64,.int .i64] A65 l65 c65 σ55 (fun (xs71:List (Int×Int×Int)) σ72=>
  B0 (List.length xs71+List.length ([(n66,n67,at_)]:List (Int×Int×Int))) (dr p70 (fun b73 o74=>
  exl 51 [.int .i64,.int .i64,.int .i64] (xs71++([(n66,n67,at_)]:List (Int×Int×Int))) σ72 (fun A75 l75 c75 σ76=>
  st σ76 b73 (o74+4) (.slice A75 l75 c75) (fun σ77=>J59 σ77))))))))/\(adp 51 [.int .i64,.int .i64,.int .i64] A65 l65 c65 σ55 (fun (xs78:List (Int×Int×Int)) σ79=>
  B0 (List.length xs78+List.length ([(n66,n67,at_)]:List (Int×Int×Int))) (dr p15 (fun b80 o81=>
  ldP σ79 b80 o81 (fun p82=>dr p82 (fun b83 o84=>exl 51 [.int .i64,.int .i64,.int .i64] (xs78++([(n66,n67,at_)]:List (Int×Int×Int))) σ79 (fun A85 l85 c85 σ86=>
  st σ86 b83 (o84+4) (.slice A85 l85 c85) (fun σ87=>J59 σ87))))))))))))))))) (fun J56=>ldI σ51 .i64 b34 0 (fun n88=>
  ldI σ51 .i64 b48 0 (fun n89=>∃ I92:Nat->Int->Hp->Prop,(∃ n930,I92 n930 0 σ51)/\∀ n93:Nat,∀ n94:Int,∀ σ91:Hp,I92 n93 n94 σ91->∀ _:Nat->Value,bc (decide (n94<((List.length ([0,n88,n89]:List Int):Nat):Int))) (cut (α:=Hp->Prop) (fun  σ96=>
  ∀ _:Nat->Value,wk .i64 (n94+1) (fun n98=>bk σ96 n93 (fun m99 σ100=>I92 m99 n98 σ100))) (fun J97=>
  (0<=n94/\n94<((List.length ([0,n88,n89]:List Int):Nat):Int)/\lat ([0,n88,n89]:List Int) ((n94:Int).toNat) (fun r101=>
  dr p15 (fun b102 o103=>ldP σ91 b102 o103 (fun p104=>dr p104 (fun b105 o106=>ix (some ⟨b105,o106+1,none⟩) 3 n94 1 (fun b107 a108=>
  ldS σ91 b107 a108 (fun A109 l109 c109=>bx σ91 (.cells #[.int .i64 r101] 3) (fun b110 σ111=>((dr p15 (fun b112 o113=>
  ldP σ111 b112 o113 (fun p114=>dr p114 (fun b115 o116=>cl Tryz.prog (.func (.func 86) #[] #[]) #[.slice A109 l109 c109,(.func (.func 87) #[] #[(.pointer (some ⟨b110,0,none⟩))])] σ111 (fun v117 σ118=>
  ∃ A119:Option Addr,∃ l119 c119:Nat,(v117=(.slice A119 l119 c119)/\ix (some ⟨b115,o116+1,none⟩) 3 n94 1 (fun b120 a121=>
  st σ118 b120 a121 (.slice A119 l119 c119) (fun σ122=>J97 σ122))))))))/\(cl Tryz.prog (.func (.func 86) #[] #[]) #[.slice A109 l109 c109,(.func (.func 87) #[] #[(.pointer (some ⟨b110,0,none⟩))])] σ111 (fun v123 σ124=>
  ∃ A125:Option Addr,∃ l125 c125:Nat,(v123=(.slice A125 l125 c125)/\dr p15 (fun b126 o127=>
  ldP σ124 b126 o127 (fun p128=>dr p128 (fun b129 o130=>ix (some ⟨b129,o130+1,none⟩) 3 n94 1 (fun b131 a132=>
  st σ124 b131 a132 (.slice A125 l125 c125) (fun σ133=>J97 σ133))))))))))))))))))) (J56 σ91)))))))))))))))))))))))))) (J3 σ10)))))
def Aj:OA:=⟨[],false,[]⟩
def Ce:MPlan:=(.take 11 Aj (.take 12 Aj (.alt 13 false Aj .done .done)))
def II:MAn:=(.seq (.txt []) (.cut ⟨[false],1,[],[]⟩ (.seq (.txt []) (.block (.loop ⟨[false],1,[.slot 2 (.sc (.ptr)),.slot 19 (.sc (.int .i64))],[(1,true),(17,true),(18,true)]⟩ (.seq (.txt []) (.seq (.cond .leaf .leaf) (.cut ⟨[false],1,[],[(1,true),(2,true),(17,true),(18,true),(19,true)]⟩ (.block (.seq (.txt []) (.seq (.txt []) (.seq (.seq (.txt []) (.cond .leaf .leaf)) (.seq (.seq (.txt []) (.seq (.txt []) (.cond .leaf .leaf))) (.cut ⟨[false,false,false],3,[],[(1,true),(2,true),(6,true),(7,true)]⟩ (.seq (.txt []) (.block (.loop ⟨[false,false,false,true],4,[.slot 49 (.hl 3 0),.slot 51 (.sc (.int .i64))],[(1,true),(2,true),(6,true),(7,true),(50,true)]⟩ (.seq (.txt []) (.seq (.cond .leaf .leaf) (.cut ⟨[false,false,false,true],4,[.slot 49 (.hl 3 0)],[(1,true),(2,true),(6,true),(7,true),(50,true),(51,true)]⟩ (.block (.seq (.txt []) (.plan [13,9] (tkVN5 8 1 Aj (.alt 0 true Aj (.take 10 Aj (.take 11 Aj (.alt 9 false Aj (.take 12 Aj (.alt 13 false Aj .done .done)) .done))) (.alt 9 false Aj (.take 0 Aj (.take 10 Aj Ce)) .done)))))) (.txt []))))))) (.cut ⟨[false,false,false],3,[],[]⟩ (.plan [10,13] (tkVN5 8 1 Aj (.new 9 Aj (.alt 0 true Aj (.alt 10 false Aj Ce .done) (.alt 10 false Aj (.take 0 Aj Ce) .done))))) (.seq (.txt []) .leaf)))))))) (.txt []))))))) (.seq (.txt []) .leaf)))
theorem Jb (σ:Hp) (o:Option Addr) (at_:Int) (R:Value->Hp->Prop) (h:Dk σ o at_ R):Ae Tryz.prog 43 #[.pointer o,.int .i64 at_] σ R:=
 Ad Dq II Tryz.func43 rfl (by kernel_rfl) (by kernel_rfl) (by kernel_rfl) h
theorem GS:Ao Tryz.prog 43=true:=by kernel_rfl
abbrev JI:FuncId:=83
def Cy (σ:Hp) (a:Int) (cap0 cap1:Option Addr) (R:Value->Hp->Prop):Prop:=
 dr cap0 (fun b1 o2=>ldP σ b1 o2 (fun p3=>dr cap1 (fun b4 o5=>ldI σ .i64 b4 o5 (fun n6=>cl Tryz.prog (.func (.func 84) #[] #[]) #[.pointer p3,.int .i64 n6,.int .i64 a] σ (fun v7 σ8=>
  ∃ t9:Bool,(v7=(.bool t9)/\rt σ8 R (.bool t9)))))))
def Hl:MAn:=(.seq (.txt []) (.seq (.txt []) .leaf))
theorem Hb (σ:Hp) (a:Int) (cap0 cap1:Option Addr) (R:Value->Hp->Prop) (h:Cy σ a cap0 cap1 R):Ae Tryz.prog 83 #[.int .i64 a,.pointer cap0,.pointer cap1] σ R:=
 Ad Dq Hl Tryz.func83 rfl (by kernel_rfl) (by kernel_rfl) (by kernel_rfl) h
theorem FN:Ao Tryz.prog 83=true:=by kernel_rfl
abbrev Kh:FuncId:=85
def Cn (σ:Hp) (c:Int) (cap0 cap1:Option Addr) (R:Value->Hp->Prop):Prop:=
 dr cap0 (fun b1 o2=>ldP σ b1 o2 (fun p3=>dr cap1 (fun b4 o5=>ldI σ .i64 b4 o5 (fun n6=>cl Tryz.prog (.func (.func 84) #[] #[]) #[.pointer p3,.int .i64 c,.int .i64 n6] σ (fun v7 σ8=>
  ∃ t9:Bool,(v7=(.bool t9)/\rt σ8 R (.bool t9)))))))
def Hc:MAn:=(.seq (.txt []) (.seq (.txt []) .leaf))
theorem HN (σ:Hp) (c:Int) (cap0 cap1:Option Addr) (R:Value->Hp->Prop) (h:Cn σ c cap0 cap1 R):Ae Tryz.prog 85 #[.int .i64 c,.pointer cap0,.pointer cap1] σ R:=
 Ad Dq Hc Tryz.func85 rfl (by kernel_rfl) (by kernel_rfl) (by kernel_rfl) h
theorem F3:Ao Tryz.prog 85=true:=by kernel_rfl
abbrev Cx:FuncId:=87
def Co (σ:Hp) (x:Int) (cap0:Option Addr) (R:Value->Hp->Prop):Prop:=
 dr cap0 (fun b1 o2=>ldI σ .i64 b1 o2 (fun n3=>rt σ R (.bool (decide (x=n3)))))
def HC:MAn:=(.seq (.txt []) (.seq (.txt []) .leaf))
theorem Hm (σ:Hp) (x:Int) (cap0:Option Addr) (R:Value->Hp->Prop) (h:Co σ x cap0 R):Ae Tryz.prog 87 #[.int .i64 x,.pointer cap0] σ R:=
 Ad Dq HC Tryz.func87 rfl (by kernel_rfl) (by kernel_rfl) (by kernel_rfl) h
theorem FV:Ao Tryz.prog 87=true:=by kernel_rfl
abbrev Qv:FuncId:=15
def Hf (σ:Hp) (l_A:Option Addr) (l_n l_c:Nat) (R:Value->Hp->Prop):Prop:=
 bc (decide ((60:Int)<((l_n:Nat):Int))) (rt σ R (.tuple #[.slice none 0 0,.int .i64 2])) (cut (α:=Hp->Prop) (fun  σ2=>
  ∀ _:Nat->Value,bx σ2 (.cells #[.slice l_A l_n l_c,.slice none 0 0,.slice none 0 0,.slice none 0 0,.slice none 0 0] 103) (fun b4 σ5=>
  cut (α:=Hp->Prop) (fun  σ7=>∀ _:Nat->Value,ldS σ7 b4 4 (fun A9 l9 c9=>rt σ7 R (.tuple #[.slice A9 l9 c9,.int .i64 0]))) (fun J8=>
  ∃ I12:Nat->Int->Hp->Prop,(∃ n130,I12 n130 0 σ5)/\∀ n13:Nat,∀ n14:Int,∀ σ11:Hp,I12 n13 n14 σ11->∀ _:Nat->Value,bc (decide (n14<((l_n:Nat):Int))) (cut (α:=Hp->Prop) (fun  σ16=>
  ∀ _:Nat->Value,wk .i64 (n14+1) (fun n18=>bk σ16 n13 (fun m19 σ20=>I12 m19 n18 σ20))) (fun J17=>
  ix l_A l_n n14 3 (fun b21 a22=>ldI σ11 .i64 b21 a22 (fun n23=>ldI σ11 .i64 b21 (a22+1) (fun n24=>
  ldI σ11 .i64 b21 (a22+2) (fun _=>cut (α:=Hp->Prop) (fun  σ27=>∀ _:Nat->Value,∃ I31:Nat->Hp->Prop,(∃ n320,I31 n320 σ27) /\
  ∀ n32:Nat,∀ σ30:Hp,I31 n32 σ30->∀ _:Nat->Value,cl Tryz.prog (.func (.func 43) #[] #[]) #[(.pointer (some ⟨b4,0,none⟩)),.int .i64 n23] σ30 (fun v33 σ34=>
  ∃ t35:Bool,(v33=(.bool t35)/\bc t35 (bk σ34 n32 (fun m36 σ37=>I31 m36 σ37)) (J17 σ34)))) (fun J28=>
  ix (some ⟨b4,1,none⟩) 3 n24 1 (fun b38 a39=>ldS σ11 b38 a39 (fun A40 l40 c40=>((adp 3 [.int .i64] A40 l40 c40 σ11 (fun (xs41:List Int) σ42=>
  B0 (List.length xs41+List.length ([n14]:List Int)) (ix (some ⟨b4,1,none⟩) 3 n24 1 (fun b43 a44=>
  exl 3 [.int .i64] (xs41++([n14]:List Int)) σ42 (fun A45 l45 c45 σ46=>st σ46 b43 a44 (.slice A45 l45 c45) (fun σ47=>
  J28 σ47))))))/\(adp 3 [.int .i64] A40 l40 c40 σ11 (fun (xs48:List Int) σ49=>B0 (List.length xs48+List.length ([n14]:List Int)) (ix (some ⟨b4,1,none⟩) 3 n24 1 (fun b50 a51=>
  exl 3 [.int .i64] (xs48++([n14]:List Int)) σ49 (fun A52 l52 c52 σ53=>st σ53 b50 a51 (.slice A52 l52 c52) (fun σ54=>
  J28 σ54)))))))))))))))) (J8 σ11)))) (fun J3=>∃ I57:Nat->Int->Int->Hp->Prop,(∃ n580,I57 n580 0 0 σ) /\
  ∀ n58:Nat,∀ n59 n60:Int,∀ σ56:Hp,I57 n58 n59 n60 σ56->∀ _:Nat->Value,bc (decide (n60<((l_n:Nat):Int))) (cut (α:=Int->Hp->Prop) (fun n64 σ62=>
  ∀ _:Nat->Value,wk .i64 (n60+1) (fun n65=>bk σ62 n58 (fun m66 σ67=>I57 m66 n64 n65 σ67))) (fun J63=>
  ix l_A l_n n60 3 (fun b68 a69=>ldI σ56 .i64 b68 a69 (fun n70=>ldI σ56 .i64 b68 (a69+1) (fun n71=>
  ldI σ56 .i64 b68 (a69+2) (fun n72=>cut (α:=Hp->Prop) (fun  σ74=>∀ _:Nat->Value,J63 n70 σ74) (fun J75=>
  cut (α:=Bool->Hp->Prop) (fun t79 σ77=>∀ _:Nat->Value,bc t79 (rt σ77 R (.tuple #[.slice none 0 0,.int .i64 121])) (J75 σ77)) (fun J78=>
  cl Tryz.prog (.func (.func 35) #[] #[]) #[.int .i64 n71,.int .i64 1,.int .i64 2] σ56 (fun v80 σ81=>
  ∃ t82:Bool,(v80=(.bool t82)/\bc (!t82) (J78 true σ81) (cl Tryz.prog (.func (.func 35) #[] #[]) #[.int .i64 n72,.int .i64 0,.int .i64 4095] σ81 (fun v83 σ84=>
  ∃ t85:Bool,(v83=(.bool t85)/\bc (!t85) (J78 true σ84) (cl Tryz.prog (.func (.func 35) #[] #[]) #[.int .i64 n70,.int .i64 n59,.int .i64 4000] σ84 (fun v86 σ87=>
  ∃ t88:Bool,(v86=(.bool t88)/\J78 (!t88) σ87)))))))))))))))) (J3 σ56)))
def As:OA:=⟨[],false,[]⟩
def Ox:MAn:=(.seq (.txt []) (.seq (.seq (.txt []) (.cond (.seq (.txt []) .leaf) .leaf)) (.seq (.txt []) (.cut ⟨[],0,[],[(0,true)]⟩ (.seq (.txt []) (.block (.loop ⟨[],0,[.slot 4 (.sc (.int .i64)),.slot 15 (.sc (.int .i64))],[(0,true),(13,true),(14,true)]⟩ (.seq (.txt []) (.seq (.cond .leaf .leaf) (.cut ⟨[],0,[.slot 4 (.sc (.int .i64))],[(0,true),(13,true),(14,true),(15,true)]⟩ (.block (.seq (.txt []) (.cut ⟨[true],1,[.slot 6 (.hb 0 0)],[(0,true),(13,true),(14,true),(15,true)]⟩ (.cut ⟨[true],1,[.slot 6 (.hb 0 0),.slot 35 (.sc (.bool))],[(0,true),(13,true),(14,true),(15,true)]⟩ (.txt [As,As,As,As,⟨[],true,[]⟩,As,As,As,As,As,⟨[],true,[]⟩]) (.cond (.seq (.txt []) .leaf) .leaf)) (.txt [])))) (.txt []))))))) (.seq (.txt [As,As,⟨[.raw],false,[]⟩]) (.cut ⟨[],0,[],[(7,true)]⟩ (.seq (.txt []) (.block (.loop ⟨[],0,[.slot 44 (.sc (.int .i64))],[(7,true),(42,true),(43,true)]⟩ (.seq (.txt []) (.seq (.cond .leaf .leaf) (.cut ⟨[],0,[],[(7,true),(42,true),(43,true),(44,true)]⟩ (.block (.seq (.txt []) (.cut ⟨[true],1,[.slot 9 (.hb 0 0)],[(7,true),(42,true),(43,true),(44,true)]⟩ (.plan [12,16] (.take 0 As (.take 1 As (tkVN5 8 3 As (.take 13 As (.take 14 As (.new 11 As (.alt 2 true As (.alt 12 false As (.take 15 As (.alt 16 false As .done .done)) .done) (.alt 12 false As (.take 2 As (.take 15 As (.alt 16 false As .done .done))) .done))))))))) (.block (.loop ⟨[true],1,[.slot 9 (.hb 0 0)],[(7,true),(42,true),(43,true),(44,true)]⟩ (.seq (.seq (.txt []) (.cond .leaf .leaf)) (.block .leaf))))))) (.txt []))))))) (.seq (.txt []) .leaf)))))))
theorem OD (σ:Hp) (l_A:Option Addr) (l_n l_c:Nat) (R:Value->Hp->Prop) (h:Hf σ l_A l_n l_c R):Ae Tryz.prog 15 #[.slice l_A l_n l_c] σ R:=
 Ad Dq Ox Tryz.func15 rfl (by kernel_rfl) (by kernel_rfl) (by kernel_rfl) h
theorem LF:Ao Tryz.prog 15=true:=by kernel_rfl
abbrev DX:FuncId:=86
def B6 (σ:Hp) (s_A:Option Addr) (s_n s_c:Nat) (del:Value) (R:Value->Hp->Prop):Prop:=
 cl Tryz.prog (.func (.func 73) #[] #[]) #[.slice s_A s_n s_c,del] σ (fun v1 σ2=>∃ n3:Int,(v1=(.int .i64 n3) /\
  bc (decide (n3=(-1))) (rt σ2 R (.slice s_A s_n s_c)) (cut (α:=Int->Hp->Prop) (fun n7 σ5=>∀ _:Nat->Value,
  (0<=n7/\n7<=((s_n:Nat):Int)/\clr Tryz.prog #[26] 0 #[(.slice (if s_c=(n7:Int).toNat then (s_A:Option Addr) else (s_A:Option Addr).map (fun x=>
  x.add ((n7:Int).toNat*1))) (s_n-(n7:Int).toNat) (s_c-(n7:Int).toNat))] σ5 (fun σ8=>(0<=n7 /\
  n7<=((s_c:Nat):Int)/\rt σ8 R (.slice s_A ((n7:Int).toNat) s_c))))) (fun J6=>wk .i64 (n3+1) (fun n9=>
  ∃ I12:Nat->Int->Int->Hp->Prop,(∃ n130,I12 n130 n3 n9 σ2)/\∀ n13:Nat,∀ n14 n15:Int,∀ σ11:Hp,I12 n13 n14 n15 σ11->∀ _:Nat->Value,bc (decide (n15<((s_n:Nat):Int))) (cut (α:=Int->Hp->Prop) (fun n19 σ17=>
  ∀ _:Nat->Value,wk .i64 (n15+1) (fun n20=>bk σ17 n13 (fun m21 σ22=>I12 m21 n19 n20 σ22))) (fun J18=>
  ix s_A s_n n15 1 (fun b23 a24=>ldI σ11 .i64 b23 a24 (fun n25=>cl Tryz.prog del #[.int .i64 n25] σ11 (fun v26 σ27=>
  ∃ t28:Bool,(v26=(.bool t28)/\bc (!t28) (ix s_A s_n n14 1 (fun b29 a30=>st σ27 b29 a30 (.int .i64 n25) (fun σ31=>
  wk .i64 (n14+1) (fun n32=>J18 n32 σ31)))) (J18 n14 σ27))))))) (J6 n14 σ11))))))
def Gq:MAn:=(.seq (.txt []) (.seq (.txt []) (.seq (.seq (.txt []) (.cond (.seq (.txt []) .leaf) .leaf)) (.cut ⟨[],0,[.slot 5 (.sc (.int .i64))],[(0,true)]⟩ (.seq (.txt []) (.block (.loop ⟨[],0,[.slot 5 (.sc (.int .i64)),.slot 6 (.sc (.int .i64))],[(0,true),(1,false)]⟩ (.seq (.seq (.txt []) (.cond .leaf .leaf)) (.cut ⟨[],0,[.slot 5 (.sc (.int .i64))],[(0,true),(1,false),(6,true)]⟩ (.block (.seq (.txt []) (.seq (.txt []) (.cond (.seq (.txt []) (.txt [])) .leaf)))) (.txt [])))))) (.seq (.txt []) (.seq (.txt []) .leaf))))))
theorem Gu (σ:Hp) (s_A:Option Addr) (s_n s_c:Nat) (del:Value) (R:Value->Hp->Prop) (h:B6 σ s_A s_n s_c del R):Ae Tryz.prog 86 #[.slice s_A s_n s_c,del] σ R:=
 Ad Dq Gq Tryz.func86 rfl (by kernel_rfl) (by kernel_rfl) (by kernel_rfl) h
theorem B9:Ao Tryz.prog 86=true:=by kernel_rfl
abbrev JF:FuncId:=145
def Cv (σ:Hp) (x:Int) (R:Value->Hp->Prop):Prop:=
 cl Tryz.prog (.func (.func 203) #[] #[]) #[.int .u64 x] σ (fun v1 σ2=>∃ n3:Int,(v1=(.int .i64 n3) /\
  rt σ2 R (.int .i64 n3)))
def HK:MAn:=(.seq (.txt []) (.seq (.cond (.seq (.txt []) .leaf) .leaf) (.seq (.txt []) .leaf)))
theorem HP (σ:Hp) (x:Int) (R:Value->Hp->Prop) (h:Cv σ x R):Ae Tryz.prog 145 #[.int .u64 x] σ R:=
 Ad Dq HK Tryz.func145 rfl (by kernel_rfl) (by kernel_rfl) (by kernel_rfl) h
theorem FQ:Ao Tryz.prog 145=true:=by kernel_rfl
abbrev Ik:FuncId:=203
def B7 (σ:Hp) (x:Int) (R:Value->Hp->Prop):Prop:=
 (0<=(1:Int)/\wk .u64 (((BitVec.ofInt (IntKind.bits .u64) (Int.fdiv x (2^(min (1:Int).toNat (IntKind.bits .u64)))) &&& BitVec.ofInt (IntKind.bits .u64) 6148914691236517205).toNat:Int)) (fun n1=>
  wk .u64 (((BitVec.ofInt (IntKind.bits .u64) x &&& BitVec.ofInt (IntKind.bits .u64) 6148914691236517205).toNat:Int)) (fun n2=>
  wk .u64 (n1+n2) (fun n3=>(0<=(2:Int)/\wk .u64 (((BitVec.ofInt (IntKind.bits .u64) (Int.fdiv n3 (2^(min (2:Int).toNat (IntKind.bits .u64)))) &&& BitVec.ofInt (IntKind.bits .u64) 3689348814741910323).toNat:Int)) (fun n4=>
  wk .u64 (((BitVec.ofInt (IntKind.bits .u64) n3 &&& BitVec.ofInt (IntKind.bits .u64) 3689348814741910323).toNat:Int)) (fun n5=>
  wk .u64 (n4+n5) (fun n6=>(0<=(4:Int)/\wk .u64 ((Int.fdiv n6 (2^(min (4:Int).toNat (IntKind.bits .u64))))+n6) (fun n7=>
  wk .u64 (((BitVec.ofInt (IntKind.bits .u64) n7 &&& BitVec.ofInt (IntKind.bits .u64) 1085102592571150095).toNat:Int)) (fun n8=>
  (0<=(8:Int)/\wk .u64 (n8+(Int.fdiv n8 (2^(min (8:Int).toNat (IntKind.bits .u64))))) (fun n9=>
  (0<=(16:Int)/\wk .u64 (n9+(Int.fdiv n9 (2^(min (16:Int).toNat (IntKind.bits .u64))))) (fun n10=>
  (0<=(32:Int)/\wk .u64 (n10+(Int.fdiv n10 (2^(min (32:Int).toNat (IntKind.bits .u64))))) (fun n11=>
  wk .i64 (n11) (fun n12=>wk .i64 (((BitVec.ofInt (IntKind.bits .i64) n12 &&& BitVec.ofInt (IntKind.bits .i64) 127).toNat:Int)) (fun n13=>
  rt σ R (.int .i64 n13))))))))))))))))))))
def Gi:MAn:=(.seq (.txt []) (.seq (.txt []) (.seq (.txt []) (.seq (.txt []) (.seq (.txt []) (.seq (.txt []) (.seq (.txt []) (.seq (.txt []) .leaf))))))))
theorem Gn (σ:Hp) (x:Int) (R:Value->Hp->Prop) (h:B7 σ x R):Ae Tryz.prog 203 #[.int .u64 x] σ R:=
 Ad Dq Gi Tryz.func203 rfl (by kernel_rfl) (by kernel_rfl) (by kernel_rfl) h
theorem Fe:Ao Tryz.prog 203=true:=by kernel_rfl
end Go.Proofs.YtoelhdjloaknbaaGreat
