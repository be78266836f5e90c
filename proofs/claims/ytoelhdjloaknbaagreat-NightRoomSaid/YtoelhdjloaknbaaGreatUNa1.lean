/- What this claim rests on. -/
import Derived.Test.YtoelhdjloaknbaaGreatUN1
import Derived.Test.YtoelhdjloaknbaaGreatUNa0
namespace Go.Proofs.YtoelhdjloaknbaaGreat
set_option maxRecDepth 100000
open Go.RowKit Go.Proofs.Tryz
abbrev Rul:=Int×Int×Int×Bool
abbrev Ent:=Int×Int×Int×Int×Int
abbrev sRu:List Sh:=[.int .i64,.int .i64,.int .i64,.bool]
abbrev sEn:List Sh:=[.int .i64,.int .i64,.int .i64,.int .i64,.int .i64]
structure Bok where
 R:List Rul
 K:List Int
 I:List Int
structure BkW where
 r:SL
 k:SL
 i:SL
def BkW.v (w:BkW):Value:=.agg #[w.r.v,w.k.v,w.i.v]
structure BkR (σ:Hp) (w:BkW) (b:Bok):Prop where
 r:RdS sRu σ w.r.A w.r.n b.R
 k:RdS aM σ w.k.A w.k.n b.K
 i:RdS aM σ w.i.A w.i.n b.I
theorem BkR.sub {σ σ':Hp} {w:BkW} {b:Bok} (h:BkR σ w b) (hs:Hp.Sub σ σ'):BkR σ' w b:=⟨h.r.sub hs,h.k.sub hs,h.i.sub hs⟩
theorem BkR.rn {σ:Hp} {w:BkW} {b:Bok} (h:BkR σ w b):w.r.n=b.R.length:=h.r.1
theorem BkR.kn {σ:Hp} {w:BkW} {b:Bok} (h:BkR σ w b):w.k.n=b.K.length:=h.k.1
theorem BkR.in {σ:Hp} {w:BkW} {b:Bok} (h:BkR σ w b):w.i.n=b.I.length:=h.i.1
def Inn (n lo hi:Int):Bool:=decide (lo<=n/\n<=hi)
def Bok.rulOK (b:Bok) (r:Rul):Bool:=Inn r.1 0 ((b.I.length:Int)-1)&&Inn r.2.1 1 10000&&Inn r.2.2.1 0 9
def Bok.ok (b:Bok):Bool:=decide (b.R.length<=20)&&decide (b.K.length<=8)&&decide (b.I.length<=10)&&b.R.all b.rulOK&&b.K.all (Inn · 0 9)&&b.I.all (Inn · 0 10000)
def Bok.e (b:Bok):Int:=if b.ok then 0 else 100
def Bok.ru (b:Bok) (i:Int):Rul:=b.R.getD i.toNat (0,0,0,false)
def Bok.per (b:Bok) (n:Int):Bool:=Inn n 0 ((b.K.length:Int)-1)
def Bok.rid (b:Bok) (n:Int):Bool:=Inn n 0 ((b.I.length:Int)-1)
def Bok.may (b:Bok) (r n:Int):Bool:=b.per n&&decide ((b.ru r).2.2.1<=gt b.K n)
def Bok.sgn (b:Bok) (r x y:Int):Bool:=if (b.ru r).2.2.2 then b.may r x&&b.may r y && !decide (x=y) else b.may r x&&decide (y=-1)
def mnd (es:List Ent) (n:Int):Bool:=es.any fun x=>decide (x.2.1=3)&&decide (x.2.2.1=n)
def enA (es:List Ent) (i:Int):Ent:=es.getD i.toNat (0,0,0,0,0)
def Qo (es:List Ent):Int:=if 0<es.length then (enA es ((es.length:Int)-1)).1 else 0
def Bok.rgt (b:Bok) (es:List Ent) (x:Ent):Bool:=
 Inn x.1 (Qo es) 10000 &&
 if x.2.1=1 then Inn x.2.2.1 0 ((b.R.length:Int)-1)&&b.sgn x.2.2.1 x.2.2.2.1 x.2.2.2.2
 else if x.2.1=2 then b.rid x.2.2.1&&Inn x.2.2.2.1 1 3&&decide (x.2.2.2.2=0)
 else if x.2.1=3 then Inn x.2.2.1 0 ((es.length:Int)-1)&&decide ((enA es x.2.2.1).2.1=2) && !mnd es x.2.2.1&&b.per x.2.2.2.1&&decide (x.2.2.2.2=0)
 else if x.2.1=4 then b.rid x.2.2.1&&b.per x.2.2.2.1&&decide (x.2.2.2.2=0)
 else if x.2.1=5 then b.rid x.2.2.1&&Inn x.2.2.2.1 0 10000&&decide (x.2.2.2.2=0)
 else if x.2.1=6 then b.rid x.2.2.1&&decide (x.2.2.2.1=0)&&decide (x.2.2.2.2=0) else false
def ruV (r:Rul):Value:=.agg #[aD r.1,aD r.2.1,aD r.2.2.1,.bool r.2.2.2]
def enV (x:Ent):Value:=.agg #[aD x.1,aD x.2.1,aD x.2.2.1,aD x.2.2.2.1,aD x.2.2.2.2]
def fxN {α:Type} (p:α->Bool) (xs:List α):Int:=if xs.findIdx p<xs.length then (xs.findIdx p:Int) else -1
theorem OV {α:Type} {p:α->Bool} {xs:List α} {k:Nat} (hk:k<xs.length) (h:p xs[k]=true) (hj:∀ j,(h:j<xs.length)->j<k->p xs[j]=false):fxN p xs=k:=by
 have:xs.findIdx p=k:=(List.findIdx_eq hk).2 ⟨h,fun j hjk=>hj j (by omega) hjk⟩
 unfold fxN
 rw [this,if_pos hk]
theorem Iq {α:Type} {p:α->Bool} {xs:List α} (h:∀ j,(h:j<xs.length)->p xs[j]=false):fxN p xs=-1:=by
 have:xs.findIdx p=xs.length:=List.findIdx_eq_length.2 fun x hx=>by
  obtain ⟨i,hi,rfl⟩:=List.getElem_of_mem hx
  exact h i hi
 unfold fxN
 rw [this,if_neg (by omega)]
theorem Nd {α:Type} {p:α->Bool} {xs:List α}:decide (0<=fxN p xs)=xs.any p:=by
 unfold fxN
 by_cases h:xs.findIdx p<xs.length
 ·rw [if_pos h]
  have:=List.findIdx_getElem (w:=h)
  rw [List.any_eq_true.2 ⟨_,List.getElem_mem h,this⟩]
  exact decide_eq_true (by omega)
 ·rw [if_neg h]
  have h':xs.findIdx p=xs.length:=Nat.le_antisymm (List.findIdx_le_length) (by omega)
  rw [List.findIdx_eq_length] at h'
  have:xs.any p=false:=by
   rw [List.any_eq_false]
   intro x hx
   simp [h' x hx]
  rw [this]
  rfl
theorem L7 {xs:List Ent} {i:Int} (h:i.toNat<xs.length):enA xs i=xs[i.toNat]:=by unfold enA;simp [List.getD,h]
theorem Bok.ru_eq {b:Bok} {i:Int} (h:i.toNat<b.R.length):b.ru i=b.R[i.toNat]:=by unfold Bok.ru;simp [List.getD,h]
section
variable {σ:Hp}
theorem ZY {A:aA} {n:Nat} {xs:List Rul} {i:Int} {K:Int->Int->Int->Bool->Prop} (h:RdS sRu σ A n xs) (hi:0<=i) (hn:i.toNat<xs.length) (hk:∀ r:Rul,xs[i.toNat]=r->K r.1 r.2.1 r.2.2.1 r.2.2.2):
  ix A n i 4 fun b a=>ldI σ .i64 b a fun x1=>ldI σ .i64 b (a+1) fun x2=>ldI σ .i64 b (a+2) fun x3=>ldB σ b (a+3) fun x4=>K x1 x2 x3 x4:=by
 refine Eg (ss:=sRu) h rfl hi hn fun b o hc=>?_
 exact AV (hc 0 (by decide)) (AV (hc 1 (by decide)) (AV (hc 2 (by decide)) (Xf (hc 3 (by decide)) (hk _ rfl))))
theorem Th {A:aA} {n:Nat} {xs:List Ent} {i:Int} {K:Int->Int->Int->Int->Int->Prop} (h:RdS sEn σ A n xs) (hi:0<=i) (hn:i.toNat<xs.length) (hk:∀ r:Ent,xs[i.toNat]=r->K r.1 r.2.1 r.2.2.1 r.2.2.2.1 r.2.2.2.2):
  ix A n i 5 fun b a=>ldI σ .i64 b a fun x1=>ldI σ .i64 b (a+1) fun x2=>ldI σ .i64 b (a+2) fun x3=>ldI σ .i64 b (a+3) fun x4=>ldI σ .i64 b (a+4) fun x5=>K x1 x2 x3 x4 x5:=by
 refine Eg (ss:=sEn) h rfl hi hn fun b o hc=>?_
 exact AV (hc 0 (by decide)) (AV (hc 1 (by decide)) (AV (hc 2 (by decide)) (AV (hc 3 (by decide)) (AV (hc 4 (by decide)) (hk _ rfl)))))
theorem Z5 {A:aA} {n:Nat} {xs:List Ent} {i:Int} {K:Int->Prop} (h:RdS sEn σ A n xs) (hi:0<=i) (hn:i.toNat<xs.length) (hk:K (enA xs i).1):ix A n i 5 fun b a=>ldI σ .i64 b a K:=by
 refine Eg (ss:=sEn) h rfl hi hn fun b o hc=>AV (hc 0 (by decide)) ?_
 rw [L7 hn] at hk
 exact hk
theorem Aaj {A:aA} {n:Nat} {xs:List Ent} {i:Int} {K:Int->Prop} (h:RdS sEn σ A n xs) (hi:0<=i) (hn:i.toNat<xs.length) (hk:K (enA xs i).2.1):ix A n i 5 fun b a=>ldI σ .i64 b (a+1) K:=by
 refine Eg (ss:=sEn) h rfl hi hn fun b o hc=>AV (hc 1 (by decide)) ?_
 rw [L7 hn] at hk
 exact hk
theorem AaD {A:aA} {n:Nat} {b:Bok} {i:Int} {K:Int->Prop} (h:RdS sRu σ A n b.R) (hi:0<=i) (hn:i.toNat<b.R.length) (hk:K (b.ru i).2.2.1):ix A n i 4 fun b a=>ldI σ .i64 b (a+2) K:=by
 refine Eg (ss:=sRu) h rfl hi hn fun b' o hc=>AV (hc 2 (by decide)) ?_
 rw [Bok.ru_eq hn] at hk
 exact hk
theorem Z3 {A:aA} {n:Nat} {b:Bok} {i:Int} {K:Int->Prop} (h:RdS sRu σ A n b.R) (hi:0<=i) (hn:i.toNat<b.R.length) (hk:K (b.ru i).2.1):ix A n i 4 fun b a=>ldI σ .i64 b (a+1) K:=by
 refine Eg (ss:=sRu) h rfl hi hn fun b' o hc=>AV (hc 1 (by decide)) ?_
 rw [Bok.ru_eq hn] at hk
 exact hk
theorem Aaq {A:aA} {n:Nat} {b:Bok} {i:Int} {K:Int->Prop} (h:RdS sRu σ A n b.R) (hi:0<=i) (hn:i.toNat<b.R.length) (hk:K (b.ru i).1):ix A n i 4 fun b a=>ldI σ .i64 b a K:=by
 refine Eg (ss:=sRu) h rfl hi hn fun b' o hc=>AV (hc 0 (by decide)) ?_
 rw [Bok.ru_eq hn] at hk
 exact hk
theorem AaG {A:aA} {n:Nat} {b:Bok} {i:Int} {K:Bool->Prop} (h:RdS sRu σ A n b.R) (hi:0<=i) (hn:i.toNat<b.R.length) (hk:K (b.ru i).2.2.2):ix A n i 4 fun b a=>ldB σ b (a+3) K:=by
 refine Eg (ss:=sRu) h rfl hi hn fun b' o hc=>Xf (hc 3 (by decide)) ?_
 rw [Bok.ru_eq hn] at hk
 exact hk
theorem We {n lo hi:Int}:Af prog 185 #[aD n,aD lo,aD hi] σ fun v σ'=>v=.bool (Inn n lo hi)/\σ'=σ:=by
 apply LC
 unfold Fb
 refine AF (fun h=>Al ⟨?_,rfl⟩) (fun h=>Al ⟨?_,rfl⟩)
 ·simp [Inn,h]
 ·simp [Inn,h]
theorem Iy {n lo hi:Int} {K:Bool->Hp->Prop} (h:K (Inn n lo hi) σ):aC 185 #[aD n,aD lo,aD hi] σ fun v σ'=>∃ t:Bool,(v=.bool t/\K t σ'):=clB (aV 185) We h
theorem WX {A:aA} {n c:Nat} {xs:List Rul} {f:Value} {p:Rul->Bool} (hx:RdS sRu σ A n xs) (hl:xs.length<=4294967296)
  (hf:∀ x∈xs,cl prog f #[ruV x] σ fun v σ'=>v=.bool (p x)/\σ'=σ):Af prog 270 #[aN A n c,f] σ fun v σ'=>v=aD (fxN p xs)/\σ'=σ:=by
 apply Fc
 unfold BW
 have hn:n=xs.length:=hx.1
 refine Ah fun J3 h3=>?_
 refine ⟨fun m i τ=>∃ k:Nat,m=xs.length-k/\i=k/\k<=xs.length/\τ=σ/\∀ j,(h:j<xs.length)->j<k->p xs[j]=false,⟨_,0,rfl,rfl,by omega,rfl,fun j _ h=>by omega⟩,?_⟩
 rintro m i τ ⟨k,rfl,rfl,hk,rfl,hj⟩ _
 refine AF (fun hlt=>?_) (fun hlt=>?_)
 ·have hkl:k<xs.length:=by omega
  refine ZY hx (by omega) (by omega) fun r hr=>?_
  simp only [Int.toNat_natCast] at hr
  refine B7.mono (hf r (hr▸List.getElem_mem hkl)) ?_
  rintro _ _ ⟨rfl,rfl⟩
  refine ⟨_,rfl,C4 (fun hp=>Al ⟨?_,rfl⟩) (fun hp=>AS (by omega) (Be _ (by omega) ⟨k+1,rfl,by omega,by omega,rfl,fun j h1 h2=>?_⟩))⟩
  ·rw [OV hkl (hr▸hp) hj]
  ·rcases Nat.lt_or_ge j k with h3 | h3
   ·exact hj j h1 h3
   ·obtain rfl:j=k:=by omega
    rw [hr];exact hp
 ·obtain rfl:k=xs.length:=by omega
  rw [h3]
  intro _
  exact Al ⟨by rw [Iq fun j h=>hj j h h],rfl⟩
theorem Xv {A:aA} {n c:Nat} {xs:List Rul} {f:Value} {p:Rul->Bool} (hx:RdS sRu σ A n xs) (hl:xs.length<=4294967296)
  (hf:∀ x∈xs,cl prog f #[ruV x] σ fun v σ'=>v=.bool (p x)/\σ'=σ):Af prog 238 #[aN A n c,f] σ fun v σ'=>v=.bool (xs.any p)/\σ'=σ:=by
 apply D7
 unfold BH
 refine clI (aV 270) (WX hx hl hf) (Al ⟨by rw [Nd],rfl⟩)
theorem S7 {A:aA} {n c:Nat} {xs:List Ent} {f:Value} {p:Ent->Bool} (hx:RdS sEn σ A n xs) (hl:xs.length<=4294967296)
  (hf:∀ x∈xs,cl prog f #[enV x] σ fun v σ'=>v=.bool (p x)/\σ'=σ):Af prog 246 #[aN A n c,f] σ fun v σ'=>v=aD (fxN p xs)/\σ'=σ:=by
 apply EL
 unfold BR
 have hn:n=xs.length:=hx.1
 refine Ah fun J3 h3=>?_
 refine ⟨fun m i τ=>∃ k:Nat,m=xs.length-k/\i=k/\k<=xs.length/\τ=σ/\∀ j,(h:j<xs.length)->j<k->p xs[j]=false,⟨_,0,rfl,rfl,by omega,rfl,fun j _ h=>by omega⟩,?_⟩
 rintro m i τ ⟨k,rfl,rfl,hk,rfl,hj⟩ _
 refine AF (fun hlt=>?_) (fun hlt=>?_)
 ·have hkl:k<xs.length:=by omega
  refine Th hx (by omega) (by omega) fun r hr=>?_
  simp only [Int.toNat_natCast] at hr
  refine B7.mono (hf r (hr▸List.getElem_mem hkl)) ?_
  rintro _ _ ⟨rfl,rfl⟩
  refine ⟨_,rfl,C4 (fun hp=>Al ⟨?_,rfl⟩) (fun hp=>AS (by omega) (Be _ (by omega) ⟨k+1,rfl,by omega,by omega,rfl,fun j h1 h2=>?_⟩))⟩
  ·rw [OV hkl (hr▸hp) hj]
  ·rcases Nat.lt_or_ge j k with h3 | h3
   ·exact hj j h1 h3
   ·obtain rfl:j=k:=by omega
    rw [hr];exact hp
 ·obtain rfl:k=xs.length:=by omega
  rw [h3]
  intro _
  exact Al ⟨by rw [Iq fun j h=>hj j h h],rfl⟩
theorem Xc {A:aA} {n c:Nat} {xs:List Ent} {f:Value} {p:Ent->Bool} (hx:RdS sEn σ A n xs) (hl:xs.length<=4294967296)
  (hf:∀ x∈xs,cl prog f #[enV x] σ fun v σ'=>v=.bool (p x)/\σ'=σ):Af prog 272 #[aN A n c,f] σ fun v σ'=>v=.bool (xs.any p)/\σ'=σ:=by
 apply DP
 unfold Bx
 refine clI (aV 246) (S7 hx hl hf) (Al ⟨by rw [Nd],rfl⟩)
theorem W3 {A:aA} {n c:Nat} {xs:List Int} {f:Value} {p:Int->Bool} (hx:RdS aM σ A n xs) (hl:xs.length<=4294967296)
  (hf:∀ x∈xs,cl prog f #[aD x] σ fun v σ'=>v=.bool (p x)/\σ'=σ):Af prog 73 #[aN A n c,f] σ fun v σ'=>v=aD (fxN p xs)/\σ'=σ:=by
 apply C8
 unfold BZ
 have hn:n=xs.length:=hx.1
 refine Ah fun J3 h3=>?_
 refine ⟨fun m i τ=>∃ k:Nat,m=xs.length-k/\i=k/\k<=xs.length/\τ=σ/\∀ j,(h:j<xs.length)->j<k->p xs[j]=false,⟨_,0,rfl,rfl,by omega,rfl,fun j _ h=>by omega⟩,?_⟩
 rintro m i τ ⟨k,rfl,rfl,hk,rfl,hj⟩ _
 refine AF (fun hlt=>?_) (fun hlt=>?_)
 ·have hkl:k<xs.length:=by omega
  refine EJ hx (by omega) (by omega) ?_
  rw [B3 hkl]
  refine B7.mono (hf _ (List.getElem_mem hkl)) ?_
  rintro _ _ ⟨rfl,rfl⟩
  refine ⟨_,rfl,C4 (fun hp=>Al ⟨?_,rfl⟩) (fun hp=>AS (by omega) (Be _ (by omega) ⟨k+1,rfl,by omega,by omega,rfl,fun j h1 h2=>?_⟩))⟩
  ·rw [OV hkl hp hj]
  ·rcases Nat.lt_or_ge j k with h3 | h3
   ·exact hj j h1 h3
   ·obtain rfl:j=k:=by omega
    exact hp
 ·obtain rfl:k=xs.length:=by omega
  rw [h3]
  intro _
  exact Al ⟨by rw [Iq fun j h=>hj j h h],rfl⟩
theorem Ns {A:aA} {n c:Nat} {xs:List Int} {f:Value} {p:Int->Bool} (hx:RdS aM σ A n xs) (hl:xs.length<=4294967296)
  (hf:∀ x∈xs,cl prog f #[aD x] σ fun v σ'=>v=.bool (p x)/\σ'=σ):Af prog 33 #[aN A n c,f] σ fun v σ'=>v=.bool (xs.any p)/\σ'=σ:=by
 apply Cs
 unfold BC
 refine clI (aV 73) (W3 hx hl hf) (Al ⟨by rw [Nd],rfl⟩)
theorem GM {α:Type} {p:α->Bool}:∀ {xs:List α},(xs.any fun x=>!p x)=!xs.all p
 | []=>rfl
 | x::xs=>by simp only [List.any_cons,List.all_cons,GM (xs:=xs)];cases p x<;>rfl
theorem Tx {w:BkW} {b:Bok} (h:BkR σ w b):Af prog 183 #[w.v] σ fun v σ'=>v=aD b.e/\σ'=σ:=by
 apply IS
 unfold Di
 have hrn:=h.rn
 have hkn:=h.kn
 have hin:=h.in
 refine Ah fun J3 h3=>?_
 have k3:∀ t,t=!(decide (b.R.length<=20)&&decide (b.K.length<=8)&&decide (b.I.length<=10))->J3 t σ:=by
  rintro t rfl
  rw [h3]
  intro _
  refine Ah fun J7 h7=>?_
  have k7:∀ c s6 t,t=!(decide (b.R.length<=20)&&decide (b.K.length<=8)&&decide (b.I.length<=10)&&b.R.all b.rulOK)->Blk c (.cells #[w.r.v,w.k.v,w.i.v] 28 (0,0)) σ s6->J7 (some ⟨c,0,none⟩) t s6:=by
   rintro c s6 t rfl hb
   rw [h7]
   intro _
   have hs:Hp.Sub σ s6:=Ay.blk.sub hb
   have hg:=hb.get
   refine Ah fun J12 h12=>?_
   have k12:∀ t,t=!(decide (b.R.length<=20)&&decide (b.K.length<=8)&&decide (b.I.length<=10)&&b.R.all b.rulOK&&b.K.all (Inn · 0 9))->J12 t s6:=by
    rintro t rfl
    rw [h12]
    intro _
    refine Ah fun J16 h16=>?_
    have k16:b.ok=true->J16 s6:=fun hok=>by
     rw [h16]
     intro _
     refine Bm hs ⟨?_,rfl⟩
     unfold Bok.e
     rw [hok]
     rfl
    refine Ah fun J19 h19=>?_
    have k19:∀ t,t=!b.ok->J19 t s6:=by
     rintro t rfl
     rw [h19]
     intro _
     refine B5 (fun hok=>Bm hs ⟨?_,rfl⟩) (fun hok=>k16 hok)
     unfold Bok.e
     rw [hok]
     rfl
    refine B5 (fun hf=>k19 true ?_) (fun ht=>?_)
    ·unfold Bok.ok;rw [hf];rfl
    ·refine AG (Bu hg rfl (clB (aV 33) (Ns (p:=fun x=>!Inn x 0 10000) (h.i.sub hs) ?_ fun x _=>?_) (k19 _ ?_)))
     ·simp only [Bool.and_eq_true,decide_eq_true_eq] at ht
      have:=ht.1.1.2
      omega
     ·refine B7.func (aV 241) (Hl _ _ _ ?_)
      unfold Cx
      exact Iy (Al ⟨rfl,rfl⟩)
     ·unfold Bok.ok;rw [ht,GM];rfl
   refine B5 (fun hf=>k12 true ?_) (fun ht=>?_)
   ·rw [hf];rfl
   ·refine AG (Bu hg rfl (clB (aV 33) (Ns (p:=fun x=>!Inn x 0 9) (h.k.sub hs) ?_ fun x _=>?_) (k12 _ ?_)))
    ·simp only [Bool.and_eq_true,decide_eq_true_eq] at ht
     have:=ht.1.1.2
     omega
    ·refine B7.func (aV 240) (HV _ _ _ ?_)
     unfold CA
     exact Iy (Al ⟨rfl,rfl⟩)
    ·rw [ht,GM];rfl
  refine B5 (fun hf c nc=>k7 _ _ true ?_ ⟨nc,rfl⟩) (fun ht c nc=>?_)
  ·rw [hf];rfl
  ·have hb:Blk c (.cells #[w.r.v,w.k.v,w.i.v] 28 (0,0)) σ (σ.ins c (.cells #[w.r.v,w.k.v,w.i.v] 28 (0,0))):=⟨nc,rfl⟩
   have hs:Hp.Sub σ (σ.ins c (.cells #[w.r.v,w.k.v,w.i.v] 28 (0,0))):=Ay.blk.sub hb
   have ht':=ht
   simp only [Bool.and_eq_true,decide_eq_true_eq] at ht'
   refine clB (aV 238) (Xv (p:=fun x=>!b.rulOK x) (h.r.sub hs) (by omega) fun x _=>?_) (k7 _ _ _ ?_ hb)
   ·refine B7.func (aV 239) (Hz _ _ _ _ _ _ _ ?_)
    unfold CC
    refine AG (Bu hb.get rfl (AS (by omega) (Iy ?_)))
    rw [hin]
    refine B5 (fun e=>Al ⟨?_,rfl⟩) (fun e=>Iy (B5 (fun e2=>Al ⟨?_,rfl⟩) (fun e2=>Iy (Al ⟨?_,rfl⟩))))
    ·simp [Bok.rulOK,e]
    ·simp [Bok.rulOK,e2]
    ·simp [Bok.rulOK,e,e2]
   ·rw [ht,GM];rfl
 refine AF (fun h1=>k3 _ ?_) (fun h1=>AF (fun h2=>k3 _ ?_) (fun h2=>k3 _ ?_))
 ·have:¬ b.R.length<=20:=by omega
  simp [this]
 ·have:¬ b.K.length<=8:=by omega
  simp [this]
 ·have e1:b.R.length<=20:=by omega
  have e2:b.K.length<=8:=by omega
  rw [hin]
  simp only [e1,e2,decide_true,Bool.true_and]
  rw [← decide_not]
  exact decide_eq_decide.2 (by omega)
end
def lgV (w:BkW) (E:SL):Value:=.agg #[w.r.v,w.k.v,w.i.v,E.v]
structure LgR (σ:Hp) (w:BkW) (E:SL) (b:Bok) (es:List Ent):Prop where
 b:BkR σ w b
 e:RdS sEn σ E.A E.n es
theorem LgR.sub {σ σ':Hp} {w:BkW} {E:SL} {b:Bok} {es:List Ent} (h:LgR σ w E b es) (hs:Hp.Sub σ σ'):LgR σ' w E b es:=⟨h.b.sub hs,h.e.sub hs⟩
theorem Bok.ok_spec {b:Bok} (h:b.ok=true):b.R.length<=20/\b.K.length<=8/\b.I.length<=10/\(∀ r∈b.R,b.rulOK r=true)/\(∀ n∈b.K,0<=n/\n<=9)/\∀ n∈b.I,0<=n/\n<=10000:=by
 unfold Bok.ok at h
 simp only [Bool.and_eq_true,decide_eq_true_eq,List.all_eq_true,Inn] at h
 obtain ⟨⟨⟨⟨⟨h1,h2⟩,h3⟩,h4⟩,h5⟩,h6⟩:=h
 exact ⟨h1,h2,h3,h4,h5,h6⟩
theorem Bok.e0 {b:Bok} (h:b.e=0):b.ok=true:=by
 unfold Bok.e at h
 split at h
 ·assumption
 ·cases h
section
variable {σ:Hp} {w:BkW} {E:SL} {b:Bok} {es:List Ent}
theorem Aat (h:LgR σ w E b es) (hb:b.ok=true) {n:Int}:Af prog 243 #[lgV w E,aD n] σ fun v σ'=>v=.bool (b.rid n)/\σ'=σ:=by
 apply JG
 unfold DS
 have:=h.b.in
 have:=(Bok.ok_spec hb).2.2.1
 refine AS (by omega) (Iy (Al ⟨?_,rfl⟩))
 rw [h.b.in];rfl
theorem R7 (h:LgR σ w E b es) (hb:b.ok=true) {n:Int} {K:Bool->Hp->Prop} (hk:K (b.rid n) σ):aC 243 #[lgV w E,aD n] σ fun v σ'=>∃ t:Bool,(v=.bool t/\K t σ'):=clB (aV 243) (Aat h hb) hk
theorem Yp (h:LgR σ w E b es) (hb:b.ok=true) {n:Int}:Af prog 245 #[lgV w E,aD n] σ fun v σ'=>v=.bool (b.per n)/\σ'=σ:=by
 apply Iz
 unfold CP
 have:=h.b.kn
 have:=(Bok.ok_spec hb).2.1
 refine AS (by omega) (Iy (Al ⟨?_,rfl⟩))
 rw [h.b.kn];rfl
theorem P2 (h:LgR σ w E b es) (hb:b.ok=true) {n:Int} {K:Bool->Hp->Prop} (hk:K (b.per n) σ):aC 245 #[lgV w E,aD n] σ fun v σ'=>∃ t:Bool,(v=.bool t/\K t σ'):=clB (aV 245) (Yp h hb) hk
theorem O5 {n lo hi:Int} (h:Inn n lo hi=true):lo<=n/\n<=hi:=of_decide_eq_true h
theorem Abz (h:LgR σ w E b es) (hb:b.ok=true) {r n:Int} (hr:0<=r/\r<b.R.length):Af prog 271 #[lgV w E,aD r,aD n] σ fun v σ'=>v=.bool (b.may r n)/\σ'=σ:=by
 apply K0
 unfold Et
 have hk:=h.b.kn
 refine P2 h hb (C4 (fun e=>?_) (fun e=>Al ⟨?_,rfl⟩))
 ·have:=O5 e
  refine EJ h.b.k (by omega) (by omega) (AaD h.b.r hr.1 (by omega) (Al ⟨?_,rfl⟩))
  simp [Bok.may,e]
 ·simp [Bok.may,e]
theorem YQ (h:LgR σ w E b es) (hb:b.ok=true) {r n:Int} (hr:0<=r/\r<b.R.length) {K:Bool->Hp->Prop} (hk:K (b.may r n) σ):aC 271 #[lgV w E,aD r,aD n] σ fun v σ'=>∃ t:Bool,(v=.bool t/\K t σ'):=clB (aV 271) (Abz h hb hr) hk
theorem Y5 (h:LgR σ w E b es) (hb:b.ok=true) {r x y:Int} (hr:0<=r/\r<b.R.length):Af prog 242 #[lgV w E,aD r,aD x,aD y] σ fun v σ'=>v=.bool (b.sgn r x y)/\σ'=σ:=by
 apply IH
 unfold Dg
 refine AaG h.b.r hr.1 (by omega) (B5 (fun e=>YQ h hb hr (C4 (fun e2=>Al ⟨?_,rfl⟩) (fun e2=>Al ⟨?_,rfl⟩))) (fun e=>YQ h hb hr (C4 (fun e2=>YQ h hb hr (C4 (fun e3=>Al ⟨?_,rfl⟩) (fun e3=>Al ⟨?_,rfl⟩))) (fun e2=>Al ⟨?_,rfl⟩))))
 ·simp [Bok.sgn,e,e2]
 ·simp [Bok.sgn,e,e2]
 ·simp [Bok.sgn,e,e2,e3]
 ·simp [Bok.sgn,e,e2,e3]
 ·simp [Bok.sgn,e,e2]
theorem Tk (h:LgR σ w E b es) (hl:es.length<=4294967296) {n:Int}:Af prog 244 #[lgV w E,aD n] σ fun v σ'=>v=.bool (mnd es n)/\σ'=σ:=by
 apply H2
 unfold CT
 intro c nc
 have hs:Hp.Sub σ (σ.ins c (.cells #[aD n] 3)):=Hp.Sub.ins _ nc
 refine clB (aV 272) (Xc (p:=fun x=>decide (x.2.1=3)&&decide (x.2.2.1=n)) (h.e.sub hs) hl fun x _=>?_) (Bm hs ⟨rfl,rfl⟩)
 refine B7.func (aV 273) (GX _ _ _ _ _ _ _ _ ?_)
 unfold Co
 refine AF (fun e=>AG (Bh (Hp.ins_same ..) rfl (Al ⟨?_,rfl⟩))) (fun e=>Al ⟨?_,rfl⟩)
 ·simp [e]
 ·simp [e]
theorem Y4 (h:LgR σ w E b es) (hb:b.ok=true) (hl:es.length<=4294967296) {x:Ent}:Af prog 184 #[lgV w E,enV x] σ fun v σ'=>v=.bool (b.rgt es x)/\σ'=σ:=by
 apply Jq
 unfold Dj
 have hen:E.n=es.length:=h.e.1
 have heni:(E.n:Int)=es.length:=by rw [hen]
 have hrni:(w.r.n:Int)=b.R.length:=by rw [h.b.rn]
 have hR:=(Bok.ok_spec hb).1
 refine Ah fun J3 h3=>?_
 have k3:J3 (Qo es) σ:=by
  rw [h3]
  intro _
  refine Iy (B5 (fun e=>Al ⟨?_,rfl⟩) (fun e=>?_))
  ·unfold Bok.rgt;rw [e];rfl
  have e0:b.rgt es x=if x.2.1=1 then Inn x.2.2.1 0 ((b.R.length:Int)-1)&&b.sgn x.2.2.1 x.2.2.2.1 x.2.2.2.2
   else if x.2.1=2 then b.rid x.2.2.1&&Inn x.2.2.2.1 1 3&&decide (x.2.2.2.2=0)
   else if x.2.1=3 then Inn x.2.2.1 0 ((es.length:Int)-1)&&decide ((enA es x.2.2.1).2.1=2) && !mnd es x.2.2.1&&b.per x.2.2.2.1&&decide (x.2.2.2.2=0)
   else if x.2.1=4 then b.rid x.2.2.1&&b.per x.2.2.2.1&&decide (x.2.2.2.2=0)
   else if x.2.1=5 then b.rid x.2.2.1&&Inn x.2.2.2.1 0 10000&&decide (x.2.2.2.2=0)
   else if x.2.1=6 then b.rid x.2.2.1&&decide (x.2.2.2.1=0)&&decide (x.2.2.2.2=0) else false:=by
   unfold Bok.rgt;rw [e,Bool.true_and]
  rw [e0]
  refine AF (fun a=>?_) (fun a=>?_)
  ·rw [if_pos a]
   refine AS (by omega) (Iy ?_)
   rw [hrni]
   refine C4 (fun e2=>?_) (fun e2=>Al ⟨?_,rfl⟩)
   ·have:=O5 e2
    refine clB (aV 242) (Y5 h hb (by omega)) (Al ⟨?_,rfl⟩)
    rw [e2,Bool.true_and]
   ·rw [e2];rfl
  rw [if_neg a]
  refine AF (fun a2=>?_) (fun a2=>?_)
  ·rw [if_pos a2]
   refine R7 h hb (C4 (fun e2=>Iy (C4 (fun e3=>Al ⟨?_,rfl⟩) (fun e3=>Al ⟨?_,rfl⟩))) (fun e2=>Al ⟨?_,rfl⟩))
   ·rw [e2,e3];rfl
   ·rw [e2,e3];rfl
   ·rw [e2];rfl
  rw [if_neg a2]
  refine AF (fun a3=>?_) (fun a3=>?_)
  ·rw [if_pos a3]
   refine AS (by omega) (Iy ?_)
   rw [heni]
   refine C4 (fun e2=>?_) (fun e2=>Al ⟨?_,rfl⟩)
   ·have:=O5 e2
    refine Aaj h.e (by omega) (by omega) (AF (fun e3=>clB (aV 244) (Tk h hl) (B5 (fun e4=>P2 h hb (C4 (fun e5=>Al ⟨?_,rfl⟩) (fun e5=>Al ⟨?_,rfl⟩))) (fun e4=>Al ⟨?_,rfl⟩))) (fun e3=>Al ⟨?_,rfl⟩))
    ·simp [e2,e3,e4,e5]
    ·simp [e2,e3,e4,e5]
    ·simp [e2,e3,e4]
    ·simp [e2,e3]
   ·rw [e2];rfl
  rw [if_neg a3]
  refine AF (fun a4=>?_) (fun a4=>?_)
  ·rw [if_pos a4]
   refine R7 h hb (C4 (fun e2=>P2 h hb (C4 (fun e3=>Al ⟨?_,rfl⟩) (fun e3=>Al ⟨?_,rfl⟩))) (fun e2=>Al ⟨?_,rfl⟩))
   ·rw [e2,e3];rfl
   ·rw [e2,e3];rfl
   ·rw [e2];rfl
  rw [if_neg a4]
  refine AF (fun a5=>?_) (fun a5=>?_)
  ·rw [if_pos a5]
   refine R7 h hb (C4 (fun e2=>Iy (C4 (fun e3=>Al ⟨?_,rfl⟩) (fun e3=>Al ⟨?_,rfl⟩))) (fun e2=>Al ⟨?_,rfl⟩))
   ·rw [e2,e3];rfl
   ·rw [e2,e3];rfl
   ·rw [e2];rfl
  rw [if_neg a5]
  refine AF (fun a6=>?_) (fun a6=>?_)
  ·rw [if_pos a6]
   refine R7 h hb (C4 (fun e2=>AF (fun e3=>Al ⟨?_,rfl⟩) (fun e3=>Al ⟨?_,rfl⟩)) (fun e2=>Al ⟨?_,rfl⟩))
   ·rw [e2,decide_eq_true e3];rfl
   ·rw [e2,decide_eq_false e3];rfl
   ·rw [e2];rfl
  rw [if_neg a6]
  exact Al ⟨rfl,rfl⟩
 have hlast:Qo es=if 0<es.length then (enA es ((es.length:Int)-1)).1 else 0:=rfl
 refine AF (fun a=>AS (by omega) ?_) (fun a=>?_)
 ·rw [if_pos (by omega)] at hlast
  rw [hlast] at k3
  rw [heni]
  exact Z5 h.e (by omega) (by omega) k3
 ·rw [if_neg (by omega)] at hlast
  rw [hlast] at k3
  exact k3
end
def Bok.bad (b:Bok) (es:List Ent):Int:=fxN (fun i:Nat=>!b.rgt (es.take i) (enA es (i:Nat))) (List.range es.length)
def Bok.chk (b:Bok) (es:List Ent):Int×Int:=if b.e=0 then if 100<es.length then (0,2) else if 0<=b.bad es then (b.bad es,101) else (0,0) else (0,b.e)
theorem Bok.bad_at {b:Bok} {es:List Ent} {k:Nat} (hk:k<es.length) (h:b.rgt (es.take k) (enA es (k:Nat))=false) (hj:∀ j,j<k->b.rgt (es.take j) (enA es (j:Nat))=true):b.bad es=k:=by
 unfold Bok.bad
 refine OV (by simpa using hk) (by simp [h]) fun j h1 h2=>?_
 simp [hj j h2]
theorem Bok.bad_no {b:Bok} {es:List Ent} (hj:∀ j,j<es.length->b.rgt (es.take j) (enA es (j:Nat))=true):b.bad es=-1:=by
 unfold Bok.bad
 refine Iq fun j h1=>?_
 have:j<es.length:=by simpa using h1
 simp [hj j this]
theorem Bok.chk_ok {b:Bok} {es:List Ent} (h:(b.chk es).2=0):b.ok=true/\es.length<=100/\∀ j,j<es.length->b.rgt (es.take j) (enA es (j:Nat))=true:=by
 unfold Bok.chk at h
 split at h
 ·rename_i e
  split at h
  ·cases h
  ·split at h
   ·cases h
   ·refine ⟨Bok.e0 e,by omega,fun j hj=>?_⟩
    rename_i hn
    have hb:b.bad es=-1∨0<=b.bad es:=by
     unfold Bok.bad fxN
     split
     ·exact Or.inr (by omega)
     ·exact Or.inl rfl
    have ha:(List.range es.length).any (fun i:Nat=>!b.rgt (es.take i) (enA es (i:Nat)))=false:=by
     rw [← Nd]
     exact decide_eq_false hn
    rw [List.any_eq_false] at ha
    have:=ha j (List.mem_range.2 hj)
    simpa using this
 ·rename_i e
  exact absurd h e
def Bok.upE (es:List Ent) (day:Int):List Ent:=es.take (es.findIdx fun x=>decide (day<x.1))
def Bok.dayE (b:Bok) (es:List Ent) (day:Int):Int:=if (b.chk es).2=0 then if Inn day 0 10000 then 0 else 1 else (b.chk es).2
theorem Bok.dayE0 {b:Bok} {es:List Ent} {day:Int} (h:b.dayE es day=0):(b.chk es).2=0/\0<=day/\day<=10000:=by
 unfold Bok.dayE at h
 split at h
 ·rename_i e
  split at h
  ·rename_i e2
   exact ⟨e,O5 e2⟩
  ·cases h
 ·rename_i e
  exact absurd h e
section
variable {σ:Hp} {w:BkW} {E:SL} {b:Bok} {es:List Ent}
theorem SX (h:LgR σ w E b es):Af prog 128 #[w.v,E.v] σ fun v σ'=>Hp.Sub σ σ'/\∃ (w':BkW) (E':SL),v=.tuple #[lgV w' E',aD (b.chk es).1,aD (b.chk es).2]/\((b.chk es).2=0->w'=w/\E'.n<=E'.c/\LgR σ' w E' b es):=by
 apply Ly
 unfold E6
 have hen:E.n=es.length:=h.e.1
 refine clI (aV 183) (Tx h.b) (BQ (fun e=>Al ⟨Hp.Sub.refl _,⟨⟨none,0,0⟩,⟨none,0,0⟩,⟨none,0,0⟩⟩,⟨none,0,0⟩,?_,fun g=>?_⟩) (fun e=>?_))
 ·unfold Bok.chk;rw [if_neg e];rfl
 ·unfold Bok.chk at g;rw [if_neg e] at g;exact absurd g e
 have hok:=Bok.e0 e
 refine AF (fun a=>Al ⟨Hp.Sub.refl _,⟨⟨none,0,0⟩,⟨none,0,0⟩,⟨none,0,0⟩⟩,⟨none,0,0⟩,?_,fun g=>?_⟩) (fun a=>?_)
 ·unfold Bok.chk;rw [if_pos e,if_pos (by omega)];rfl
 ·unfold Bok.chk at g;rw [if_pos e,if_pos (by omega)] at g;cases g
 have e1:b.chk es=if 0<=b.bad es then (b.bad es,101) else (0,0):=by unfold Bok.chk;rw [if_pos e,if_neg (by omega)]
 refine Ah fun J6 h6=>?_
 refine ⟨fun m i rA rn rc kA kn kc iA jn ic xs τ=>∃ k:Nat,m=es.length-k/\i=k/\k<=es.length/\rA=w.r.A/\rn=w.r.n/\rc=w.r.c/\kA=w.k.A/\kn=w.k.n/\kc=w.k.c/\iA=w.i.A/\jn=w.i.n/\ic=w.i.c/\xs=es.take k/\τ=σ/\∀ j,j<k->b.rgt (es.take j) (enA es (j:Nat))=true,
  ⟨_,Fi.2 ⟨0,rfl,rfl,by omega,rfl,rfl,rfl,rfl,rfl,rfl,rfl,rfl,rfl,rfl,rfl,fun j hj=>by omega⟩⟩,?_⟩
 rintro m i rA rn rc kA kn kc iA jn ic xs τ ⟨k,rfl,rfl,hk,rfl,rfl,rfl,rfl,rfl,rfl,rfl,rfl,rfl,rfl,rfl,hj⟩ _
 refine AF (fun hlt=>?_) (fun hlt=>?_)
 ·have hkl:k<es.length:=by omega
  refine Th h.e (by omega) (by omega) fun r hr=>?_
  have hrk:enA es (k:Nat)=r:=by rw [L7 (by simpa using hkl)];exact hr
  intro A n c s32 ho
  have hs:Hp.Sub τ s32:=ho.sub
  have htl:(es.take k).length=k:=by simp;omega
  refine clB (aV 184) (Y4 (x:=r) (E:=⟨A,n,c⟩) (es:=es.take k) ⟨h.b.sub hs,ho.rd⟩ hok (by omega)) (B5 (fun g=>?_) (fun g=>?_))
  ·have hb:b.bad es=k:=Bok.bad_at hkl (by rw [hrk];exact g) hj
   refine Al ⟨hs,w,⟨A,n,c⟩,?_,fun g2=>?_⟩
   ·rw [e1,hb,if_pos (by omega)];rfl
   ·rw [e1,hb,if_pos (by omega)] at g2;cases g2
  ·refine CH ho (AY (by show (es.take k).length+1<=_;omega) (AS (by omega) (Be _ (by omega) ⟨k+1,rfl,by omega,by omega,rfl,rfl,rfl,rfl,rfl,rfl,rfl,rfl,rfl,?_,rfl,fun j h1=>?_⟩)))
   ·rw [List.take_succ_eq_append_getElem hkl]
    simp only [Int.toNat_natCast] at hr
    rw [hr]
   ·rcases Nat.lt_or_ge j k with h2 | h2
    ·exact hj j h2
    ·obtain rfl:j=k:=by omega
     rw [hrk];exact g
 ·obtain rfl:k=es.length:=by omega
  rw [h6]
  intro _ A n c s12 ho
  rw [List.take_length] at ho
  have hb:=Bok.bad_no hj
  refine Al ⟨ho.sub,w,⟨A,n,c⟩,?_,fun _=>⟨rfl,ho.capN,h.b.sub ho.sub,ho.rd⟩⟩
  rw [e1,hb];rfl
theorem Xg (h:LgR σ w E b es):Af prog 69 #[w.v,E.v] σ fun v σ'=>v=.tuple #[aD (b.chk es).1,aD (b.chk es).2]/\σ'=σ:=by
 apply L5
 unfold FH
 refine AW (aV 128) (SX h) ?_
 rintro v σ' ⟨hs,w',E',rfl,_⟩
 exact ⟨_,_,_,_,_,_,_,_,_,_,_,_,_,_,rfl,Bm hs ⟨rfl,rfl⟩⟩
theorem AbF (h:LgR σ w E b es) (hc:E.n<=E.c) (hl:es.length<=4294967296) {day:Int}:Af prog 186 #[lgV w E,aD day] σ fun v σ'=>σ'=σ/\∃ E',v=lgV w E'/\LgR σ w E' b (Bok.upE es day):=by
 apply LS
 unfold Ff
 have hen:E.n=es.length:=h.e.1
 intro bb nb
 have hs:Hp.Sub σ (σ.ins bb (.cells #[aD day] 3)):=Hp.Sub.ins _ nb
 refine clI (aV 246) (S7 (p:=fun x=>decide (day<x.1)) (h.e.sub hs) hl fun x _=>?_) ?_
 ·refine B7.func (aV 247) (Kb _ _ _ _ _ _ _ _ ?_)
  unfold DY
  exact AG (Bh (Hp.ins_same ..) rfl (Al ⟨rfl,rfl⟩))
 refine Ah fun J8 h8=>?_
 have k8:∀ (A:aA) (n c:Nat),LgR σ w ⟨A,n,c⟩ b (Bok.upE es day)->J8 w.r.A w.r.n w.r.c w.k.A w.k.n w.k.c w.i.A w.i.n w.i.c A n c (σ.ins bb (.cells #[aD day] 3)):=by
  intro A n c hh
  rw [h8]
  intro _
  exact Bm hs ⟨rfl,⟨A,n,c⟩,rfl,hh⟩
 unfold fxN
 refine AF (fun g=>?_) (fun g=>k8 _ _ _ ⟨h.b,?_⟩)
 ·split at g
  ·rename_i hlt
   rw [if_pos hlt]
   refine ⟨by omega,by omega,k8 _ _ _ ⟨h.b,?_⟩⟩
   rw [Int.toNat_natCast]
   have h2:List.findIdx (fun x:Ent=>decide (day<x.1)) es<=E.n:=by omega
   exact h.e.tk h2
  ·exact absurd g (by decide)
 ·split at g
  ·omega
  ·rename_i hge
   have:List.findIdx (fun x:Ent=>decide (day<x.1)) es=es.length:=Nat.le_antisymm List.findIdx_le_length (by omega)
   unfold Bok.upE
   rw [this,List.take_length]
   exact h.e
theorem Xt (h:LgR σ w E b es) {day:Int}:Af prog 130 #[w.v,E.v,aD day] σ fun v σ'=>Hp.Sub σ σ'/\∃ (w':BkW) (E':SL),v=.tuple #[lgV w' E',aD (b.dayE es day)]/\(b.dayE es day=0->w'=w/\LgR σ' w E' b (Bok.upE es day)):=by
 apply LK
 unfold EX
 refine AW (aV 128) (SX h) ?_
 rintro v σ2 ⟨hs,w',E',rfl,hh⟩
 refine ⟨_,_,_,_,_,_,_,_,_,_,_,_,_,_,rfl,BQ (fun e=>Al ⟨hs,w',E',?_,fun g=>?_⟩) (fun e=>Iy (B5 (fun e2=>Al ⟨hs,w',E',?_,fun g=>?_⟩) (fun e2=>?_)))⟩
 ·unfold Bok.dayE;rw [if_neg e];rfl
 ·unfold Bok.dayE at g;rw [if_neg e] at g;exact absurd g e
 ·unfold Bok.dayE;rw [if_pos e,e2];rfl
 ·unfold Bok.dayE at g;rw [if_pos e,e2] at g;cases g
 ·obtain ⟨rfl,hc,hl⟩:=hh e
  have:=(Bok.chk_ok e).2.1
  refine AW (aV 186) (AbF hl hc (by omega)) ?_
  rintro v s3 ⟨rfl,E2,rfl,hl2⟩
  refine ⟨_,_,_,_,_,_,_,_,_,_,_,_,rfl,Al ⟨hs,w',E2,?_,fun _=>⟨rfl,hl2⟩⟩⟩
  unfold Bok.dayE;rw [if_pos e,e2];rfl
end
theorem Uw {α:Type} {P:List α->Prop} (h0:P []) (h1:∀ xs x,P xs->P (xs++[x])) (xs:List α):P xs:=by
 have:∀ ys:List α,P ys.reverse:=fun ys=>by
  induction ys with
  | nil=>exact h0
  | cons y ys ih=>rw [List.reverse_cons];exact h1 _ _ ih
 simpa using this xs.reverse
def scn {α:Type} (f:Ent->Option α) (d:α) (es:List Ent):α:=es.foldl (fun a x=>(f x).getD a) d
theorem QR {α:Type} {f:Ent->Option α} {d:α} {es:List Ent} {x:Ent}:scn f d (es++[x])=(f x).getD (scn f d es):=by
 unfold scn
 rw [List.foldl_append]
 rfl
theorem SM {α:Type} {f:Ent->Option α} {d:α} {es:List Ent} (h:∀ j,(h:j<es.length)->f es[j]=none):scn f d es=d:=by
 revert h
 refine Uw (P:=fun es=>(∀ j,(h:j<es.length)->f es[j]=none)->scn f d es=d) (fun _=>rfl) (fun xs x ih h=>?_) es
 have:=h xs.length (by simp)
 rw [List.getElem_append_right (by omega)] at this
 simp at this
 rw [QR,this]
 refine ih fun j hj=>?_
 have:=h j (by simp;omega)
 rwa [List.getElem_append_left hj] at this
theorem Vm {α:Type} {f:Ent->Option α} {d a:α} {es:List Ent} {k:Nat} (hk:k<es.length) (h1:f es[k]=some a) (h2:∀ j,(h:j<es.length)->k<j->f es[j]=none):scn f d es=a:=by
 revert h2 h1 hk
 refine Uw (P:=fun es=>∀ (hk:k<es.length) (_:f es[k]=some a) (_:∀ j,(h:j<es.length)->k<j->f es[j]=none),scn f d es=a) (fun hk=>absurd hk (Nat.not_lt_zero _)) (fun xs x ih hk h1 h2=>?_) es
 have hl:(xs++[x]).length=xs.length+1:=by simp
 rw [QR]
 by_cases e:k=xs.length
 ·subst e
  rw [List.getElem_append_right (by omega)] at h1
  simp at h1
  rw [h1];rfl
 ·have e1:=h2 xs.length (by omega) (by omega)
  rw [List.getElem_append_right (by omega)] at e1
  simp at e1
  rw [e1]
  have hk':k<xs.length:=by omega
  rw [List.getElem_append_left hk'] at h1
  refine ih hk' h1 fun j hj hkj=>?_
  have:=h2 j (by omega) hkj
  rwa [List.getElem_append_left hj] at this
theorem ZV {v:Value} {p:Prop} (h:Gg v=true) (hp:p):one v p:=by
 unfold one
 rw [h]
 exact hp
section
variable {σ:Hp} {w:BkW} {E:SL} {b:Bok} {es:List Ent}
theorem XT {A:aA} {n c:Nat}:Af prog 276 #[aN A n c] σ fun v σ'=>∃ b,v=.func (.func 291) #[] #[.pointer (some ⟨b,0,none⟩)]/\Blk b (.cells #[aN A n c] 29 (0,0)) σ σ':=by
 apply E4
 intro b nb
 exact Al ⟨b,rfl,nb,rfl⟩
theorem UF {y:Value} {b:Nat} {A:aA} {n c:Nat} {I:Nat->Hp->Prop} {Q:Hp->Prop} (hn:es.length<=4294967296)
  (hI:∀ i τ,I i τ->τ b=some (.cells #[aN A n c] 29 (0,0),true)/\RdS sEn τ A n es)
  (hy:∀ i (h:i<es.length) τ,I i τ->B7 prog y #[aD ((es.length-1-i:Nat):Int),enV (es[es.length-1-i]'(by omega))] τ fun v t'=>∃ t:Bool,v=.bool t/\(t=true->I (i+1) t')/\(t=false->Q t'))
  (h0:I 0 σ):Af prog 291 #[y,.pointer (some ⟨b,0,none⟩)] σ fun _ σ'=>I es.length σ'∨Q σ':=by
 refine EF _ _ _ _ ?_
 unfold BM
 obtain ⟨g0,r0⟩:=hI _ _ h0
 have hnx:n=es.length:=r0.1
 refine AG (Bu g0 rfl (AS (by omega) ?_))
 refine ⟨fun q i τ=>∃ k:Nat,q=es.length-k/\i=(es.length:Int)-1-k/\k<=es.length/\I k τ,⟨_,0,rfl,by omega,by omega,h0⟩,?_⟩
 rintro q i τ ⟨k,rfl,rfl,hk,hIk⟩ _
 obtain ⟨g1,r1⟩:=hI _ _ hIk
 refine AF (fun hlt=>?_) (fun hge=>?_)
 ·refine AG (Bu g1 rfl ?_)
  have ei:(es.length:Int)-1-k=((es.length-1-k:Nat):Int):=by omega
  rw [ei]
  refine Th r1 (by omega) (by rw [Int.toNat_natCast];omega) fun r hr=>?_
  simp only [Int.toNat_natCast] at hr
  have:=hy k (by omega) τ hIk
  rw [hr] at this
  refine B7.mono this ?_
  rintro v t' ⟨t,rfl,ht,hq⟩
  exact ⟨t,rfl,B5 (fun e=>Al (.inr (hq e))) (fun e=>AS (by omega) (Be _ (by omega) ⟨k+1,rfl,by omega,by omega,ht e⟩))⟩
 ·obtain rfl:k=es.length:=by omega
  exact Al (.inl hIk)
abbrev lgO (w:BkW) (E:SL):Obj:=.cells #[w.r.v,w.k.v,w.i.v,E.v] 208 (0,0)
theorem Xo:Af prog 250 #[lgV w E] σ fun v σ'=>∃ b,v=.func (.func 275) #[] #[.pointer (some ⟨b,0,none⟩)]/\Blk b (lgO w E) σ σ':=by
 apply Kh
 intro b nb
 exact Al ⟨b,rfl,nb,rfl⟩
theorem T1 {y:Value} {b:Nat} {I:Nat->Hp->Prop} {Q:Hp->Prop} (hy1:Gg y=true) (hn:es.length<=4294967296)
  (hI:∀ i τ,I i τ->τ b=some (lgO w E,true)/\RdS sEn τ E.A E.n es)
  (hy:∀ i (h:i<es.length) τ,I i τ->B7 prog y #[enV (es[es.length-1-i]'(by omega))] τ fun v t'=>∃ t:Bool,v=.bool t/\(t=true->I (i+1) t')/\(t=false->Q t'))
  (h0:I 0 σ):Af prog 275 #[y,.pointer (some ⟨b,0,none⟩)] σ fun _ σ'=>I es.length σ'∨Q σ':=by
 refine H9 _ _ _ _ ?_
 unfold CZ
 obtain ⟨g0,_⟩:=hI _ _ h0
 refine ZV hy1 (AG (Bu g0 rfl (AW (aV 276) XT ?_)))
 rintro v s5 ⟨bb,rfl,hbb⟩
 refine ⟨_,rfl,?_⟩
 intro b7 n7 l Rec hl hcall
 have hB0:Bxs [(bb,.cells #[E.v] 29 (0,0)),(b7,.cells #[y] 257 (0,0)),(l,Rec .ready none)] σ _:=⟨_,hbb,_,⟨n7,rfl⟩,_,⟨hl,rfl⟩,rfl⟩
 refine UZ.nf (aV 291) (Af.mono (UF (es:=es) (y:=.func (.yield l) #[] #[]) (b:=bb) (A:=E.A) (n:=E.n) (c:=E.c)
  (I:=fun i τ=>∃ t0,I i t0/\Bxs [(bb,.cells #[E.v] 29 (0,0)),(b7,.cells #[y] 257 (0,0)),(l,Rec .ready none)] t0 τ)
  (Q:=fun τ=>∃ t0,Q t0/\Bxs [(bb,.cells #[E.v] 29 (0,0)),(b7,.cells #[y] 257 (0,0)),(l,Rec .done (some .ret))] t0 τ)
  hn (fun i τ hh=>?_) (fun i hi τ hh=>?_) ⟨σ,h0,hB0⟩) ?_)
 ·obtain ⟨t0,h1,h2⟩:=hh
  exact ⟨h2.at (k:=0) rfl,(hI _ _ h1).2.sub h2.sub⟩
 ·obtain ⟨t0,h1,h2⟩:=hh
  have glb:=h2.at (k:=2) rfl
  refine hcall _ _ _ glb ⟨_,_,_,_,_,_,rfl,fun _=>⟨glb,?_⟩⟩
  have h3:Bxs [(bb,.cells #[E.v] 29 (0,0)),(b7,.cells #[y] 257 (0,0)),(l,Rec .busy none)] t0 _:=h2.set (k:=2) rfl (Rec .busy none)
  generalize τ.ins l (Rec .busy none)=t1 at h3 ⊢
  refine ⟨_,H4 (h3.at (k:=1) rfl) rfl,B7.mono (cl.over Bxs.port (hy i hi t0 h1) h3) ?_⟩
  rintro v t2 ⟨t0',⟨t,rfl,ht,hq⟩,h4⟩
  have gl2:=h4.at (k:=2) rfl
  refine ⟨t,rfl,B5 (fun e=>⟨gl2,false,rfl,fun e=>(by cases e),fun _=>⟨t0',hq e,?_⟩⟩) (fun e=>⟨gl2,true,rfl,fun _=>⟨t0',ht e,?_⟩,fun e=>by cases e⟩)⟩
  ·exact h4.set (k:=2) rfl (Rec .done (some .ret))
  ·exact h4.set (k:=2) rfl (Rec .ready none)
 ·rintro v τ (⟨t0,h1,h2⟩ | ⟨t0,h1,h2⟩)
  ·refine ⟨.ready,none,h2.at (k:=2) rfl,rfl,?_⟩
   show rt _ (fun (_:Value) σ'=>I es.length σ'∨Q σ') (.tuple #[])
   exact Bm (h2.set (k:=2) rfl (Rec .exhausted none)).sub (.inl h1)
  ·refine ⟨.done,some .ret,h2.at (k:=2) rfl,rfl,?_⟩
   show rt _ (fun (_:Value) σ'=>I es.length σ'∨Q σ') (.tuple #[])
   exact Bm (h2.set (k:=2) rfl (Rec .exhausted (some .ret))).sub (.inr h1)
def Nn (p:Ent->Bool) (ride:Int) (x:Ent):Option Int:=if p x then some x.1 else if x.2.1=6/\x.2.2.1=ride then some (-1) else none
def lst (p:Ent->Bool) (ride:Int) (es:List Ent):Int:=scn (Nn p ride) (-1) es
theorem Xl {f:Value} {p:Ent->Bool} {ride:Int} (h:LgR σ w E b es) (hl:es.length<=4294967296) (hf1:Gg f=true) (hf:∀ τ,Hp.Sub σ τ->∀ x∈es,cl prog f #[enV x] τ fun v σ'=>v=.bool (p x)/\σ'=τ):
  Af prog 190 #[lgV w E,aD ride,f] σ fun v σ'=>v=aD (lst p ride es)/\σ'=σ:=by
 apply Kd
 unfold DL
 refine ZV hf1 (Ah fun J3 h3=>?_)
 refine AW (aV 250) Xo ?_
 rintro v s12 ⟨bb,rfl,hbb⟩
 refine ⟨_,rfl,?_⟩
 intro b14 n14 b16 n16 b18 n18 lb Rec nlb hcall
 have hB0:Bxs [(bb,lgO w E),(b14,.cells #[aD ride] 3),(b16,.cells #[f] 257),(b18,.cells #[aD 0] 3),(lb,Rec .ready none)] σ _:=⟨_,hbb,_,⟨n14,rfl⟩,_,⟨n16,rfl⟩,_,⟨n18,rfl⟩,_,⟨nlb,rfl⟩,rfl⟩
 refine UZ.nf (aV 275) (Af.mono (T1 (w:=w) (E:=E) (es:=es) (y:=.func (.yield lb) #[] #[]) (b:=bb)
  (I:=fun i τ=>(∀ j (h:j<es.length),j<i->Nn p ride (es[es.length-1-j]'(by omega))=none)/\Bxs [(bb,lgO w E),(b14,.cells #[aD ride] 3),(b16,.cells #[f] 257),(b18,.cells #[aD 0] 3),(lb,Rec .ready none)] σ τ)
  (Q:=fun τ=>Bxs [(bb,lgO w E),(b14,.cells #[aD ride] 3),(b16,.cells #[f] 257),(b18,.cells #[aD (lst p ride es)] 3),(lb,Rec .done (some .ret))] σ τ)
  rfl hl (fun i τ hh=>⟨hh.2.at (k:=0) rfl,h.e.sub hh.2.sub⟩) (fun i hi τ hh=>?_) ⟨fun j _ h=>absurd h (Nat.not_lt_zero _),hB0⟩) ?_)
 ·obtain ⟨hno,hB⟩:=hh
  have glb:=hB.at (k:=4) rfl
  refine hcall _ _ _ glb ⟨_,_,_,_,_,rfl,fun _=>⟨glb,?_⟩⟩
  have h3:Bxs [(bb,lgO w E),(b14,.cells #[aD ride] 3),(b16,.cells #[f] 257),(b18,.cells #[aD 0] 3),(lb,Rec .busy none)] σ _:=hB.set (k:=4) rfl (Rec .busy none)
  generalize τ.ins lb (Rec .busy none)=t1 at h3 ⊢
  have hx:=hf t1 h3.sub _ (List.getElem_mem (l:=es) (n:=es.length-1-i) (by omega))
  have hlater:∀ j,(hj:j<es.length)->es.length-1-i<j->Nn p ride es[j]=none:=fun j hj h1=>by
   have:=hno (es.length-1-j) (by omega) (by omega)
   have e1:es.length-1-(es.length-1-j)=j:=by omega
   simp only [e1] at this
   exact this
  have hres:∀ a,Nn p ride (es[es.length-1-i]'(by omega))=some a->lst p ride es=a:=fun a ha=>Vm (by omega) ha hlater
  have hgo:Nn p ride (es[es.length-1-i]'(by omega))=none->∀ j (h:j<es.length),j<i+1->Nn p ride (es[es.length-1-j]'(by omega))=none:=fun hn j hj h1=>by
   rcases Nat.lt_or_ge j i with a | a
   ·exact hno j hj a
   ·obtain rfl:j=i:=by omega
    exact hn
  clear hno hlater
  generalize es[es.length-1-i]'(by omega)=x at *
  refine ⟨_,H4 (h3.at (k:=2) rfl) rfl,B7.mono hx ?_⟩
  rintro _ t9 ⟨rfl,rfl⟩
  have hout:∀ a,Nn p ride x=some a->st t9 b18 0 (aD a) fun s38=>rgx lb Rec (fun v t'=>∃ t,v=.bool t/\(t=true->(∀ j (h:j<es.length),j<i+1->Nn p ride (es[es.length-1-j]'(by omega))=none)/\Bxs [(bb,lgO w E),(b14,.cells #[aD ride] 3),(b16,.cells #[f] 257),(b18,.cells #[aD 0] 3),(lb,Rec .ready none)] σ t')/\(t=false->Bxs [(bb,lgO w E),(b14,.cells #[aD ride] 3),(b16,.cells #[f] 257),(b18,.cells #[aD (lst p ride es)] 3),(lb,Rec .done (some .ret))] σ t')) s38 .ret:=by
   intro a ha
   refine h3.stv (k:=3) rfl (by decide) fun t2 h4=>?_
   have h4:Bxs [(bb,lgO w E),(b14,.cells #[aD ride] 3),(b16,.cells #[f] 257),(b18,.cells #[aD a] 3),(lb,Rec .busy none)] σ t2:=h4
   refine ⟨h4.at (k:=4) rfl,false,rfl,fun e=>(by cases e),fun _=>?_⟩
   rw [hres a ha]
   exact h4.set (k:=4) rfl (Rec .done (some .ret))
  refine ⟨_,rfl,C4 (fun e=>hout _ ?_) (fun e=>Ah fun J41 h41=>?_)⟩
  ·unfold Nn;rw [if_pos e]
  ·have k41:∀ t,t=decide (x.2.1=6/\x.2.2.1=ride)->J41 t t9:=by
    rintro t rfl
    rw [h41]
    intro _
    refine AF (fun a=>hout _ ?_) (fun a=>⟨h3.at (k:=4) rfl,true,rfl,fun _=>⟨hgo ?_,h3.set (k:=4) rfl (Rec .ready none)⟩,fun e=>by cases e⟩)
    ·unfold Nn;rw [e,if_neg (by decide),if_pos a]
    ·unfold Nn;rw [e,if_neg (by decide),if_neg a]
   refine AF (fun a=>Bh (h3.at (k:=1) rfl) rfl (k41 _ ?_)) (fun a=>k41 _ ?_)
   ·simp [a]
   ·simp [a]
 ·rintro v τ (⟨hno,hB⟩ | hB)
  ·refine ⟨.ready,none,hB.at (k:=4) rfl,rfl,?_⟩
   have hB:=hB.set (k:=4) rfl (Rec .exhausted none)
   generalize τ.ins lb (Rec .exhausted none)=t1 at hB ⊢
   show J3 _ _
   rw [h3]
   intro _
   refine AG (hB.stv (k:=3) rfl (by decide) fun t2 h4=>AG (Bh (h4.at (k:=3) rfl) rfl (Bm h4.sub ⟨?_,rfl⟩)))
   have:lst p ride es=-1:=SM fun j hj=>by
    have:=hno (es.length-1-j) (by omega) (by omega)
    have e1:es.length-1-(es.length-1-j)=j:=by omega
    simp only [e1] at this
    exact this
   rw [this]
  ·refine ⟨.done,some .ret,hB.at (k:=4) rfl,rfl,?_⟩
   have hB:=hB.set (k:=4) rfl (Rec .exhausted (some .ret))
   generalize τ.ins lb (Rec .exhausted (some .ret))=t1 at hB ⊢
   exact Bh (hB.at (k:=3) rfl) rfl (Bm hB.sub ⟨rfl,rfl⟩)
end
structure Qi (es:List Ent):Prop where
 n:es.length<=100
 d:∀ x∈es,0<=x.1/\x.1<=10000
 s:∀ x∈es,x.2.1=2->1<=x.2.2.2.1/\x.2.2.2.1<=3
 o:es.Pairwise fun x y=>x.1<=y.1
theorem P9 {es:List Ent} {j:Nat} (hj:j<es.length):Qo (es.take (j+1))=es[j].1:=by
 unfold Qo
 have hl:(es.take (j+1)).length=j+1:=by simp;omega
 rw [hl,if_pos (by omega)]
 have e:((j+1:Nat):Int)-1=(j:Nat):=by omega
 rw [e,L7 (by rw [hl,Int.toNat_natCast];omega)]
 simp
theorem Bok.chk_es {b:Bok} {es:List Ent} (h:(b.chk es).2=0):Qi es:=by
 obtain ⟨_,hn,hr⟩:=Bok.chk_ok h
 have hin:∀ j,(hj:j<es.length)->Qo (es.take j)<=es[j].1/\es[j].1<=10000/\(es[j].2.1=2->1<=es[j].2.2.2.1/\es[j].2.2.2.1<=3):=by
  intro j hj
  have h1:=hr j hj
  rw [L7 (by simpa using hj)] at h1
  simp only [Int.toNat_natCast] at h1
  unfold Bok.rgt at h1
  rw [Bool.and_eq_true] at h1
  refine ⟨(O5 h1.1).1,(O5 h1.1).2,fun e=>?_⟩
  have h2:=h1.2
  rw [if_neg (by rw [e];decide),if_pos e] at h2
  simp only [Bool.and_eq_true] at h2
  exact O5 h2.1.2
 have h0:∀ j,(hj:j<es.length)->0<=es[j].1:=by
  intro j
  induction j with
  | zero=>intro hj;have:=(hin 0 hj).1;simpa [Qo] using this
  | succ j ih=>
   intro hj
   have h1:=(hin (j+1) hj).1
   rw [P9 (by omega)] at h1
   have:=ih (by omega)
   omega
 refine ⟨hn,fun x hx=>?_,fun x hx=>?_,?_⟩
 ·obtain ⟨j,hj,rfl⟩:=List.mem_iff_getElem.1 hx
  exact ⟨h0 j hj,(hin j hj).2.1⟩
 ·obtain ⟨j,hj,rfl⟩:=List.mem_iff_getElem.1 hx
  exact (hin j hj).2.2
 ·rw [List.pairwise_iff_getElem]
  intro i j hi hj hij
  have:∀ d,(hd:i+d<es.length)->es[i].1<=es[i+d].1:=by
   intro d
   induction d with
   | zero=>intro _;exact Int.le_refl _
   | succ d ih=>
    intro hd
    have h1:=(hin (i+d+1) hd).1
    rw [P9 (by omega)] at h1
    have:=ih (by omega)
    have e:i+(d+1)=i+d+1:=by omega
    simp only [e]
    omega
  have:=this (j-i) (by omega)
  have e:i+(j-i)=j:=by omega
  simp only [e] at this
  exact this
theorem Qi.take {es:List Ent} (h:Qi es) (k:Nat):Qi (es.take k):=
 ⟨by rw [List.length_take];have:=h.n;omega,fun x hx=>h.d x (List.mem_of_mem_take hx),fun x hx=>h.s x (List.mem_of_mem_take hx),h.o.sublist (List.take_sublist _ _)⟩
theorem Aab {α:Type} {f:Ent->Option α} {d:α} (es:List Ent):scn f d es=d∨∃ x∈es,f x=some (scn f d es):=by
 refine Uw (P:=fun es=>scn f d es=d∨∃ x∈es,f x=some (scn f d es)) (.inl rfl) (fun xs x ih=>?_) es
 rw [QR]
 cases e:f x with
 | some a=>exact .inr ⟨x,by simp,by simp [e]⟩
 | none=>
  rcases ih with h | ⟨y,hy,h⟩
  ·exact .inl (by simpa using h)
  ·exact .inr ⟨y,by simp [hy],by simpa using h⟩
theorem Aa9 {es:List Ent} (h:Qi es) {p:Ent->Bool} {ride:Int}:-1<=lst p ride es/\lst p ride es<=10000:=by
 unfold lst
 rcases Aab (f:=Nn p ride) (d:=-1) es with e | ⟨x,hx,e⟩
 ·omega
 ·have:=h.d x hx
  generalize scn (Nn p ride) (-1) es=z at *
  unfold Nn at e
  split at e
  ·cases e;omega
  ·split at e
   ·cases e;omega
   ·cases e
def ckP (i:Int) (x:Ent):Bool:=decide (x.2.1=1)&&decide (x.2.2.1=i)
def tsP (ride:Int) (x:Ent):Bool:=decide (x.2.1=4)&&decide (x.2.2.1=ride)
def Bok.unt (b:Bok) (es:List Ent) (i:Int):Int:=if lst (ckP i) (b.ru i).1 es<0 then -1 else lst (ckP i) (b.ru i).1 es+(b.ru i).2.1-1
def P6 (es:List Ent) (k:Nat):List Int:=((List.range k).filter fun i:Nat=>decide ((enA es (i:Nat)).2.1=2) && !mnd es (i:Nat)).map fun i:Nat=>(i:Int)
def opn (es:List Ent):List Int:=P6 es es.length
def Bok.ckd (b:Bok) (es:List Ent) (ride:Int):Nat->Int
 | 0=>10000
 | k+1=>if (b.ru (k:Nat)).1=ride then (if b.unt es (k:Nat)<b.ckd es ride k then b.unt es (k:Nat) else b.ckd es ride k) else b.ckd es ride k
def svP (es:List Ent) (ride s i:Int):Bool:=decide ((enA es i).2.2.1=ride)&&decide ((enA es i).2.2.2.1=s)
def svN (es:List Ent) (ride:Int) (l:List Int) (s:Int):Int:=((l.filter (svP es ride s)).length:Nat)
def Ql (es:List Ent) (ride:Int):Bool:=decide (svN es ride (opn es) 3=0)&&decide (svN es ride (opn es) 2<=1)
def TH (ride:Int) (x:Ent):Option Int:=if x.2.1=5/\x.2.2.1=ride then some x.2.2.2.1 else none
def Bok.ins (b:Bok) (es:List Ent) (ride:Int):Int:=scn (TH ride) (gt b.I ride) es
theorem Bok.ruOK {b:Bok} (hb:b.ok=true) {i:Int} (h0:0<=i) (h1:i<b.R.length):1<=(b.ru i).2.1/\(b.ru i).2.1<=10000:=by
 have:=(Bok.ok_spec hb).2.2.2.1 (b.ru i) (by rw [Bok.ru_eq (by omega)];exact List.getElem_mem _)
 unfold Bok.rulOK at this
 simp only [Bool.and_eq_true] at this
 exact O5 this.1.2
theorem V1 {es:List Ent} {k:Nat}:P6 es (k+1)=if (enA es (k:Nat)).2.1=2/\mnd es (k:Nat)=false then P6 es k++[(k:Int)] else P6 es k:=by
 unfold P6
 rw [List.range_succ,List.filter_append,List.map_append]
 by_cases h:(enA es (k:Nat)).2.1=2
 ·cases e:mnd es (k:Nat)<;>simp [h,e]
 ·simp [h]
theorem TQ (es:List Ent) (k:Nat):(P6 es k).length<=k:=by
 unfold P6
 rw [List.length_map]
 exact Nat.le_trans (List.length_filter_le _ _) (by simp)
theorem Y1 {es:List Ent} {i:Int} (h:i∈opn es):0<=i/\i<es.length/\(enA es i).2.1=2:=by
 unfold opn P6 at h
 rw [List.mem_map] at h
 obtain ⟨j,hj,rfl⟩:=h
 rw [List.mem_filter,List.mem_range] at hj
 simp only [Bool.and_eq_true,decide_eq_true_eq] at hj
 exact ⟨by omega,by omega,hj.2.1⟩
def Tg (f:Int->Int):Obj:=.cells #[aD (f 0),aD (f 1),aD (f 2),aD (f 3)] 299 (0,0)
section
variable {σ:Hp} {w:BkW} {E:SL} {b:Bok} {es:List Ent}
theorem ZA (h:LgR σ w E b es) (hb:b.ok=true) (he:Qi es) {i:Int} (h0:0<=i) (h1:i<b.R.length):Af prog 248 #[lgV w E,aD i] σ fun v σ'=>v=aD (b.unt es i)/\σ'=σ:=by
 apply Ja
 unfold Dm
 have hn:=he.n
 refine Aaq h.b.r h0 (by omega) ?_
 intro b4 n4
 have hs:Hp.Sub σ (σ.ins b4 (.cells #[aD i] 3)):=Hp.Sub.ins _ n4
 refine clI (aV 190) (Xl (p:=ckP i) (h.sub hs) (by omega) rfl fun τ hτ x _=>?_) ?_
 ·refine B7.func (aV 274) (Hx _ _ _ _ _ _ _ _ ?_)
  unfold CB
  refine AF (fun e=>AG (Bh (hτ _ _ (Hp.ins_same ..)) rfl (Al ⟨?_,rfl⟩))) (fun e=>Al ⟨?_,rfl⟩)
  ·simp [ckP,e]
  ·simp [ckP,e]
 ·have hr:=Bok.ruOK hb h0 h1
  have hd:=Aa9 he (p:=ckP i) (ride:=(b.ru i).1)
  refine AF (fun e=>Bm hs ⟨?_,rfl⟩) (fun e=>Bh (Hp.ins_same ..) rfl (Z3 (h.b.sub hs).r h0 (by omega) (AS (by omega) (AS (by omega) (Bm hs ⟨?_,rfl⟩)))))
  ·unfold Bok.unt;rw [if_pos e]
  ·unfold Bok.unt;rw [if_neg e]
theorem Wl (h:LgR σ w E b es) (hb:b.ok=true) (he:Qi es) {ride:Int}:Af prog 188 #[lgV w E,aD ride] σ fun v σ'=>v=aD (b.ckd es ride b.R.length)/\σ'=σ:=by
 apply HP
 unfold CF
 have hrn:=h.b.rn
 have h20:=(Bok.ok_spec hb).1
 refine Ah fun J3 h3=>?_
 refine ⟨fun m d i τ=>∃ k:Nat,m=b.R.length-k/\i=k/\k<=b.R.length/\τ=σ/\d=b.ckd es ride k,⟨_,0,rfl,rfl,by omega,rfl,rfl⟩,?_⟩
 rintro m d i τ ⟨k,rfl,rfl,hk,rfl,rfl⟩ _
 refine AF (fun hlt=>?_) (fun hlt=>?_)
 ·have hkl:k<b.R.length:=by omega
  refine Ah fun J13 h13=>ZY h.b.r (by omega) (by omega) fun r hr=>?_
  have k13:J13 (b.ckd es ride (k+1)) τ:=by
   rw [h13]
   intro _
   exact AS (by omega) (Be _ (by omega) ⟨k+1,rfl,by omega,by omega,rfl,rfl⟩)
  have er:b.ru (k:Nat)=r:=by rw [Bok.ru_eq (by simpa using hkl)];exact hr
  have es':b.ckd es ride (k+1)=if (b.ru (k:Nat)).1=ride then (if b.unt es (k:Nat)<b.ckd es ride k then b.unt es (k:Nat) else b.ckd es ride k) else b.ckd es ride k:=rfl
  rw [es',er] at k13
  refine AF (fun e=>clI (aV 248) (ZA h hb he (by omega) (by omega)) ?_) (fun e=>?_)
  ·rw [if_pos e] at k13;exact k13
  ·rw [if_neg e] at k13;exact k13
 ·obtain rfl:k=b.R.length:=by omega
  rw [h3]
  intro _
  exact Al ⟨rfl,rfl⟩
theorem AaL (h:LgR σ w E b es) (he:Qi es):Af prog 249 #[lgV w E] σ (ZF 3 aM σ (opn es)):=by
 apply JO
 unfold DG
 have hen:E.n=es.length:=h.e.1
 have hn:=he.n
 refine Ah fun J3 h3=>?_
 refine ⟨fun m A n c i τ=>∃ k:Nat,m=es.length-k/\i=k/\k<=es.length/\Ak 3 aM σ A n c (P6 es k) τ,⟨_,0,rfl,rfl,by omega,Ak.nil ..⟩,?_⟩
 rintro m A n c i τ ⟨k,rfl,rfl,hk,ho⟩ _
 have hs:=ho.sub
 refine AF (fun hlt=>?_) (fun hlt=>?_)
 ·have hkl:k<es.length:=by omega
  refine Ah fun J13 h13=>Th (h.e.sub hs) (by omega) (by omega) fun r hr=>?_
  have k13:∀ A n c t',Ak 3 aM σ A n c (P6 es (k+1)) t'->J13 A n c t':=by
   intro A n c t' ho'
   rw [h13]
   intro _
   exact AS (by omega) (Be _ (by omega) ⟨k+1,rfl,by omega,by omega,ho'⟩)
  have er:enA es (k:Nat)=r:=by rw [L7 (by simpa using hkl)];exact hr
  refine Ah fun J27 h27=>?_
  have k27:∀ t,t=(decide (r.2.1=2) && !mnd es (k:Nat))->J27 t τ:=by
   rintro t rfl
   rw [h27]
   intro _
   have e1:=V1 (es:=es) (k:=k)
   rw [er] at e1
   refine C4 (fun e=>CH ho (AY (by show (P6 es k).length+1<=_;have:=TQ es k;omega) ?_)) (fun e=>k13 _ _ _ _ ?_)
   ·intro A' n' c' t' ho'
    refine k13 _ _ _ _ ?_
    rw [e1,if_pos (by simpa using e)]
    exact ho'
   ·rw [e1,if_neg (by simpa using e)]
    exact ho
  refine AF (fun e=>clB (aV 244) (Tk (h.sub hs) (by omega)) (k27 _ ?_)) (fun e=>k27 _ ?_)
  ·simp [e]
  ·simp [e]
 ·obtain rfl:k=es.length:=by omega
  rw [h3]
  intro _
  exact Al ⟨_,_,_,rfl,ho⟩
theorem YW {l:List Int} {ride x s:Int}:svN es ride (l++[x]) s=if svP es ride s x then svN es ride l s+1 else svN es ride l s:=by
 unfold svN
 rw [List.filter_append]
 cases e:svP es ride s x<;>simp [e]
theorem Aal {l:List Int} {ride s:Int}:0<=svN es ride l s/\svN es ride l s<=l.length:=by
 unfold svN
 have:=List.length_filter_le (svP es ride s) l
 omega
theorem Aaf {b1:Nat} {f:Int->Int} {s1 τ:Hp} {K:Int->Prop} {s:Int} (h:s=1∨s=2∨s=3) (hB:Blk b1 (Tg f) σ s1) (hs:Hp.Sub s1 τ) (hk:K (f s)):ix (some ⟨b1,0,none⟩) 4 s 1 fun b a=>ldI τ .i64 b a K:=by
 have hg:=hs _ _ hB.get
 rcases h with rfl | rfl | rfl
 ·exact ⟨by decide,by decide,Bh (k:=1) hg rfl hk⟩
 ·exact ⟨by decide,by decide,Bh (k:=2) hg rfl hk⟩
 ·exact ⟨by decide,by decide,Bh (k:=3) hg rfl hk⟩
theorem AaJ {b1:Nat} {f g:Int->Int} {s1 τ:Hp} {K:Hp->Prop} {s v:Int} {A:aA} {n c:Nat} {xs:List Int} (h:s=1∨s=2∨s=3) (hB:Blk b1 (Tg f) σ s1) (ho:Ak 3 aM s1 A n c xs τ) (hg:∀ i,g i=if i=s then v else f i)
  (hk:∀ σ2 t',Blk b1 (Tg g) σ σ2->Ak 3 aM σ2 A n c xs t'->K t'):ix (some ⟨b1,0,none⟩) 4 s 1 fun b a=>st τ b a (aD v) K:=by
 have hb:=ho.sub _ _ hB.get
 have hcon:∀ i:Nat,i<4->(i:Int)=s->(#[Value.int .i64 (f 0),aD (f 1),aD (f 2),aD (f 3)].setIfInBounds i (aD v))=#[aD (g 0),aD (g 1),aD (g 2),aD (g 3)]->st τ b1 i (aD v) K:=by
  intro i hi he e
  refine ⟨KF hb (by simpa using hi),?_⟩
  have e2:=E7 (k:=i) (v:=aD v) hb
  rw [e2,e]
  exact hk _ _ hB.again (Ay.own.again ho hB.get (Tg g))
 rcases h with rfl | rfl | rfl
 ·refine ⟨by decide,by decide,hcon 1 (by omega) rfl ?_⟩
  rw [hg,hg,hg,hg];rfl
 ·refine ⟨by decide,by decide,hcon 2 (by omega) rfl ?_⟩
  rw [hg,hg,hg,hg];rfl
 ·refine ⟨by decide,by decide,hcon 3 (by omega) rfl ?_⟩
  rw [hg,hg,hg,hg];rfl
theorem Zc (h:LgR σ w E b es) (he:Qi es) {ride:Int}:Af prog 189 #[lgV w E,aD ride] σ fun v σ'=>v=.bool (Ql es ride)/\σ'=σ:=by
 apply Jl
 unfold Dc
 intro b1 n1
 have hB0:Blk b1 (Tg (svN es ride [])) σ _:=⟨n1,rfl⟩
 have hn:=he.n
 refine Ah fun J5 h5=>?_
 have k5:∀ τ,Lse (Blk b1 (Tg (svN es ride (opn es)))) σ τ->J5 τ:=by
  intro τ hB
  rw [h5]
  intro _
  obtain ⟨t1,hB1,hs1⟩:=hB
  have hg:=hs1 _ _ hB1.get
  have hs:=hB1.nin.trans hs1
  refine ⟨by decide,by decide,Bh (k:=3) hg rfl (AF (fun e=>⟨by decide,by decide,Bh (k:=2) hg rfl (Bm hs ⟨?_,rfl⟩)⟩) (fun e=>Bm hs ⟨?_,rfl⟩))⟩
  ·simp [Ql,e]
  ·simp [Ql,e]
 refine AW (aV 249) (AaL (h.sub hB0.nin) he) ?_
 rintro v s13 ⟨A,n,c,rfl,ho⟩
 have hol:(opn es).length<=es.length:=TQ es es.length
 have hon:n=(opn es).length:=ho.len
 refine ⟨_,_,_,rfl,?_⟩
 clear h5
 refine ⟨fun m i τ=>∃ (k:Nat) (s1:Hp),m=(opn es).length-k/\i=k/\k<=(opn es).length/\Blk b1 (Tg (svN es ride ((opn es).take k))) σ s1/\Ak 3 aM s1 A n c (opn es) τ,⟨_,0,_,rfl,rfl,by omega,hB0,ho⟩,?_⟩
 clear hB0 ho s13
 rintro m i τ ⟨k,s1,rfl,rfl,hk,hB,ho⟩ _
 have hs:=hB.nin.trans ho.sub
 refine AF (fun hlt=>?_) (fun hlt=>?_)
 ·have hkl:k<(opn es).length:=by omega
  obtain ⟨g0,g1,g2⟩:=Y1 (List.getElem_mem hkl)
  refine Ah fun J22 h22=>EJ ho.rd (by omega) (by omega) ?_
  rw [B3 hkl]
  have e1:svN es ride ((opn es).take (k+1))=fun s=>if svP es ride s (opn es)[k] then svN es ride ((opn es).take k) s+1 else svN es ride ((opn es).take k) s:=by
   funext s
   rw [List.take_succ_eq_append_getElem hkl,YW]
  have k22:∀ σ2 t',Blk b1 (Tg (svN es ride ((opn es).take (k+1)))) σ σ2->Ak 3 aM σ2 A n c (opn es) t'->J22 t':=by
   intro σ2 t' h1 h2
   rw [h22]
   intro _
   exact AS (by omega) (Be _ (by omega) ⟨k+1,_,rfl,by omega,by omega,h1,h2⟩)
  generalize (opn es)[k]=q at *
  refine Th (h.e.sub hs) g0 (by omega) fun r hr=>?_
  have er:enA es q=r:=by rw [L7 (by omega)];exact hr
  rw [er] at g2
  have hsv:=he.s r (hr▸List.getElem_mem _) g2
  have hsv3:r.2.2.2.1=1∨r.2.2.2.1=2∨r.2.2.2.1=3:=by omega
  refine AF (fun e=>Aaf hsv3 hB ho.sub ?_) (fun e=>k22 _ _ ?_ ho)
  ·have:=Aal (es:=es) (l:=(opn es).take k) (ride:=ride) (s:=r.2.2.2.1)
   have hlt2:((opn es).take k).length<=k:=by rw [List.length_take];omega
   refine AS (by omega) (AaJ hsv3 hB ho (g:=svN es ride ((opn es).take (k+1))) (fun i=>?_) k22)
   rw [e1]
   by_cases hi:i=r.2.2.2.1
   ·subst hi;simp [svP,er,e]
   ·have:¬ r.2.2.2.1=i:=fun h=>hi h.symm
    simp [svP,er,hi,this]
  ·rw [e1]
   have:(fun s=>if svP es ride s q=true then svN es ride ((opn es).take k) s+1 else svN es ride ((opn es).take k) s)=svN es ride ((opn es).take k):=by
    funext s
    simp [svP,er,e]
   rw [this]
   exact hB
 ·obtain rfl:k=(opn es).length:=by omega
  rw [List.take_length] at hB
  exact k5 _ ⟨_,hB,ho.sub⟩
end
def Bok.why (b:Bok) (es:List Ent) (ride day:Int):List Int:=
 (((if b.ckd es ride b.R.length<day then [1] else [])++(if Ql es ride then [] else [2]))++(if lst (tsP ride) ride es=day then [] else [3]))++(if b.ins es ride<day then [4] else [])
def Bok.rel (b:Bok) (es:List Ent) (day:Int):List Int:=((List.range b.I.length).filter fun i:Nat=>decide ((b.why es (i:Nat) day).length=0)).map fun i:Nat=>(i:Int)
def P4 (b:Bok) (es:List Ent) (day:Int) (k:Nat):List Int:=((List.range k).filter fun i:Nat=>decide ((b.why es (i:Nat) day).length=0)).map fun i:Nat=>(i:Int)
theorem Wt {b:Bok} {es:List Ent} {day:Int} {k:Nat}:P4 b es day (k+1)=if (b.why es (k:Nat) day).length=0 then P4 b es day k++[(k:Int)] else P4 b es day k:=by
 unfold P4
 rw [List.range_succ,List.filter_append,List.map_append]
 by_cases h:(b.why es (k:Nat) day).length=0
 ·rw [if_pos h,List.filter_cons_of_pos (by simpa using h)];rfl
 ·rw [if_neg h,List.filter_cons_of_neg (by simpa using h)];simp
theorem SH (b:Bok) (es:List Ent) (day:Int) (k:Nat):(P4 b es day k).length<=k:=by
 unfold P4
 rw [List.length_map]
 exact Nat.le_trans (List.length_filter_le _ _) (by simp)
def Bok.relD (b:Bok) (es:List Ent) (day:Int):List Int:=if b.dayE es day=0 then b.rel (Bok.upE es day) day else []
def No (b1:Nat) (xs:List Int):Rel:=fun σ τ=>∃ s:SL,((Blk b1 (.cells #[s.v] 26 (0,0))).seq fun σ' t'=>Ak 3 aM σ' s.A s.n s.c xs t') σ τ
theorem No.port {b1:Nat} {xs:List Int}:Ay (No b1 xs):=Ay.ex fun _=>Ay.blk.seq Ay.own
section
variable {σ:Hp} {w:BkW} {E:SL} {b:Bok} {es:List Ent}
theorem Wm {ride:Int} (h:LgR σ w E b es) (hl:es.length<=4294967296) (hr:0<=ride/\ride<b.I.length):
  Af prog 192 #[lgV w E,aD ride] σ fun v σ'=>v=aD (b.ins es ride)/\σ'=σ:=by
 apply HD
 unfold Cz
 refine Ah fun J3 h3=>?_
 refine AW (aV 250) Xo ?_
 rintro v s12 ⟨bb,rfl,hbb⟩
 refine ⟨_,rfl,?_⟩
 intro b14 n14 b18 n18 lb Rec nlb hcall
 have hB0:Bxs [(bb,lgO w E),(b14,.cells #[aD ride] 3),(b18,.cells #[aD 0] 3),(lb,Rec .ready none)] σ _:=⟨_,hbb,_,⟨n14,rfl⟩,_,⟨n18,rfl⟩,_,⟨nlb,rfl⟩,rfl⟩
 refine UZ.nf (aV 275) (Af.mono (T1 (w:=w) (E:=E) (es:=es) (y:=.func (.yield lb) #[] #[]) (b:=bb)
  (I:=fun i τ=>(∀ j (h:j<es.length),j<i->TH ride (es[es.length-1-j]'(by omega))=none)/\Bxs [(bb,lgO w E),(b14,.cells #[aD ride] 3),(b18,.cells #[aD 0] 3),(lb,Rec .ready none)] σ τ)
  (Q:=fun τ=>Bxs [(bb,lgO w E),(b14,.cells #[aD ride] 3),(b18,.cells #[aD (b.ins es ride)] 3),(lb,Rec .done (some .ret))] σ τ)
  rfl hl (fun i τ hh=>⟨hh.2.at (k:=0) rfl,h.e.sub hh.2.sub⟩) (fun i hi τ hh=>?_) ⟨fun j _ h=>absurd h (Nat.not_lt_zero _),hB0⟩) ?_)
 ·obtain ⟨hno,hB⟩:=hh
  have glb:=hB.at (k:=3) rfl
  refine hcall _ _ _ glb ⟨_,_,_,_,_,rfl,fun _=>⟨glb,?_⟩⟩
  have h3:Bxs [(bb,lgO w E),(b14,.cells #[aD ride] 3),(b18,.cells #[aD 0] 3),(lb,Rec .busy none)] σ _:=hB.set (k:=3) rfl (Rec .busy none)
  generalize τ.ins lb (Rec .busy none)=t9 at h3 ⊢
  have hlater:∀ j,(hj:j<es.length)->es.length-1-i<j->TH ride es[j]=none:=fun j hj h1=>by
   have:=hno (es.length-1-j) (by omega) (by omega)
   have e1:es.length-1-(es.length-1-j)=j:=by omega
   simp only [e1] at this
   exact this
  have hres:∀ a,TH ride (es[es.length-1-i]'(by omega))=some a->b.ins es ride=a:=fun a ha=>Vm (by omega) ha hlater
  have hgo:TH ride (es[es.length-1-i]'(by omega))=none->∀ j (h:j<es.length),j<i+1->TH ride (es[es.length-1-j]'(by omega))=none:=fun hn j hj h1=>by
   rcases Nat.lt_or_ge j i with a | a
   ·exact hno j hj a
   ·obtain rfl:j=i:=by omega
    exact hn
  clear hno hlater
  generalize es[es.length-1-i]'(by omega)=x at *
  refine Ah fun J41 h41=>?_
  have k41:∀ t,t=decide (x.2.1=5/\x.2.2.1=ride)->J41 t t9:=by
   rintro t rfl
   rw [h41]
   intro _
   refine AF (fun a=>h3.stv (k:=2) rfl (by decide) fun t2 h4=>?_) (fun a=>⟨h3.at (k:=3) rfl,true,rfl,fun _=>⟨hgo ?_,h3.set (k:=3) rfl (Rec .ready none)⟩,fun e=>by cases e⟩)
   ·have h4:Bxs [(bb,lgO w E),(b14,.cells #[aD ride] 3),(b18,.cells #[aD x.2.2.2.1] 3),(lb,Rec .busy none)] σ t2:=h4
    refine ⟨h4.at (k:=3) rfl,false,rfl,fun e=>(by cases e),fun _=>?_⟩
    rw [hres x.2.2.2.1 (by unfold TH;rw [if_pos a])]
    exact h4.set (k:=3) rfl (Rec .done (some .ret))
   ·unfold TH;rw [if_neg a]
  refine AF (fun a=>Bh (h3.at (k:=1) rfl) rfl (k41 _ ?_)) (fun a=>k41 _ ?_)
  ·simp [a]
  ·simp [a]
 ·rintro v τ (⟨hno,hB⟩ | hB)
  ·refine ⟨.ready,none,hB.at (k:=3) rfl,rfl,?_⟩
   have hB:=hB.set (k:=3) rfl (Rec .exhausted none)
   generalize τ.ins lb (Rec .exhausted none)=t1 at hB ⊢
   show J3 _ _ _
   rw [h3]
   intro _
   refine AG (Bh (hB.at (k:=1) rfl) rfl (EJ (h.b.sub hB.sub).i hr.1 hr.2 (AG (hB.stv (k:=2) rfl (by decide) fun t2 h4=>AG (Bh (h4.at (k:=2) rfl) rfl (Bm h4.sub ⟨?_,rfl⟩))))))
   have:b.ins es ride=gt b.I ride:=SM fun j hj=>by
    have:=hno (es.length-1-j) (by omega) (by omega)
    have e1:es.length-1-(es.length-1-j)=j:=by omega
    simp only [e1] at this
    exact this
   rw [this]
  ·refine ⟨.done,some .ret,hB.at (k:=3) rfl,rfl,?_⟩
   have hB:=hB.set (k:=3) rfl (Rec .exhausted (some .ret))
   generalize τ.ins lb (Rec .exhausted (some .ret))=t1 at hB ⊢
   exact Bh (hB.at (k:=2) rfl) rfl (Bm hB.sub ⟨rfl,rfl⟩)
theorem Abj {b1:Nat} {xs:List Int} {r:Int} {t:Bool} {τ:Hp} (hl:xs.length<=10) (h:No b1 xs σ τ):Af prog 187 #[aD r,.bool t,.pointer (some ⟨b1,0,none⟩)] τ fun _ t'=>No b1 (xs++if t then [r] else []) σ t':=by
 apply I2
 unfold Dn
 obtain ⟨s,sx,hB,ho⟩:=h
 refine C4 (fun e=>AG (Bu (ho.sub _ _ hB.get) rfl (CH ho (AY (by show xs.length+1<=_;omega) ?_)))) (fun e=>Al ?_)
 ·subst e
  intro A n c s7 ho7
  refine AG ⟨KF (ho7.sub _ _ hB.get) (Nat.zero_lt_one),?_⟩
  rw [E7 (ho7.sub _ _ hB.get)]
  exact Al ⟨⟨A,n,c⟩,_,hB.again,Ay.own.again ho7 hB.get _⟩
 ·subst e
  rw [show (xs++if false=true then [r] else [])=xs by simp]
  exact ⟨s,sx,hB,ho⟩
theorem Vj {b1:Nat} {xs:List Int} {r:Int} {t:Bool} {τ:Hp} {K:Hp->Prop} (hl:xs.length<=10) (h:No b1 xs σ τ) (hk:∀ t',No b1 (xs++if t then [r] else []) σ t'->K t'):
  cl prog (.func (.func 187) #[] #[.pointer (some ⟨b1,0,none⟩)]) #[aD r,.bool t] τ fun _ t'=>K t':=
 B7.mono (B7.func (aV 187) (Abj hl h)) fun _ _ h=>hk _ h
theorem Abi {ride day:Int} (h:LgR σ w E b es) (hb:b.ok=true) (he:Qi es) (hr:0<=ride/\ride<b.I.length):
  Af prog 131 #[lgV w E,aD ride,aD day] σ (ZF 3 aM σ (b.why es ride day)):=by
 apply Kn
 unfold Er
 have hn:=he.n
 intro b1 n1
 have hP:No b1 [] σ (σ.ins b1 (.cells #[aN none 0 0] 26)):=⟨⟨none,0,0⟩,_,⟨n1,rfl⟩,Ak.nil ..⟩
 generalize σ.ins b1 (.cells #[aN none 0 0] 26)=τ at hP ⊢
 refine clI (aV 188) (Wl (h.sub (No.port.sub hP)) hb he) ?_
 refine Vj (by decide) hP fun t1 hP1=>?_
 clear hP
 refine clB (aV 189) (Zc (h.sub (No.port.sub hP1)) he) ?_
 refine Vj (by rw [List.nil_append];split<;>decide) hP1 fun t2 hP2=>?_
 clear hP1
 intro b13 n13
 obtain ⟨s1,hb13,hP3⟩:=Ay.swap No.port Ay.blk hP2 (S:=Blk b13 (.cells #[aD ride] 3)) ⟨n13,rfl⟩
 generalize t2.ins b13 (.cells #[aD ride] 3)=t3 at hP3 ⊢
 have hg3:∀ {xs τ},No b1 xs s1 τ->τ b13=some (.cells #[aD ride] 3,true):=fun hP=>No.port.sub hP _ _ hb13.get
 have hs1:=hb13.nin
 refine clI (aV 190) (Xl (p:=tsP ride) (h.sub (hs1.trans (No.port.sub hP3))) (by omega) rfl fun τ hτ x _=>?_) ?_
 ·refine B7.func (aV 191) (IQ _ _ _ _ _ _ _ _ ?_)
  unfold Dd
  refine AF (fun e=>AG (Bh (hτ _ _ (hg3 hP3)) rfl (Al ⟨?_,rfl⟩))) (fun e=>Al ⟨?_,rfl⟩)
  ·simp [tsP,e]
  ·simp [tsP,e]
 have hlen2:∀ (p q:Prop) [Decidable p] [Decidable q],((([]:List Int)++if p then [1] else [])++if q then [2] else []).length<=2:=by
  intro p q _ _
  by_cases hp:p<;>by_cases hq:q<;>simp [hp,hq]
 refine Vj (Nat.le_trans (hlen2 _ _) (by decide)) hP3 fun t4 hP4=>?_
 clear hP3
 refine Bh (hg3 hP4) rfl ?_
 refine clI (aV 192) (Wm (h.sub (hs1.trans (No.port.sub hP4))) (by omega) hr) ?_
 refine Vj ?_ hP4 fun t5 hP5=>?_
 ·rw [List.length_append]
  have:=hlen2 (decide (b.ckd es ride b.R.length<day)=true) ((!Ql es ride)=true)
  have h3:∀ (p:Prop) [Decidable p],(if p then [(3:Int)] else []).length<=1:=by
   intro p _
   by_cases hp:p<;>simp [hp]
  have:=h3 ((!decide (lst (tsP ride) ride es=day))=true)
  omega
 clear hP4
 obtain ⟨s,sx,hB,ho⟩:=hP5
 have hg:=ho.sub _ _ hB.get
 refine Bu hg rfl ⟨KF hg (Nat.zero_lt_one),?_⟩
 rw [E7 hg]
 have ho:=Ay.own.again ho hB.get (.cells #[s.v] 26 (0,0))
 have hB:=hB.again (o':=.cells #[s.v] 26 (0,0))
 refine Bu (ho.sub _ _ hB.get) rfl ?_
 obtain ⟨σz,h6,h7⟩:=Ay.own.less (R:=fun a c=>Ak 3 aM a s.A s.n s.c _ c) ho (hs1.trans hB.nin)
 refine Bm h7 ⟨s.A,s.n,s.c,rfl,?_⟩
 have e:b.why es ride day=((([]++if decide (b.ckd es ride b.R.length<day)=true then [1] else [])++if (!Ql es ride)=true then [2] else [])++if (!decide (lst (tsP ride) ride es=day))=true then [3] else [])++if decide (b.ins es ride<day)=true then [4] else []:=by
  unfold Bok.why
  rw [List.nil_append]
  congr 1
  ·congr 1
   ·congr 1
    ·by_cases hq:b.ckd es ride b.R.length<day<;>simp [hq]
    ·cases Ql es ride<;>rfl
   ·by_cases hq:lst (tsP ride) ride es=day<;>simp [hq]
  ·by_cases hq:b.ins es ride<day<;>simp [hq]
 rw [e]
 exact h6
def Z2 (e:TypeId) (ss:List Sh) (σ:Hp) (xs:List (TyR ss)) (n:Int):aB:=fun v σ'=>∃ A k c,v=.tuple #[aN A k c,aD n]/\Ak e ss σ A k c xs σ'
theorem Uy {day:Int} (h:LgR σ w E b es):Af prog 74 #[w.v,E.v,aD day] σ (Z2 3 aM σ (b.relD es day) (b.dayE es day)):=by
 apply JM
 unfold DV
 refine AW (aV 130) (Xt h) ?_
 rintro v σ2 ⟨hs2,w',E',rfl,hh⟩
 refine ⟨_,_,_,_,_,_,_,_,_,_,_,_,_,rfl,BQ (fun e=>Bm hs2 ⟨_,_,_,rfl,?_⟩) (fun e=>?_)⟩
 ·have e2:b.relD es day=[]:=if_neg e
  rw [e2];exact Ak.nil ..
 obtain ⟨rfl,hl⟩:=hh e
 obtain ⟨hc,hd⟩:=Bok.dayE0 e
 obtain ⟨hb,_⟩:=Bok.chk_ok hc
 have he:Qi (Bok.upE es day):=(Bok.chk_es hc).take _
 have e2:b.relD es day=P4 b (Bok.upE es day) day b.I.length:=if_pos e
 rw [e2,e]
 have hin:=h.b.in
 have h10:=(Bok.ok_spec hb).2.2.1
 refine Ah fun J10 h10'=>?_
 refine ⟨fun m A n c i τ=>∃ k:Nat,m=b.I.length-k/\i=k/\k<=b.I.length/\Lse (fun a c'=>Ak 3 aM a A n c (P4 b (Bok.upE es day) day k) c') σ2 τ,⟨_,0,rfl,rfl,by omega,⟨_,Ak.nil ..,Hp.Sub.refl _⟩⟩,?_⟩
 rintro m A n c i τ ⟨k,rfl,rfl,hk,ho⟩ _
 have hs:=Lse.sub Ay.own ho
 refine AF (fun hlt=>?_) (fun hlt=>?_)
 ·have hkl:k<b.I.length:=by omega
  refine Ah fun J20 h20=>?_
  have k20:∀ A n c t',Lse (fun a c'=>Ak 3 aM a A n c (P4 b (Bok.upE es day) day (k+1)) c') σ2 t'->J20 A n c t':=by
   intro A n c t' ho'
   rw [h20]
   intro _
   exact AS (by omega) (Be _ (by omega) ⟨k+1,rfl,by omega,by omega,ho'⟩)
  rw [Wt] at k20
  refine AW (aV 131) (Abi (hl.sub hs) hb he (by omega)) ?_
  rintro v t2 ⟨A2,n2,c2,rfl,ho2⟩
  have hn2:n2=(b.why (Bok.upE es day) (k:Nat) day).length:=ho2.len
  have ho3:=ho.up ho2.sub
  refine ⟨_,_,_,rfl,AF (fun e2=>?_) (fun e2=>k20 _ _ _ _ ?_)⟩
  ·rw [if_pos (by omega)] at k20
   obtain ⟨s3,ho4,hs4⟩:=Lse.exact Ay.own ho3
   refine CH ho4 (AY (by show (P4 b (Bok.upE es day) day k).length+1<=_;have:=SH b (Bok.upE es day) day k;omega) ?_)
   intro A' n' c' t3 ho5
   exact k20 _ _ _ _ (Lse.low Ay.own (Lse.of ho5) hs4)
  ·rw [if_neg (by omega)]
   exact ho3
 ·obtain rfl:k=b.I.length:=by omega
  rw [h10']
  intro _
  obtain ⟨s4,h6,h7⟩:=Lse.low Ay.own ho hs2
  exact Bm h7 ⟨_,_,_,rfl,h6⟩
end
end Go.Proofs.YtoelhdjloaknbaaGreat
