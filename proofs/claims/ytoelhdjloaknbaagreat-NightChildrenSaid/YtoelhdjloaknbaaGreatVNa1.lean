/- Trimmed by wip/trim.py to what this claim rests on. -/
import Derived.Test.YtoelhdjloaknbaaGreatVB13
import Derived.Test.YtoelhdjloaknbaaGreatVN1
namespace Go.Proofs.YtoelhdjloaknbaaGreat
open Go.RowKit
abbrev Rul:=Int×Int×Int×Bool
abbrev Ent:=Int×Int×Int×Int×Int
abbrev sRu:List Sh:=[.int .i64,.int .i64,.int .i64,.bool]
abbrev sEn:List Sh:=[.int .i64,.int .i64,.int .i64,.int .i64,.int .i64]
structure Bok where
 R:List Rul
 K:List Int
 I:List Int
structure BkW where
 r:SL
 k:SL
 i:SL
def BkW.v (w:BkW):Value:=.agg #[w.r.v,w.k.v,w.i.v]
structure BkR (σ:Hp) (w:BkW) (b:Bok):Prop where
 r:RdS sRu σ w.r.A w.r.n b.R
 k:RdS [.int .i64] σ w.k.A w.k.n b.K
 i:RdS [.int .i64] σ w.i.A w.i.n b.I
theorem BkR.sub {σ σ':Hp} {w:BkW} {b:Bok} (h:BkR σ w b) (hs:Hp.Sub σ σ'):BkR σ' w b:=⟨h.r.sub hs,h.k.sub hs,h.i.sub hs⟩
theorem BkR.rn {σ:Hp} {w:BkW} {b:Bok} (h:BkR σ w b):w.r.n=b.R.length:=h.r.1
theorem BkR.kn {σ:Hp} {w:BkW} {b:Bok} (h:BkR σ w b):w.k.n=b.K.length:=h.k.1
theorem BkR.in {σ:Hp} {w:BkW} {b:Bok} (h:BkR σ w b):w.i.n=b.I.length:=h.i.1
def Inn (n lo hi:Int):Bool:=decide (lo<=n/\n<=hi)
def Bok.rulOK (b:Bok) (r:Rul):Bool:=Inn r.1 0 ((b.I.length:Int)-1)&&Inn r.2.1 1 10000&&Inn r.2.2.1 0 9
def Bok.ok (b:Bok):Bool:=decide (b.R.length<=20)&&decide (b.K.length<=8)&&decide (b.I.length<=10)&&b.R.all b.rulOK&&b.K.all (Inn · 0 9)&&b.I.all (Inn · 0 10000)
def Bok.e (b:Bok):Int:=if b.ok then 0 else 100
def Bok.ru (b:Bok) (i:Int):Rul:=b.R.getD i.toNat (0,0,0,false)
def Bok.per (b:Bok) (n:Int):Bool:=Inn n 0 ((b.K.length:Int)-1)
def Bok.rid (b:Bok) (n:Int):Bool:=Inn n 0 ((b.I.length:Int)-1)
def Bok.may (b:Bok) (r n:Int):Bool:=b.per n&&decide ((b.ru r).2.2.1<=gt b.K n)
def Bok.sgn (b:Bok) (r x y:Int):Bool:=if (b.ru r).2.2.2 then b.may r x&&b.may r y && !decide (x=y) else b.may r x&&decide (y=-1)
def mnd (es:List Ent) (n:Int):Bool:=es.any fun x=>decide (x.2.1=3)&&decide (x.2.2.1=n)
def enA (es:List Ent) (i:Int):Ent:=es.getD i.toNat (0,0,0,0,0)
def PO (es:List Ent):Int:=if 0<es.length then (enA es ((es.length:Int)-1)).1 else 0
def Bok.rgt (b:Bok) (es:List Ent) (x:Ent):Bool:=
 Inn x.1 (PO es) 10000 &&
 if x.2.1=1 then Inn x.2.2.1 0 ((b.R.length:Int)-1)&&b.sgn x.2.2.1 x.2.2.2.1 x.2.2.2.2
 else if x.2.1=2 then b.rid x.2.2.1&&Inn x.2.2.2.1 1 3&&decide (x.2.2.2.2=0)
 else if x.2.1=3 then Inn x.2.2.1 0 ((es.length:Int)-1)&&decide ((enA es x.2.2.1).2.1=2) && !mnd es x.2.2.1&&b.per x.2.2.2.1&&decide (x.2.2.2.2=0)
 else if x.2.1=4 then b.rid x.2.2.1&&b.per x.2.2.2.1&&decide (x.2.2.2.2=0)
 else if x.2.1=5 then b.rid x.2.2.1&&Inn x.2.2.2.1 0 10000&&decide (x.2.2.2.2=0)
 else if x.2.1=6 then b.rid x.2.2.1&&decide (x.2.2.2.1=0)&&decide (x.2.2.2.2=0) else false
def ruV (r:Rul):Value:=.agg #[.int .i64 r.1,.int .i64 r.2.1,.int .i64 r.2.2.1,.bool r.2.2.2]
def enV (x:Ent):Value:=.agg #[.int .i64 x.1,.int .i64 x.2.1,.int .i64 x.2.2.1,.int .i64 x.2.2.2.1,.int .i64 x.2.2.2.2]
def fxN {α:Type} (p:α->Bool) (xs:List α):Int:=if xs.findIdx p<xs.length then (xs.findIdx p:Int) else -1
theorem NL {α:Type} {p:α->Bool} {xs:List α} {k:Nat} (hk:k<xs.length) (h:p xs[k]=true) (hj:∀ j,(h:j<xs.length)->j<k->p xs[j]=false):fxN p xs=k:=by
 have:xs.findIdx p=k:=(List.findIdx_eq hk).2 ⟨h,fun j hjk=>hj j (by omega) hjk⟩
 unfold fxN
 rw [this,if_pos hk]
theorem Iu {α:Type} {p:α->Bool} {xs:List α} (h:∀ j,(h:j<xs.length)->p xs[j]=false):fxN p xs=-1:=by
 have:xs.findIdx p=xs.length:=List.findIdx_eq_length.2 fun x hx=>by
  obtain ⟨i,hi,rfl⟩:=List.getElem_of_mem hx
  exact h i hi
 unfold fxN
 rw [this,if_neg (by omega)]
theorem NF {α:Type} {p:α->Bool} {xs:List α}:decide (0<=fxN p xs)=xs.any p:=by
 unfold fxN
 by_cases h:xs.findIdx p<xs.length
 ·rw [if_pos h]
  have:=List.findIdx_getElem (w:=h)
  rw [List.any_eq_true.2 ⟨_,List.getElem_mem h,this⟩]
  exact decide_eq_true (by omega)
 ·rw [if_neg h]
  have h':xs.findIdx p=xs.length:=Nat.le_antisymm (List.findIdx_le_length) (by omega)
  rw [List.findIdx_eq_length] at h'
  have:xs.any p=false:=by
   rw [List.any_eq_false]
   intro x hx
   simp [h' x hx]
  rw [this]
  rfl
theorem Mc {xs:List Ent} {i:Int} (h:i.toNat<xs.length):enA xs i=xs[i.toNat]:=by unfold enA;simp [List.getD,h]
theorem Bok.ru_eq {b:Bok} {i:Int} (h:i.toNat<b.R.length):b.ru i=b.R[i.toNat]:=by unfold Bok.ru;simp [List.getD,h]
section
variable {σ:Hp}
theorem Y2 {A:Option Addr} {n:Nat} {xs:List Rul} {i:Int} {K:Int->Int->Int->Bool->Prop} (h:RdS sRu σ A n xs) (hi:0<=i) (hn:i.toNat<xs.length) (hk:∀ r:Rul,xs[i.toNat]=r->K r.1 r.2.1 r.2.2.1 r.2.2.2):
  ix A n i 4 fun b a=>ldI σ .i64 b a fun x1=>ldI σ .i64 b (a+1) fun x2=>ldI σ .i64 b (a+2) fun x3=>ldB σ b (a+3) fun x4=>K x1 x2 x3 x4:=by
 refine EJ (ss:=sRu) h rfl hi hn fun b o hc=>?_
 exact AV (hc 0 (by decide)) (AV (hc 1 (by decide)) (AV (hc 2 (by decide)) (Wt (hc 3 (by decide)) (hk _ rfl))))
theorem S4 {A:Option Addr} {n:Nat} {xs:List Ent} {i:Int} {K:Int->Int->Int->Int->Int->Prop} (h:RdS sEn σ A n xs) (hi:0<=i) (hn:i.toNat<xs.length) (hk:∀ r:Ent,xs[i.toNat]=r->K r.1 r.2.1 r.2.2.1 r.2.2.2.1 r.2.2.2.2):
  ix A n i 5 fun b a=>ldI σ .i64 b a fun x1=>ldI σ .i64 b (a+1) fun x2=>ldI σ .i64 b (a+2) fun x3=>ldI σ .i64 b (a+3) fun x4=>ldI σ .i64 b (a+4) fun x5=>K x1 x2 x3 x4 x5:=by
 refine EJ (ss:=sEn) h rfl hi hn fun b o hc=>?_
 exact AV (hc 0 (by decide)) (AV (hc 1 (by decide)) (AV (hc 2 (by decide)) (AV (hc 3 (by decide)) (AV (hc 4 (by decide)) (hk _ rfl)))))
theorem ZM {A:Option Addr} {n:Nat} {xs:List Ent} {i:Int} {K:Int->Prop} (h:RdS sEn σ A n xs) (hi:0<=i) (hn:i.toNat<xs.length) (hk:K (enA xs i).1):ix A n i 5 fun b a=>ldI σ .i64 b a K:=by
 refine EJ (ss:=sEn) h rfl hi hn fun b o hc=>AV (hc 0 (by decide)) ?_
 rw [Mc hn] at hk
 exact hk
theorem Ze {A:Option Addr} {n:Nat} {xs:List Ent} {i:Int} {K:Int->Prop} (h:RdS sEn σ A n xs) (hi:0<=i) (hn:i.toNat<xs.length) (hk:K (enA xs i).2.1):ix A n i 5 fun b a=>ldI σ .i64 b (a+1) K:=by
 refine EJ (ss:=sEn) h rfl hi hn fun b o hc=>AV (hc 1 (by decide)) ?_
 rw [Mc hn] at hk
 exact hk
theorem ZS {A:Option Addr} {n:Nat} {b:Bok} {i:Int} {K:Int->Prop} (h:RdS sRu σ A n b.R) (hi:0<=i) (hn:i.toNat<b.R.length) (hk:K (b.ru i).2.2.1):ix A n i 4 fun b a=>ldI σ .i64 b (a+2) K:=by
 refine EJ (ss:=sRu) h rfl hi hn fun b' o hc=>AV (hc 2 (by decide)) ?_
 rw [Bok.ru_eq hn] at hk
 exact hk
theorem ZG {A:Option Addr} {n:Nat} {b:Bok} {i:Int} {K:Int->Prop} (h:RdS sRu σ A n b.R) (hi:0<=i) (hn:i.toNat<b.R.length) (hk:K (b.ru i).2.1):ix A n i 4 fun b a=>ldI σ .i64 b (a+1) K:=by
 refine EJ (ss:=sRu) h rfl hi hn fun b' o hc=>AV (hc 1 (by decide)) ?_
 rw [Bok.ru_eq hn] at hk
 exact hk
theorem Zd {A:Option Addr} {n:Nat} {b:Bok} {i:Int} {K:Int->Prop} (h:RdS sRu σ A n b.R) (hi:0<=i) (hn:i.toNat<b.R.length) (hk:K (b.ru i).1):ix A n i 4 fun b a=>ldI σ .i64 b a K:=by
 refine EJ (ss:=sRu) h rfl hi hn fun b' o hc=>AV (hc 0 (by decide)) ?_
 rw [Bok.ru_eq hn] at hk
 exact hk
theorem Zy {A:Option Addr} {n:Nat} {b:Bok} {i:Int} {K:Bool->Prop} (h:RdS sRu σ A n b.R) (hi:0<=i) (hn:i.toNat<b.R.length) (hk:K (b.ru i).2.2.2):ix A n i 4 fun b a=>ldB σ b (a+3) K:=by
 refine EJ (ss:=sRu) h rfl hi hn fun b' o hc=>Wt (hc 3 (by decide)) ?_
 rw [Bok.ru_eq hn] at hk
 exact hk
theorem Vj {n lo hi:Int}:Ae Tryz.prog Il #[.int .i64 n,.int .i64 lo,.int .i64 hi] σ fun v σ'=>v=.bool (Inn n lo hi)/\σ'=σ:=by
 refine Lp _ _ _ _ _ ?_
 unfold E4
 refine AD (fun h=>Al ⟨?_,rfl⟩) (fun h=>Al ⟨?_,rfl⟩)
 ·simp [Inn,h]
 ·simp [Inn,h]
theorem H5 {n lo hi:Int} {K:Bool->Hp->Prop} (h:K (Inn n lo hi) σ):cl Tryz.prog (.func (.func Il) #[] #[]) #[.int .i64 n,.int .i64 lo,.int .i64 hi] σ fun v σ'=>∃ t:Bool,(v=.bool t/\K t σ'):=clB IR Vj h
theorem WV {A:Option Addr} {n c:Nat} {xs:List Rul} {f:Value} {p:Rul->Bool} (hx:RdS sRu σ A n xs) (hl:xs.length<=4294967296)
  (hf:∀ x∈xs,cl Tryz.prog f #[ruV x] σ fun v σ'=>v=.bool (p x)/\σ'=σ):Ae Tryz.prog F2 #[.slice A n c,f] σ fun v σ'=>v=.int .i64 (fxN p xs)/\σ'=σ:=by
 refine E5 _ _ _ _ _ _ ?_
 unfold BP
 have hn:n=xs.length:=hx.1
 refine Af fun J3 h3=>?_
 refine ⟨fun m i τ=>∃ k:Nat,m=xs.length-k/\i=k/\k<=xs.length/\τ=σ/\∀ j,(h:j<xs.length)->j<k->p xs[j]=false,⟨_,0,rfl,rfl,by omega,rfl,fun j _ h=>by omega⟩,?_⟩
 rintro m i τ ⟨k,rfl,rfl,hk,rfl,hj⟩ _
 refine AD (fun hlt=>?_) (fun hlt=>?_)
 ·have hkl:k<xs.length:=by omega
  refine Y2 hx (by omega) (by omega) fun r hr=>?_
  simp only [Int.toNat_natCast] at hr
  refine BO.mono (hf r (hr▸List.getElem_mem hkl)) ?_
  rintro _ _ ⟨rfl,rfl⟩
  refine ⟨_,rfl,CW (fun hp=>Al ⟨?_,rfl⟩) (fun hp=>AP (by omega) (AW _ (by omega) ⟨k+1,rfl,by omega,by omega,rfl,fun j h1 h2=>?_⟩))⟩
  ·rw [NL hkl (hr▸hp) hj]
  ·rcases Nat.lt_or_ge j k with h3 | h3
   ·exact hj j h1 h3
   ·obtain rfl:j=k:=by omega
    rw [hr];exact hp
 ·obtain rfl:k=xs.length:=by omega
  rw [h3]
  intro _
  exact Al ⟨by rw [Iu fun j h=>hj j h h],rfl⟩
theorem Xr {A:Option Addr} {n c:Nat} {xs:List Rul} {f:Value} {p:Rul->Bool} (hx:RdS sRu σ A n xs) (hl:xs.length<=4294967296)
  (hf:∀ x∈xs,cl Tryz.prog f #[ruV x] σ fun v σ'=>v=.bool (p x)/\σ'=σ):Ae Tryz.prog EY #[.slice A n c,f] σ fun v σ'=>v=.bool (xs.any p)/\σ'=σ:=by
 refine D7 _ _ _ _ _ _ ?_
 unfold BA
 refine clI Ea (WV hx hl hf) (Al ⟨by rw [NF],rfl⟩)
theorem Te {A:Option Addr} {n c:Nat} {xs:List Ent} {f:Value} {p:Ent->Bool} (hx:RdS sEn σ A n xs) (hl:xs.length<=4294967296)
  (hf:∀ x∈xs,cl Tryz.prog f #[enV x] σ fun v σ'=>v=.bool (p x)/\σ'=σ):Ae Tryz.prog Fo #[.slice A n c,f] σ fun v σ'=>v=.int .i64 (fxN p xs)/\σ'=σ:=by
 refine Ez _ _ _ _ _ _ ?_
 unfold BM
 have hn:n=xs.length:=hx.1
 refine Af fun J3 h3=>?_
 refine ⟨fun m i τ=>∃ k:Nat,m=xs.length-k/\i=k/\k<=xs.length/\τ=σ/\∀ j,(h:j<xs.length)->j<k->p xs[j]=false,⟨_,0,rfl,rfl,by omega,rfl,fun j _ h=>by omega⟩,?_⟩
 rintro m i τ ⟨k,rfl,rfl,hk,rfl,hj⟩ _
 refine AD (fun hlt=>?_) (fun hlt=>?_)
 ·have hkl:k<xs.length:=by omega
  refine S4 hx (by omega) (by omega) fun r hr=>?_
  simp only [Int.toNat_natCast] at hr
  refine BO.mono (hf r (hr▸List.getElem_mem hkl)) ?_
  rintro _ _ ⟨rfl,rfl⟩
  refine ⟨_,rfl,CW (fun hp=>Al ⟨?_,rfl⟩) (fun hp=>AP (by omega) (AW _ (by omega) ⟨k+1,rfl,by omega,by omega,rfl,fun j h1 h2=>?_⟩))⟩
  ·rw [NL hkl (hr▸hp) hj]
  ·rcases Nat.lt_or_ge j k with h3 | h3
   ·exact hj j h1 h3
   ·obtain rfl:j=k:=by omega
    rw [hr];exact hp
 ·obtain rfl:k=xs.length:=by omega
  rw [h3]
  intro _
  exact Al ⟨by rw [Iu fun j h=>hj j h h],rfl⟩
theorem WG {A:Option Addr} {n c:Nat} {xs:List Ent} {f:Value} {p:Ent->Bool} (hx:RdS sEn σ A n xs) (hl:xs.length<=4294967296)
  (hf:∀ x∈xs,cl Tryz.prog f #[enV x] σ fun v σ'=>v=.bool (p x)/\σ'=σ):Ae Tryz.prog EB #[.slice A n c,f] σ fun v σ'=>v=.bool (xs.any p)/\σ'=σ:=by
 refine DS _ _ _ _ _ _ ?_
 unfold Bu
 refine clI BS (Te hx hl hf) (Al ⟨by rw [NF],rfl⟩)
theorem WF {A:Option Addr} {n c:Nat} {xs:List Int} {f:Value} {p:Int->Bool} (hx:RdS [.int .i64] σ A n xs) (hl:xs.length<=4294967296)
  (hf:∀ x∈xs,cl Tryz.prog f #[.int .i64 x] σ fun v σ'=>v=.bool (p x)/\σ'=σ):Ae Tryz.prog Cf #[.slice A n c,f] σ fun v σ'=>v=.int .i64 (fxN p xs)/\σ'=σ:=by
 refine BX _ _ _ _ _ _ ?_
 unfold Bn
 have hn:n=xs.length:=hx.1
 refine Af fun J3 h3=>?_
 refine ⟨fun m i τ=>∃ k:Nat,m=xs.length-k/\i=k/\k<=xs.length/\τ=σ/\∀ j,(h:j<xs.length)->j<k->p xs[j]=false,⟨_,0,rfl,rfl,by omega,rfl,fun j _ h=>by omega⟩,?_⟩
 rintro m i τ ⟨k,rfl,rfl,hk,rfl,hj⟩ _
 refine AD (fun hlt=>?_) (fun hlt=>?_)
 ·have hkl:k<xs.length:=by omega
  refine Io hx (by omega) (by omega) ?_
  rw [Fp hkl]
  refine BO.mono (hf _ (List.getElem_mem hkl)) ?_
  rintro _ _ ⟨rfl,rfl⟩
  refine ⟨_,rfl,CW (fun hp=>Al ⟨?_,rfl⟩) (fun hp=>AP (by omega) (AW _ (by omega) ⟨k+1,rfl,by omega,by omega,rfl,fun j h1 h2=>?_⟩))⟩
  ·rw [NL hkl hp hj]
  ·rcases Nat.lt_or_ge j k with h3 | h3
   ·exact hj j h1 h3
   ·obtain rfl:j=k:=by omega
    exact hp
 ·obtain rfl:k=xs.length:=by omega
  rw [h3]
  intro _
  exact Al ⟨by rw [Iu fun j h=>hj j h h],rfl⟩
theorem MU {A:Option Addr} {n c:Nat} {xs:List Int} {f:Value} {p:Int->Bool} (hx:RdS [.int .i64] σ A n xs) (hl:xs.length<=4294967296)
  (hf:∀ x∈xs,cl Tryz.prog f #[.int .i64 x] σ fun v σ'=>v=.bool (p x)/\σ'=σ):Ae Tryz.prog C7 #[.slice A n c,f] σ fun v σ'=>v=.bool (xs.any p)/\σ'=σ:=by
 refine Ck _ _ _ _ _ _ ?_
 unfold Bv
 refine clI BK (WF hx hl hf) (Al ⟨by rw [NF],rfl⟩)
theorem GB {α:Type} {p:α->Bool}:∀ {xs:List α},(xs.any fun x=>!p x)=!xs.all p
 | []=>rfl
 | x::xs=>by simp only [List.any_cons,List.all_cons,GB (xs:=xs)];cases p x<;>rfl
theorem Sa {w:BkW} {b:Bok} (h:BkR σ w b):Ae Tryz.prog LG #[w.v] σ fun v σ'=>v=.int .i64 b.e/\σ'=σ:=by
 refine Jw _ _ _ _ _ _ _ _ _ _ _ ?_
 unfold C9
 have hrn:=h.rn
 have hkn:=h.kn
 have hin:=h.in
 refine Af fun J3 h3=>?_
 have k3:∀ t,t=!(decide (b.R.length<=20)&&decide (b.K.length<=8)&&decide (b.I.length<=10))->J3 t σ:=by
  rintro t rfl
  rw [h3]
  intro _
  refine Af fun J7 h7=>?_
  have k7:∀ c σ6 t,t=!(decide (b.R.length<=20)&&decide (b.K.length<=8)&&decide (b.I.length<=10)&&b.R.all b.rulOK)->Blk c (.cells #[w.r.v,w.k.v,w.i.v] 28 (0,0)) σ σ6->J7 (some ⟨c,0,none⟩) t σ6:=by
   rintro c σ6 t rfl hb
   rw [h7]
   intro _
   have hs:Hp.Sub σ σ6:=Av.blk.sub hb
   have hg:=hb.get
   refine Af fun J12 h12=>?_
   have k12:∀ t,t=!(decide (b.R.length<=20)&&decide (b.K.length<=8)&&decide (b.I.length<=10)&&b.R.all b.rulOK&&b.K.all (Inn · 0 9))->J12 t σ6:=by
    rintro t rfl
    rw [h12]
    intro _
    refine Af fun J16 h16=>?_
    have k16:b.ok=true->J16 σ6:=fun hok=>by
     rw [h16]
     intro _
     refine Bl hs ⟨?_,rfl⟩
     unfold Bok.e
     rw [hok]
     rfl
    refine Af fun J19 h19=>?_
    have k19:∀ t,t=!b.ok->J19 t σ6:=by
     rintro t rfl
     rw [h19]
     intro _
     refine BJ (fun hok=>Bl hs ⟨?_,rfl⟩) (fun hok=>k16 hok)
     unfold Bok.e
     rw [hok]
     rfl
    refine BJ (fun hf=>k19 true ?_) (fun ht=>?_)
    ·unfold Bok.ok;rw [hf];rfl
    ·refine AA (Bm hg rfl (clB AQ (MU (p:=fun x=>!Inn x 0 10000) (h.i.sub hs) ?_ fun x _=>?_) (k19 _ ?_)))
     ·simp only [Bool.and_eq_true,decide_eq_true_eq] at ht
      have:=ht.1.1.2
      omega
     ·refine BO.func F4 (HA _ _ _ ?_)
      unfold Cq
      exact H5 (Al ⟨rfl,rfl⟩)
     ·unfold Bok.ok;rw [ht,GB];rfl
   refine BJ (fun hf=>k12 true ?_) (fun ht=>?_)
   ·rw [hf];rfl
   ·refine AA (Bm hg rfl (clB AQ (MU (p:=fun x=>!Inn x 0 9) (h.k.sub hs) ?_ fun x _=>?_) (k12 _ ?_)))
    ·simp only [Bool.and_eq_true,decide_eq_true_eq] at ht
     have:=ht.1.1.2
     omega
    ·refine BO.func FY (Hu _ _ _ ?_)
     unfold Cu
     exact H5 (Al ⟨rfl,rfl⟩)
    ·rw [ht,GB];rfl
  refine BJ (fun hf c nc=>k7 _ _ true ?_ ⟨nc,rfl⟩) (fun ht c nc=>?_)
  ·rw [hf];rfl
  ·have hb:Blk c (.cells #[w.r.v,w.k.v,w.i.v] 28 (0,0)) σ (σ.ins c (.cells #[w.r.v,w.k.v,w.i.v] 28 (0,0))):=⟨nc,rfl⟩
   have hs:Hp.Sub σ (σ.ins c (.cells #[w.r.v,w.k.v,w.i.v] 28 (0,0))):=Av.blk.sub hb
   have ht':=ht
   simp only [Bool.and_eq_true,decide_eq_true_eq] at ht'
   refine clB Dj (Xr (p:=fun x=>!b.rulOK x) (h.r.sub hs) (by omega) fun x _=>?_) (k7 _ _ _ ?_ hb)
   ·refine BO.func FU (HQ _ _ _ _ _ _ _ ?_)
    unfold Ct
    refine AA (Bm hb.get rfl (AP (by omega) (H5 ?_)))
    rw [hin]
    refine BJ (fun e=>Al ⟨?_,rfl⟩) (fun e=>H5 (BJ (fun e2=>Al ⟨?_,rfl⟩) (fun e2=>H5 (Al ⟨?_,rfl⟩))))
    ·simp [Bok.rulOK,e]
    ·simp [Bok.rulOK,e2]
    ·simp [Bok.rulOK,e,e2]
   ·rw [ht,GB];rfl
 refine AD (fun h1=>k3 _ ?_) (fun h1=>AD (fun h2=>k3 _ ?_) (fun h2=>k3 _ ?_))
 ·have:¬ b.R.length<=20:=by omega
  simp [this]
 ·have:¬ b.K.length<=8:=by omega
  simp [this]
 ·have e1:b.R.length<=20:=by omega
  have e2:b.K.length<=8:=by omega
  rw [hin]
  simp only [e1,e2,decide_true,Bool.true_and]
  rw [← decide_not]
  exact decide_eq_decide.2 (by omega)
end
end Go.Proofs.YtoelhdjloaknbaaGreat
