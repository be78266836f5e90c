/- Trimmed by wip/trim.py to what this claim rests on. -/
import Derived.Test.YtoelhdjloaknbaaGreatVNa0
import Derived.Test.YtoelhdjloaknbaaGreatVNa1
namespace Go.Proofs.YtoelhdjloaknbaaGreat
set_option maxRecDepth 100000
open Go.RowKit
def lgV (w:BkW) (E:SL):Value:=.agg #[w.r.v,w.k.v,w.i.v,E.v]
structure LgR (σ:Hp) (w:BkW) (E:SL) (b:Bok) (es:List Ent):Prop where
 b:BkR σ w b
 e:RdS sEn σ E.A E.n es
theorem LgR.sub {σ σ':Hp} {w:BkW} {E:SL} {b:Bok} {es:List Ent} (h:LgR σ w E b es) (hs:Hp.Sub σ σ'):LgR σ' w E b es:=⟨h.b.sub hs,h.e.sub hs⟩
theorem Bok.ok_spec {b:Bok} (h:b.ok=true):b.R.length<=20/\b.K.length<=8/\b.I.length<=10/\(∀ r∈b.R,b.rulOK r=true)/\(∀ n∈b.K,0<=n/\n<=9)/\∀ n∈b.I,0<=n/\n<=10000:=by
 unfold Bok.ok at h
 simp only [Bool.and_eq_true,decide_eq_true_eq,List.all_eq_true,Inn] at h
 obtain ⟨⟨⟨⟨⟨h1,h2⟩,h3⟩,h4⟩,h5⟩,h6⟩:=h
 exact ⟨h1,h2,h3,h4,h5,h6⟩
theorem Bok.e0 {b:Bok} (h:b.e=0):b.ok=true:=by
 unfold Bok.e at h
 split at h
 ·assumption
 ·cases h
section
variable {σ:Hp} {w:BkW} {E:SL} {b:Bok} {es:List Ent}
theorem Zu (h:LgR σ w E b es) (hb:b.ok=true) {n:Int}:Ae Tryz.prog Ge #[lgV w E,.int .i64 n] σ fun v σ'=>v=.bool (b.rid n)/\σ'=σ:=by
 refine Ke _ _ _ _ _ _ _ _ _ _ _ _ _ _ _ ?_
 unfold DJ
 have:=h.b.in
 have:=(Bok.ok_spec hb).2.2.1
 refine AP (by omega) (H5 (Al ⟨?_,rfl⟩))
 rw [h.b.in];rfl
theorem Rn (h:LgR σ w E b es) (hb:b.ok=true) {n:Int} {K:Bool->Hp->Prop} (hk:K (b.rid n) σ):cl Tryz.prog (.func (.func Ge) #[] #[]) #[lgV w E,.int .i64 n] σ fun v σ'=>∃ t:Bool,(v=.bool t/\K t σ'):=clB Hd (Zu h hb) hk
theorem XJ (h:LgR σ w E b es) (hb:b.ok=true) {n:Int}:Ae Tryz.prog Fd #[lgV w E,.int .i64 n] σ fun v σ'=>v=.bool (b.per n)/\σ'=σ:=by
 refine H7 _ _ _ _ _ _ _ _ _ _ _ _ _ _ _ ?_
 unfold CR
 have:=h.b.kn
 have:=(Bok.ok_spec hb).2.1
 refine AP (by omega) (H5 (Al ⟨?_,rfl⟩))
 rw [h.b.kn];rfl
theorem PQ (h:LgR σ w E b es) (hb:b.ok=true) {n:Int} {K:Bool->Hp->Prop} (hk:K (b.per n) σ):cl Tryz.prog (.func (.func Fd) #[] #[]) #[lgV w E,.int .i64 n] σ fun v σ'=>∃ t:Bool,(v=.bool t/\K t σ'):=clB Gr (XJ h hb) hk
theorem OR {n lo hi:Int} (h:Inn n lo hi=true):lo<=n/\n<=hi:=of_decide_eq_true h
theorem AaC (h:LgR σ w E b es) (hb:b.ok=true) {r n:Int} (hr:0<=r/\r<b.R.length):Ae Tryz.prog G0 #[lgV w E,.int .i64 r,.int .i64 n] σ fun v σ'=>v=.bool (b.may r n)/\σ'=σ:=by
 refine KP _ _ _ _ _ _ _ _ _ _ _ _ _ _ _ _ ?_
 unfold Em
 have hk:=h.b.kn
 refine PQ h hb (CW (fun e=>?_) (fun e=>Al ⟨?_,rfl⟩))
 ·have:=OR e
  refine Io h.b.k (by omega) (by omega) (ZS h.b.r hr.1 (by omega) (Al ⟨?_,rfl⟩))
  simp [Bok.may,e]
 ·simp [Bok.may,e]
theorem Xk (h:LgR σ w E b es) (hb:b.ok=true) {r n:Int} (hr:0<=r/\r<b.R.length) {K:Bool->Hp->Prop} (hk:K (b.may r n) σ):cl Tryz.prog (.func (.func G0) #[] #[]) #[lgV w E,.int .i64 r,.int .i64 n] σ fun v σ'=>∃ t:Bool,(v=.bool t/\K t σ'):=clB H8 (AaC h hb hr) hk
theorem YB (h:LgR σ w E b es) (hb:b.ok=true) {r x y:Int} (hr:0<=r/\r<b.R.length):Ae Tryz.prog Ln #[lgV w E,.int .i64 r,.int .i64 x,.int .i64 y] σ fun v σ'=>v=.bool (b.sgn r x y)/\σ'=σ:=by
 refine Jh _ _ _ _ _ _ _ _ _ _ _ _ _ _ _ _ _ ?_
 unfold C8
 refine Zy h.b.r hr.1 (by omega) (BJ (fun e=>Xk h hb hr (CW (fun e2=>Al ⟨?_,rfl⟩) (fun e2=>Al ⟨?_,rfl⟩))) (fun e=>Xk h hb hr (CW (fun e2=>Xk h hb hr (CW (fun e3=>Al ⟨?_,rfl⟩) (fun e3=>Al ⟨?_,rfl⟩))) (fun e2=>Al ⟨?_,rfl⟩))))
 ·simp [Bok.sgn,e,e2]
 ·simp [Bok.sgn,e,e2]
 ·simp [Bok.sgn,e,e2,e3]
 ·simp [Bok.sgn,e,e2,e3]
 ·simp [Bok.sgn,e,e2]
theorem Sw (h:LgR σ w E b es) (hl:es.length<=4294967296) {n:Int}:Ae Tryz.prog Km #[lgV w E,.int .i64 n] σ fun v σ'=>v=.bool (mnd es n)/\σ'=σ:=by
 refine Ir _ _ _ _ _ _ _ _ _ _ _ _ _ _ _ ?_
 unfold CG
 intro c nc
 have hs:Hp.Sub σ (σ.ins c (.cells #[.int .i64 n] 3)):=Hp.Sub.ins _ nc
 refine clB CZ (WG (p:=fun x=>decide (x.2.1=3)&&decide (x.2.2.1=n)) (h.e.sub hs) hl fun x _=>?_) (Bl hs ⟨rfl,rfl⟩)
 refine BO.func FD (GO _ _ _ _ _ _ _ _ ?_)
 unfold Cd
 refine AD (fun e=>AA (AY (Hp.ins_same ..) rfl (Al ⟨?_,rfl⟩))) (fun e=>Al ⟨?_,rfl⟩)
 ·simp [e]
 ·simp [e]
theorem X9 (h:LgR σ w E b es) (hb:b.ok=true) (hl:es.length<=4294967296) {x:Ent}:Ae Tryz.prog LE #[lgV w E,enV x] σ fun v σ'=>v=.bool (b.rgt es x)/\σ'=σ:=by
 refine IV _ _ _ _ _ _ _ _ _ _ _ _ _ _ _ _ _ _ _ ?_
 unfold Di
 have hen:E.n=es.length:=h.e.1
 have heni:((E.n:Nat):Int)=es.length:=by rw [hen]
 have hrni:((w.r.n:Nat):Int)=b.R.length:=by rw [h.b.rn]
 have hR:=(Bok.ok_spec hb).1
 refine Af fun J3 h3=>?_
 have k3:J3 (PO es) σ:=by
  rw [h3]
  intro _
  refine H5 (BJ (fun e=>Al ⟨?_,rfl⟩) (fun e=>?_))
  ·unfold Bok.rgt;rw [e];rfl
  have e0:b.rgt es x=if x.2.1=1 then Inn x.2.2.1 0 ((b.R.length:Int)-1)&&b.sgn x.2.2.1 x.2.2.2.1 x.2.2.2.2
   else if x.2.1=2 then b.rid x.2.2.1&&Inn x.2.2.2.1 1 3&&decide (x.2.2.2.2=0)
   else if x.2.1=3 then Inn x.2.2.1 0 ((es.length:Int)-1)&&decide ((enA es x.2.2.1).2.1=2) && !mnd es x.2.2.1&&b.per x.2.2.2.1&&decide (x.2.2.2.2=0)
   else if x.2.1=4 then b.rid x.2.2.1&&b.per x.2.2.2.1&&decide (x.2.2.2.2=0)
   else if x.2.1=5 then b.rid x.2.2.1&&Inn x.2.2.2.1 0 10000&&decide (x.2.2.2.2=0)
   else if x.2.1=6 then b.rid x.2.2.1&&decide (x.2.2.2.1=0)&&decide (x.2.2.2.2=0) else false:=by
   unfold Bok.rgt;rw [e,Bool.true_and]
  rw [e0]
  refine AD (fun a=>?_) (fun a=>?_)
  ·rw [if_pos a]
   refine AP (by omega) (H5 ?_)
   rw [hrni]
   refine CW (fun e2=>?_) (fun e2=>Al ⟨?_,rfl⟩)
   ·have:=OR e2
    refine clB GI (YB h hb (by omega)) (Al ⟨?_,rfl⟩)
    rw [e2,Bool.true_and]
   ·rw [e2];rfl
  rw [if_neg a]
  refine AD (fun a2=>?_) (fun a2=>?_)
  ·rw [if_pos a2]
   refine Rn h hb (CW (fun e2=>H5 (CW (fun e3=>Al ⟨?_,rfl⟩) (fun e3=>Al ⟨?_,rfl⟩))) (fun e2=>Al ⟨?_,rfl⟩))
   ·rw [e2,e3];rfl
   ·rw [e2,e3];rfl
   ·rw [e2];rfl
  rw [if_neg a2]
  refine AD (fun a3=>?_) (fun a3=>?_)
  ·rw [if_pos a3]
   refine AP (by omega) (H5 ?_)
   rw [heni]
   refine CW (fun e2=>?_) (fun e2=>Al ⟨?_,rfl⟩)
   ·have:=OR e2
    refine Ze h.e (by omega) (by omega) (AD (fun e3=>clB CP (Sw h hl) (BJ (fun e4=>PQ h hb (CW (fun e5=>Al ⟨?_,rfl⟩) (fun e5=>Al ⟨?_,rfl⟩))) (fun e4=>Al ⟨?_,rfl⟩))) (fun e3=>Al ⟨?_,rfl⟩))
    ·simp [e2,e3,e4,e5]
    ·simp [e2,e3,e4,e5]
    ·simp [e2,e3,e4]
    ·simp [e2,e3]
   ·rw [e2];rfl
  rw [if_neg a3]
  refine AD (fun a4=>?_) (fun a4=>?_)
  ·rw [if_pos a4]
   refine Rn h hb (CW (fun e2=>PQ h hb (CW (fun e3=>Al ⟨?_,rfl⟩) (fun e3=>Al ⟨?_,rfl⟩))) (fun e2=>Al ⟨?_,rfl⟩))
   ·rw [e2,e3];rfl
   ·rw [e2,e3];rfl
   ·rw [e2];rfl
  rw [if_neg a4]
  refine AD (fun a5=>?_) (fun a5=>?_)
  ·rw [if_pos a5]
   refine Rn h hb (CW (fun e2=>H5 (CW (fun e3=>Al ⟨?_,rfl⟩) (fun e3=>Al ⟨?_,rfl⟩))) (fun e2=>Al ⟨?_,rfl⟩))
   ·rw [e2,e3];rfl
   ·rw [e2,e3];rfl
   ·rw [e2];rfl
  rw [if_neg a5]
  refine AD (fun a6=>?_) (fun a6=>?_)
  ·rw [if_pos a6]
   refine Rn h hb (CW (fun e2=>AD (fun e3=>Al ⟨?_,rfl⟩) (fun e3=>Al ⟨?_,rfl⟩)) (fun e2=>Al ⟨?_,rfl⟩))
   ·rw [e2,decide_eq_true e3];rfl
   ·rw [e2,decide_eq_false e3];rfl
   ·rw [e2];rfl
  rw [if_neg a6]
  exact Al ⟨rfl,rfl⟩
 have hlast:PO es=if 0<es.length then (enA es ((es.length:Int)-1)).1 else 0:=rfl
 refine AD (fun a=>AP (by omega) ?_) (fun a=>?_)
 ·rw [if_pos (by omega)] at hlast
  rw [hlast] at k3
  rw [heni]
  exact ZM h.e (by omega) (by omega) k3
 ·rw [if_neg (by omega)] at hlast
  rw [hlast] at k3
  exact k3
end
end Go.Proofs.YtoelhdjloaknbaaGreat
namespace Go.Proofs.YtoelhdjloaknbaaGreat
set_option maxRecDepth 100000
open Go.RowKit
def Bok.bad (b:Bok) (es:List Ent):Int:=fxN (fun i:Nat=>!b.rgt (es.take i) (enA es (i:Nat))) (List.range es.length)
def Bok.chk (b:Bok) (es:List Ent):Int×Int:=if b.e=0 then if 100<es.length then (0,2) else if 0<=b.bad es then (b.bad es,101) else (0,0) else (0,b.e)
theorem Bok.bad_at {b:Bok} {es:List Ent} {k:Nat} (hk:k<es.length) (h:b.rgt (es.take k) (enA es (k:Nat))=false) (hj:∀ j,j<k->b.rgt (es.take j) (enA es (j:Nat))=true):b.bad es=k:=by
 unfold Bok.bad
 refine NL (by simpa using hk) (by simp [h]) fun j h1 h2=>?_
 simp [hj j h2]
theorem Bok.bad_no {b:Bok} {es:List Ent} (hj:∀ j,j<es.length->b.rgt (es.take j) (enA es (j:Nat))=true):b.bad es=-1:=by
 unfold Bok.bad
 refine Iu fun j h1=>?_
 have:j<es.length:=by simpa using h1
 simp [hj j this]
theorem Bok.chk_ok {b:Bok} {es:List Ent} (h:(b.chk es).2=0):b.ok=true/\es.length<=100/\∀ j,j<es.length->b.rgt (es.take j) (enA es (j:Nat))=true:=by
 unfold Bok.chk at h
 split at h
 ·rename_i e
  split at h
  ·cases h
  ·split at h
   ·cases h
   ·refine ⟨Bok.e0 e,by omega,fun j hj=>?_⟩
    rename_i hn
    have hb:b.bad es=-1∨0<=b.bad es:=by
     unfold Bok.bad fxN
     split
     ·exact Or.inr (by omega)
     ·exact Or.inl rfl
    have ha:(List.range es.length).any (fun i:Nat=>!b.rgt (es.take i) (enA es (i:Nat)))=false:=by
     rw [← NF]
     exact decide_eq_false hn
    rw [List.any_eq_false] at ha
    have:=ha j (List.mem_range.2 hj)
    simpa using this
 ·rename_i e
  exact absurd h e
def Bok.upE (es:List Ent) (day:Int):List Ent:=es.take (es.findIdx fun x=>decide (day<x.1))
def Bok.dayE (b:Bok) (es:List Ent) (day:Int):Int:=if (b.chk es).2=0 then if Inn day 0 10000 then 0 else 1 else (b.chk es).2
theorem Bok.dayE0 {b:Bok} {es:List Ent} {day:Int} (h:b.dayE es day=0):(b.chk es).2=0/\0<=day/\day<=10000:=by
 unfold Bok.dayE at h
 split at h
 ·rename_i e
  split at h
  ·rename_i e2
   exact ⟨e,OR e2⟩
  ·cases h
 ·rename_i e
  exact absurd h e
section
variable {σ:Hp} {w:BkW} {E:SL} {b:Bok} {es:List Ent}
theorem Sd (h:LgR σ w E b es):Ae Tryz.prog Ow #[w.v,E.v] σ fun v σ'=>Hp.Sub σ σ'/\∃ (w':BkW) (E':SL),v=.tuple #[lgV w' E',.int .i64 (b.chk es).1,.int .i64 (b.chk es).2]/\((b.chk es).2=0->w'=w/\E'.n<=E'.c/\LgR σ' w E' b es):=by
 refine Lq _ _ _ _ _ _ _ _ _ _ _ _ _ _ ?_
 unfold EV
 have hen:E.n=es.length:=h.e.1
 refine clI GL (Sa h.b) (BR (fun e=>Al ⟨Hp.Sub.refl _,⟨⟨none,0,0⟩,⟨none,0,0⟩,⟨none,0,0⟩⟩,⟨none,0,0⟩,?_,fun g=>?_⟩) (fun e=>?_))
 ·unfold Bok.chk;rw [if_neg e];rfl
 ·unfold Bok.chk at g;rw [if_neg e] at g;exact absurd g e
 have hok:=Bok.e0 e
 refine AD (fun a=>Al ⟨Hp.Sub.refl _,⟨⟨none,0,0⟩,⟨none,0,0⟩,⟨none,0,0⟩⟩,⟨none,0,0⟩,?_,fun g=>?_⟩) (fun a=>?_)
 ·unfold Bok.chk;rw [if_pos e,if_pos (by omega)];rfl
 ·unfold Bok.chk at g;rw [if_pos e,if_pos (by omega)] at g;cases g
 have e1:b.chk es=if 0<=b.bad es then (b.bad es,101) else (0,0):=by unfold Bok.chk;rw [if_pos e,if_neg (by omega)]
 refine Af fun J6 h6=>?_
 refine ⟨fun m i rA rn rc kA kn kc iA jn ic xs τ=>∃ k:Nat,m=es.length-k/\i=k/\k<=es.length/\rA=w.r.A/\rn=w.r.n/\rc=w.r.c/\kA=w.k.A/\kn=w.k.n/\kc=w.k.c/\iA=w.i.A/\jn=w.i.n/\ic=w.i.c/\xs=es.take k/\τ=σ/\∀ j,j<k->b.rgt (es.take j) (enA es (j:Nat))=true,
  ⟨_,IA.2 ⟨0,rfl,rfl,by omega,rfl,rfl,rfl,rfl,rfl,rfl,rfl,rfl,rfl,rfl,rfl,fun j hj=>by omega⟩⟩,?_⟩
 rintro m i rA rn rc kA kn kc iA jn ic xs τ ⟨k,rfl,rfl,hk,rfl,rfl,rfl,rfl,rfl,rfl,rfl,rfl,rfl,rfl,rfl,hj⟩ _
 refine AD (fun hlt=>?_) (fun hlt=>?_)
 ·have hkl:k<es.length:=by omega
  refine S4 h.e (by omega) (by omega) fun r hr=>?_
  have hrk:enA es (k:Nat)=r:=by rw [Mc (by simpa using hkl)];exact hr
  intro A n c σ32 ho
  have hs:Hp.Sub τ σ32:=ho.sub
  have htl:(es.take k).length=k:=by simp;omega
  refine clB GR (X9 (x:=r) (E:=⟨A,n,c⟩) (es:=es.take k) ⟨h.b.sub hs,ho.rd⟩ hok (by omega)) (BJ (fun g=>?_) (fun g=>?_))
  ·have hb:b.bad es=k:=Bok.bad_at hkl (by rw [hrk];exact g) hj
   refine Al ⟨hs,w,⟨A,n,c⟩,?_,fun g2=>?_⟩
   ·rw [e1,hb,if_pos (by omega)];rfl
   ·rw [e1,hb,if_pos (by omega)] at g2;cases g2
  ·refine CE ho (Bg (by show (es.take k).length+1<=_;omega) (AP (by omega) (AW _ (by omega) ⟨k+1,rfl,by omega,by omega,rfl,rfl,rfl,rfl,rfl,rfl,rfl,rfl,rfl,?_,rfl,fun j h1=>?_⟩)))
   ·rw [List.take_succ_eq_append_getElem hkl]
    simp only [Int.toNat_natCast] at hr
    rw [hr]
   ·rcases Nat.lt_or_ge j k with h2 | h2
    ·exact hj j h2
    ·obtain rfl:j=k:=by omega
     rw [hrk];exact g
 ·obtain rfl:k=es.length:=by omega
  rw [h6]
  intro _ A n c σ12 ho
  rw [List.take_length] at ho
  have hb:=Bok.bad_no hj
  refine Al ⟨ho.sub,w,⟨A,n,c⟩,?_,fun _=>⟨rfl,ho.capN,h.b.sub ho.sub,ho.rd⟩⟩
  rw [e1,hb];rfl
theorem Wz (h:LgR σ w E b es):Ae Tryz.prog Pj #[w.v,E.v] σ fun v σ'=>v=.tuple #[.int .i64 (b.chk es).1,.int .i64 (b.chk es).2]/\σ'=σ:=by
 refine Ml _ _ _ _ _ _ _ _ _ _ _ _ _ _ ?_
 unfold FC
 refine AU Ef (Sd h) ?_
 rintro v σ' ⟨hs,w',E',rfl,_⟩
 exact ⟨_,_,_,_,_,_,_,_,_,_,_,_,_,_,rfl,Bl hs ⟨rfl,rfl⟩⟩
theorem AaU (h:LgR σ w E b es) (hc:E.n<=E.c) (hl:es.length<=4294967296) {day:Int}:Ae Tryz.prog Oz #[lgV w E,.int .i64 day] σ fun v σ'=>σ'=σ/\∃ E',v=lgV w E'/\LgR σ w E' b (Bok.upE es day):=by
 refine Lx _ _ _ _ _ _ _ _ _ _ _ _ _ _ _ ?_
 unfold EX
 have hen:E.n=es.length:=h.e.1
 intro bb nb
 have hs:Hp.Sub σ (σ.ins bb (.cells #[.int .i64 day] 3)):=Hp.Sub.ins _ nb
 refine clI BS (Te (p:=fun x=>decide (day<x.1)) (h.e.sub hs) hl fun x _=>?_) ?_
 ·refine BO.func HE (Kf _ _ _ _ _ _ _ _ ?_)
  unfold DG
  exact AA (AY (Hp.ins_same ..) rfl (Al ⟨rfl,rfl⟩))
 refine Af fun J8 h8=>?_
 have k8:∀ (A:Option Addr) (n c:Nat),LgR σ w ⟨A,n,c⟩ b (Bok.upE es day)->J8 w.r.A w.r.n w.r.c w.k.A w.k.n w.k.c w.i.A w.i.n w.i.c A n c (σ.ins bb (.cells #[.int .i64 day] 3)):=by
  intro A n c hh
  rw [h8]
  intro _
  exact Bl hs ⟨rfl,⟨A,n,c⟩,rfl,hh⟩
 unfold fxN
 refine AD (fun g=>?_) (fun g=>k8 _ _ _ ⟨h.b,?_⟩)
 ·split at g
  ·rename_i hlt
   rw [if_pos hlt]
   refine ⟨by omega,by omega,k8 _ _ _ ⟨h.b,?_⟩⟩
   rw [Int.toNat_natCast]
   have h2:List.findIdx (fun x:Ent=>decide (day<x.1)) es<=E.n:=by omega
   exact h.e.tk h2
  ·exact absurd g (by decide)
 ·split at g
  ·omega
  ·rename_i hge
   have:List.findIdx (fun x:Ent=>decide (day<x.1)) es=es.length:=Nat.le_antisymm List.findIdx_le_length (by omega)
   unfold Bok.upE
   rw [this,List.take_length]
   exact h.e
theorem WM (h:LgR σ w E b es) {day:Int}:Ae Tryz.prog N8 #[w.v,E.v,.int .i64 day] σ fun v σ'=>Hp.Sub σ σ'/\∃ (w':BkW) (E':SL),v=.tuple #[lgV w' E',.int .i64 (b.dayE es day)]/\(b.dayE es day=0->w'=w/\LgR σ' w E' b (Bok.upE es day)):=by
 refine Lw _ _ _ _ _ _ _ _ _ _ _ _ _ _ _ ?_
 unfold EN
 refine AU Ef (Sd h) ?_
 rintro v σ2 ⟨hs,w',E',rfl,hh⟩
 refine ⟨_,_,_,_,_,_,_,_,_,_,_,_,_,_,rfl,BR (fun e=>Al ⟨hs,w',E',?_,fun g=>?_⟩) (fun e=>H5 (BJ (fun e2=>Al ⟨hs,w',E',?_,fun g=>?_⟩) (fun e2=>?_)))⟩
 ·unfold Bok.dayE;rw [if_neg e];rfl
 ·unfold Bok.dayE at g;rw [if_neg e] at g;exact absurd g e
 ·unfold Bok.dayE;rw [if_pos e,e2];rfl
 ·unfold Bok.dayE at g;rw [if_pos e,e2] at g;cases g
 ·obtain ⟨rfl,hc,hl⟩:=hh e
  have:=(Bok.chk_ok e).2.1
  refine AU IU (AaU hl hc (by omega)) ?_
  rintro v σ3 ⟨rfl,E2,rfl,hl2⟩
  refine ⟨_,_,_,_,_,_,_,_,_,_,_,_,rfl,Al ⟨hs,w',E2,?_,fun _=>⟨rfl,hl2⟩⟩⟩
  unfold Bok.dayE;rw [if_pos e,e2];rfl
end
end Go.Proofs.YtoelhdjloaknbaaGreat
