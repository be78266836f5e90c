/- Trimmed by wip/trim.py to what this claim rests on. -/
import Derived.Test.YtoelhdjloaknbaaGreatPNa0
import Derived.Test.YtoelhdjloaknbaaGreatPNa1
namespace Go.Proofs.YtoelhdjloaknbaaGreat
set_option maxRecDepth 100000
open Go.RowKit
def lgV (w:BkW) (E:SL):Value:=.agg #[w.r.v,w.k.v,w.i.v,E.v]
structure LgR (σ:Hp) (w:BkW) (E:SL) (b:Bok) (es:List Ent):Prop where
 b:BkR σ w b
 e:RdS sEn σ E.A E.n es
theorem LgR.sub {σ σ':Hp} {w:BkW} {E:SL} {b:Bok} {es:List Ent} (h:LgR σ w E b es) (hs:Hp.Sub σ σ'):LgR σ' w E b es:=⟨h.b.sub hs,h.e.sub hs⟩
theorem Bok.ok_spec {b:Bok} (h:b.ok=true):b.R.length<=20/\b.K.length<=8/\b.I.length<=10/\(∀ r∈b.R,b.rulOK r=true)/\(∀ n∈b.K,0<=n/\n<=9)/\∀ n∈b.I,0<=n/\n<=10000:=by
 unfold Bok.ok at h
 simp only [Bool.and_eq_true,decide_eq_true_eq,List.all_eq_true,Inn] at h
 obtain ⟨⟨⟨⟨⟨h1,h2⟩,h3⟩,h4⟩,h5⟩,h6⟩:=h
 exact ⟨h1,h2,h3,h4,h5,h6⟩
theorem Bok.e0 {b:Bok} (h:b.e=0):b.ok=true:=by
 unfold Bok.e at h
 split at h
 ·assumption
 ·cases h
section
variable {σ:Hp} {w:BkW} {E:SL} {b:Bok} {es:List Ent}
theorem Aaq (h:LgR σ w E b es) (hb:b.ok=true) {n:Int}:Ad Tryz.prog Gy #[lgV w E,.int .i64 n] σ fun v σ'=>v=.bool (b.rid n)/\σ'=σ:=by
 refine Ka _ _ _ _ _ _ _ _ _ _ _ _ _ _ _ ?_
 unfold DR
 have:=h.b.in
 have:=(Bok.ok_spec hb).2.2.1
 refine AR (by omega) (IB (Ak ⟨?_,rfl⟩))
 rw [h.b.in];rfl
theorem R7 (h:LgR σ w E b es) (hb:b.ok=true) {n:Int} {K:Bool->Hp->Prop} (hk:K (b.rid n) σ):cl Tryz.prog (.func (.func Gy) #[] #[]) #[lgV w E,.int .i64 n] σ fun v σ'=>∃ t:Bool,(v=.bool t/\K t σ'):=clB HW (Aaq h hb) hk
theorem Xp (h:LgR σ w E b es) (hb:b.ok=true) {n:Int}:Ad Tryz.prog Fh #[lgV w E,.int .i64 n] σ fun v σ'=>v=.bool (b.per n)/\σ'=σ:=by
 refine H6 _ _ _ _ _ _ _ _ _ _ _ _ _ _ _ ?_
 unfold CM
 have:=h.b.kn
 have:=(Bok.ok_spec hb).2.1
 refine AR (by omega) (IB (Ak ⟨?_,rfl⟩))
 rw [h.b.kn];rfl
theorem Qf (h:LgR σ w E b es) (hb:b.ok=true) {n:Int} {K:Bool->Hp->Prop} (hk:K (b.per n) σ):cl Tryz.prog (.func (.func Fh) #[] #[]) #[lgV w E,.int .i64 n] σ fun v σ'=>∃ t:Bool,(v=.bool t/\K t σ'):=clB GD (Xp h hb) hk
theorem OZ {n lo hi:Int} (h:Inn n lo hi=true):lo<=n/\n<=hi:=of_decide_eq_true h
theorem AaM (h:LgR σ w E b es) (hb:b.ok=true) {r n:Int} (hr:0<=r/\r<b.R.length):Ad Tryz.prog G8 #[lgV w E,.int .i64 r,.int .i64 n] σ fun v σ'=>v=.bool (b.may r n)/\σ'=σ:=by
 refine K6 _ _ _ _ _ _ _ _ _ _ _ _ _ _ _ _ ?_
 unfold Ej
 have hk:=h.b.kn
 refine Qf h hb (Cn (fun e=>?_) (fun e=>Ak ⟨?_,rfl⟩))
 ·have:=OZ e
  refine Ij h.b.k (by omega) (by omega) (Aag h.b.r hr.1 (by omega) (Ak ⟨?_,rfl⟩))
  simp [Bok.may,e]
 ·simp [Bok.may,e]
theorem WS (h:LgR σ w E b es) (hb:b.ok=true) {r n:Int} (hr:0<=r/\r<b.R.length) {K:Bool->Hp->Prop} (hk:K (b.may r n) σ):cl Tryz.prog (.func (.func G8) #[] #[]) #[lgV w E,.int .i64 r,.int .i64 n] σ fun v σ'=>∃ t:Bool,(v=.bool t/\K t σ'):=clB ID (AaM h hb hr) hk
theorem YC (h:LgR σ w E b es) (hb:b.ok=true) {r x y:Int} (hr:0<=r/\r<b.R.length):Ad Tryz.prog LO #[lgV w E,.int .i64 r,.int .i64 x,.int .i64 y] σ fun v σ'=>v=.bool (b.sgn r x y)/\σ'=σ:=by
 refine Jr _ _ _ _ _ _ _ _ _ _ _ _ _ _ _ _ _ ?_
 unfold Dn
 refine ZP h.b.r hr.1 (by omega) (Bv (fun e=>WS h hb hr (Cn (fun e2=>Ak ⟨?_,rfl⟩) (fun e2=>Ak ⟨?_,rfl⟩))) (fun e=>WS h hb hr (Cn (fun e2=>WS h hb hr (Cn (fun e3=>Ak ⟨?_,rfl⟩) (fun e3=>Ak ⟨?_,rfl⟩))) (fun e2=>Ak ⟨?_,rfl⟩))))
 ·simp [Bok.sgn,e,e2]
 ·simp [Bok.sgn,e,e2]
 ·simp [Bok.sgn,e,e2,e3]
 ·simp [Bok.sgn,e,e2,e3]
 ·simp [Bok.sgn,e,e2]
theorem SW (h:LgR σ w E b es) (hl:es.length<=4294967296) {n:Int}:Ad Tryz.prog Ku #[lgV w E,.int .i64 n] σ fun v σ'=>v=.bool (mnd es n)/\σ'=σ:=by
 refine IA _ _ _ _ _ _ _ _ _ _ _ _ _ _ _ ?_
 unfold CP
 intro c nc
 have hs:Hp.Sub σ (σ.ins c (.cells #[.int .i64 n] 3)):=Hp.Sub.ins _ nc
 refine clB C3 (Yd (p:=fun x=>decide (x.2.1=3)&&decide (x.2.2.1=n)) (h.e.sub hs) hl fun x _=>?_) (Bq hs ⟨rfl,rfl⟩)
 refine BW.func Fs (GM _ _ _ _ _ _ _ _ ?_)
 unfold Cg
 refine AF (fun e=>AB (Ba (Hp.ins_same ..) rfl (Ak ⟨?_,rfl⟩))) (fun e=>Ak ⟨?_,rfl⟩)
 ·simp [e]
 ·simp [e]
theorem Yw (h:LgR σ w E b es) (hb:b.ok=true) (hl:es.length<=4294967296) {x:Ent}:Ad Tryz.prog Lw #[lgV w E,enV x] σ fun v σ'=>v=.bool (b.rgt es x)/\σ'=σ:=by
 refine I5 _ _ _ _ _ _ _ _ _ _ _ _ _ _ _ _ _ _ _ ?_
 unfold Di
 have hen:E.n=es.length:=h.e.1
 have heni:((E.n:Nat):Int)=es.length:=by rw [hen]
 have hrni:((w.r.n:Nat):Int)=b.R.length:=by rw [h.b.rn]
 have hR:=(Bok.ok_spec hb).1
 refine Ae fun J3 h3=>?_
 have k3:J3 (Qn es) σ:=by
  rw [h3]
  intro _
  refine IB (Bv (fun e=>Ak ⟨?_,rfl⟩) (fun e=>?_))
  ·unfold Bok.rgt;rw [e];rfl
  have e0:b.rgt es x=if x.2.1=1 then Inn x.2.2.1 0 ((b.R.length:Int)-1)&&b.sgn x.2.2.1 x.2.2.2.1 x.2.2.2.2
   else if x.2.1=2 then b.rid x.2.2.1&&Inn x.2.2.2.1 1 3&&decide (x.2.2.2.2=0)
   else if x.2.1=3 then Inn x.2.2.1 0 ((es.length:Int)-1)&&decide ((enA es x.2.2.1).2.1=2) && !mnd es x.2.2.1&&b.per x.2.2.2.1&&decide (x.2.2.2.2=0)
   else if x.2.1=4 then b.rid x.2.2.1&&b.per x.2.2.2.1&&decide (x.2.2.2.2=0)
   else if x.2.1=5 then b.rid x.2.2.1&&Inn x.2.2.2.1 0 10000&&decide (x.2.2.2.2=0)
   else if x.2.1=6 then b.rid x.2.2.1&&decide (x.2.2.2.1=0)&&decide (x.2.2.2.2=0) else false:=by
   unfold Bok.rgt;rw [e,Bool.true_and]
  rw [e0]
  refine AF (fun a=>?_) (fun a=>?_)
  ·rw [if_pos a]
   refine AR (by omega) (IB ?_)
   rw [hrni]
   refine Cn (fun e2=>?_) (fun e2=>Ak ⟨?_,rfl⟩)
   ·have:=OZ e2
    refine clB GK (YC h hb (by omega)) (Ak ⟨?_,rfl⟩)
    rw [e2,Bool.true_and]
   ·rw [e2];rfl
  rw [if_neg a]
  refine AF (fun a2=>?_) (fun a2=>?_)
  ·rw [if_pos a2]
   refine R7 h hb (Cn (fun e2=>IB (Cn (fun e3=>Ak ⟨?_,rfl⟩) (fun e3=>Ak ⟨?_,rfl⟩))) (fun e2=>Ak ⟨?_,rfl⟩))
   ·rw [e2,e3];rfl
   ·rw [e2,e3];rfl
   ·rw [e2];rfl
  rw [if_neg a2]
  refine AF (fun a3=>?_) (fun a3=>?_)
  ·rw [if_pos a3]
   refine AR (by omega) (IB ?_)
   rw [heni]
   refine Cn (fun e2=>?_) (fun e2=>Ak ⟨?_,rfl⟩)
   ·have:=OZ e2
    refine ZN h.e (by omega) (by omega) (AF (fun e3=>clB C2 (SW h hl) (Bv (fun e4=>Qf h hb (Cn (fun e5=>Ak ⟨?_,rfl⟩) (fun e5=>Ak ⟨?_,rfl⟩))) (fun e4=>Ak ⟨?_,rfl⟩))) (fun e3=>Ak ⟨?_,rfl⟩))
    ·simp [e2,e3,e4,e5]
    ·simp [e2,e3,e4,e5]
    ·simp [e2,e3,e4]
    ·simp [e2,e3]
   ·rw [e2];rfl
  rw [if_neg a3]
  refine AF (fun a4=>?_) (fun a4=>?_)
  ·rw [if_pos a4]
   refine R7 h hb (Cn (fun e2=>Qf h hb (Cn (fun e3=>Ak ⟨?_,rfl⟩) (fun e3=>Ak ⟨?_,rfl⟩))) (fun e2=>Ak ⟨?_,rfl⟩))
   ·rw [e2,e3];rfl
   ·rw [e2,e3];rfl
   ·rw [e2];rfl
  rw [if_neg a4]
  refine AF (fun a5=>?_) (fun a5=>?_)
  ·rw [if_pos a5]
   refine R7 h hb (Cn (fun e2=>IB (Cn (fun e3=>Ak ⟨?_,rfl⟩) (fun e3=>Ak ⟨?_,rfl⟩))) (fun e2=>Ak ⟨?_,rfl⟩))
   ·rw [e2,e3];rfl
   ·rw [e2,e3];rfl
   ·rw [e2];rfl
  rw [if_neg a5]
  refine AF (fun a6=>?_) (fun a6=>?_)
  ·rw [if_pos a6]
   refine R7 h hb (Cn (fun e2=>AF (fun e3=>Ak ⟨?_,rfl⟩) (fun e3=>Ak ⟨?_,rfl⟩)) (fun e2=>Ak ⟨?_,rfl⟩))
   ·rw [e2,decide_eq_true e3];rfl
   ·rw [e2,decide_eq_false e3];rfl
   ·rw [e2];rfl
  rw [if_neg a6]
  exact Ak ⟨rfl,rfl⟩
 have hlast:Qn es=if 0<es.length then (enA es ((es.length:Int)-1)).1 else 0:=rfl
 refine AF (fun a=>AR (by omega) ?_) (fun a=>?_)
 ·rw [if_pos (by omega)] at hlast
  rw [hlast] at k3
  rw [heni]
  exact Aae h.e (by omega) (by omega) k3
 ·rw [if_neg (by omega)] at hlast
  rw [hlast] at k3
  exact k3
end
end Go.Proofs.YtoelhdjloaknbaaGreat
namespace Go.Proofs.YtoelhdjloaknbaaGreat
set_option maxRecDepth 100000
open Go.RowKit
def Bok.bad (b:Bok) (es:List Ent):Int:=fxN (fun i:Nat=>!b.rgt (es.take i) (enA es (i:Nat))) (List.range es.length)
def Bok.chk (b:Bok) (es:List Ent):Int×Int:=if b.e=0 then if 100<es.length then (0,2) else if 0<=b.bad es then (b.bad es,101) else (0,0) else (0,b.e)
theorem Bok.bad_at {b:Bok} {es:List Ent} {k:Nat} (hk:k<es.length) (h:b.rgt (es.take k) (enA es (k:Nat))=false) (hj:∀ j,j<k->b.rgt (es.take j) (enA es (j:Nat))=true):b.bad es=k:=by
 unfold Bok.bad
 refine OO (by simpa using hk) (by simp [h]) fun j h1 h2=>?_
 simp [hj j h2]
theorem Bok.bad_no {b:Bok} {es:List Ent} (hj:∀ j,j<es.length->b.rgt (es.take j) (enA es (j:Nat))=true):b.bad es=-1:=by
 unfold Bok.bad
 refine H8 fun j h1=>?_
 have:j<es.length:=by simpa using h1
 simp [hj j this]
theorem Bok.chk_ok {b:Bok} {es:List Ent} (h:(b.chk es).2=0):b.ok=true/\es.length<=100/\∀ j,j<es.length->b.rgt (es.take j) (enA es (j:Nat))=true:=by
 unfold Bok.chk at h
 split at h
 ·rename_i e
  split at h
  ·cases h
  ·split at h
   ·cases h
   ·refine ⟨Bok.e0 e,by omega,fun j hj=>?_⟩
    rename_i hn
    have hb:b.bad es=-1∨0<=b.bad es:=by
     unfold Bok.bad fxN
     split
     ·exact Or.inr (by omega)
     ·exact Or.inl rfl
    have ha:(List.range es.length).any (fun i:Nat=>!b.rgt (es.take i) (enA es (i:Nat)))=false:=by
     rw [← NN]
     exact decide_eq_false hn
    rw [List.any_eq_false] at ha
    have:=ha j (List.mem_range.2 hj)
    simpa using this
 ·rename_i e
  exact absurd h e
def Bok.upE (es:List Ent) (day:Int):List Ent:=es.take (es.findIdx fun x=>decide (day<x.1))
def Bok.dayE (b:Bok) (es:List Ent) (day:Int):Int:=if (b.chk es).2=0 then if Inn day 0 10000 then 0 else 1 else (b.chk es).2
theorem Bok.dayE0 {b:Bok} {es:List Ent} {day:Int} (h:b.dayE es day=0):(b.chk es).2=0/\0<=day/\day<=10000:=by
 unfold Bok.dayE at h
 split at h
 ·rename_i e
  split at h
  ·rename_i e2
   exact ⟨e,OZ e2⟩
  ·cases h
 ·rename_i e
  exact absurd h e
section
variable {σ:Hp} {w:BkW} {E:SL} {b:Bok} {es:List Ent}
theorem TO (h:LgR σ w E b es):Ad Tryz.prog OT #[w.v,E.v] σ fun v σ'=>Hp.Sub σ σ'/\∃ (w':BkW) (E':SL),v=.tuple #[lgV w' E',.int .i64 (b.chk es).1,.int .i64 (b.chk es).2]/\((b.chk es).2=0->w'=w/\E'.n<=E'.c/\LgR σ' w E' b es):=by
 refine LB _ _ _ _ _ _ _ _ _ _ _ _ _ _ ?_
 unfold EV
 have hen:E.n=es.length:=h.e.1
 refine clI GQ (TP h.b) (B0 (fun e=>Ak ⟨Hp.Sub.refl _,⟨⟨none,0,0⟩,⟨none,0,0⟩,⟨none,0,0⟩⟩,⟨none,0,0⟩,?_,fun g=>?_⟩) (fun e=>?_))
 ·unfold Bok.chk;rw [if_neg e];rfl
 ·unfold Bok.chk at g;rw [if_neg e] at g;exact absurd g e
 have hok:=Bok.e0 e
 refine AF (fun a=>Ak ⟨Hp.Sub.refl _,⟨⟨none,0,0⟩,⟨none,0,0⟩,⟨none,0,0⟩⟩,⟨none,0,0⟩,?_,fun g=>?_⟩) (fun a=>?_)
 ·unfold Bok.chk;rw [if_pos e,if_pos (by omega)];rfl
 ·unfold Bok.chk at g;rw [if_pos e,if_pos (by omega)] at g;cases g
 have e1:b.chk es=if 0<=b.bad es then (b.bad es,101) else (0,0):=by unfold Bok.chk;rw [if_pos e,if_neg (by omega)]
 refine Ae fun J6 h6=>?_
 refine ⟨fun m i rA rn rc kA kn kc iA jn ic xs τ=>∃ k:Nat,m=es.length-k/\i=k/\k<=es.length/\rA=w.r.A/\rn=w.r.n/\rc=w.r.c/\kA=w.k.A/\kn=w.k.n/\kc=w.k.c/\iA=w.i.A/\jn=w.i.n/\ic=w.i.c/\xs=es.take k/\τ=σ/\∀ j,j<k->b.rgt (es.take j) (enA es (j:Nat))=true,
  ⟨_,Jd.2 ⟨0,rfl,rfl,by omega,rfl,rfl,rfl,rfl,rfl,rfl,rfl,rfl,rfl,rfl,rfl,fun j hj=>by omega⟩⟩,?_⟩
 rintro m i rA rn rc kA kn kc iA jn ic xs τ ⟨k,rfl,rfl,hk,rfl,rfl,rfl,rfl,rfl,rfl,rfl,rfl,rfl,rfl,rfl,hj⟩ _
 refine AF (fun hlt=>?_) (fun hlt=>?_)
 ·have hkl:k<es.length:=by omega
  refine Tu h.e (by omega) (by omega) fun r hr=>?_
  have hrk:enA es (k:Nat)=r:=by rw [Mm (by simpa using hkl)];exact hr
  intro A n c σ32 ho
  have hs:Hp.Sub τ σ32:=ho.sub
  have htl:(es.take k).length=k:=by simp;omega
  refine clB GW (Yw (x:=r) (E:=⟨A,n,c⟩) (es:=es.take k) ⟨h.b.sub hs,ho.rd⟩ hok (by omega)) (Bv (fun g=>?_) (fun g=>?_))
  ·have hb:b.bad es=k:=Bok.bad_at hkl (by rw [hrk];exact g) hj
   refine Ak ⟨hs,w,⟨A,n,c⟩,?_,fun g2=>?_⟩
   ·rw [e1,hb,if_pos (by omega)];rfl
   ·rw [e1,hb,if_pos (by omega)] at g2;cases g2
  ·refine CI ho (Bg (by show (es.take k).length+1<=_;omega) (AR (by omega) (AV _ (by omega) ⟨k+1,rfl,by omega,by omega,rfl,rfl,rfl,rfl,rfl,rfl,rfl,rfl,rfl,?_,rfl,fun j h1=>?_⟩)))
   ·rw [List.take_succ_eq_append_getElem hkl]
    simp only [Int.toNat_natCast] at hr
    rw [hr]
   ·rcases Nat.lt_or_ge j k with h2 | h2
    ·exact hj j h2
    ·obtain rfl:j=k:=by omega
     rw [hrk];exact g
 ·obtain rfl:k=es.length:=by omega
  rw [h6]
  intro _ A n c σ12 ho
  rw [List.take_length] at ho
  have hb:=Bok.bad_no hj
  refine Ak ⟨ho.sub,w,⟨A,n,c⟩,?_,fun _=>⟨rfl,ho.capN,h.b.sub ho.sub,ho.rd⟩⟩
  rw [e1,hb];rfl
theorem XD (h:LgR σ w E b es):Ad Tryz.prog Pq #[w.v,E.v] σ fun v σ'=>v=.tuple #[.int .i64 (b.chk es).1,.int .i64 (b.chk es).2]/\σ'=σ:=by
 refine Mj _ _ _ _ _ _ _ _ _ _ _ _ _ _ ?_
 unfold FF
 refine AW Ef (TO h) ?_
 rintro v σ' ⟨hs,w',E',rfl,_⟩
 exact ⟨_,_,_,_,_,_,_,_,_,_,_,_,_,_,rfl,Bq hs ⟨rfl,rfl⟩⟩
theorem Abl (h:LgR σ w E b es) (hc:E.n<=E.c) (hl:es.length<=4294967296) {day:Int}:Ad Tryz.prog Oq #[lgV w E,.int .i64 day] σ fun v σ'=>σ'=σ/\∃ E',v=lgV w E'/\LgR σ w E' b (Bok.upE es day):=by
 refine LL _ _ _ _ _ _ _ _ _ _ _ _ _ _ _ ?_
 unfold E5
 have hen:E.n=es.length:=h.e.1
 intro bb nb
 have hs:Hp.Sub σ (σ.ins bb (.cells #[.int .i64 day] 3)):=Hp.Sub.ins _ nb
 refine clI BZ (TL (p:=fun x=>decide (day<x.1)) (h.e.sub hs) hl fun x _=>?_) ?_
 ·refine BW.func HD (Kd _ _ _ _ _ _ _ _ ?_)
  unfold DF
  exact AB (Ba (Hp.ins_same ..) rfl (Ak ⟨rfl,rfl⟩))
 refine Ae fun J8 h8=>?_
 have k8:∀ (A:Option Addr) (n c:Nat),LgR σ w ⟨A,n,c⟩ b (Bok.upE es day)->J8 w.r.A w.r.n w.r.c w.k.A w.k.n w.k.c w.i.A w.i.n w.i.c A n c (σ.ins bb (.cells #[.int .i64 day] 3)):=by
  intro A n c hh
  rw [h8]
  intro _
  exact Bq hs ⟨rfl,⟨A,n,c⟩,rfl,hh⟩
 unfold fxN
 refine AF (fun g=>?_) (fun g=>k8 _ _ _ ⟨h.b,?_⟩)
 ·split at g
  ·rename_i hlt
   rw [if_pos hlt]
   refine ⟨by omega,by omega,k8 _ _ _ ⟨h.b,?_⟩⟩
   rw [Int.toNat_natCast]
   have h2:List.findIdx (fun x:Ent=>decide (day<x.1)) es<=E.n:=by omega
   exact h.e.tk h2
  ·exact absurd g (by decide)
 ·split at g
  ·omega
  ·rename_i hge
   have:List.findIdx (fun x:Ent=>decide (day<x.1)) es=es.length:=Nat.le_antisymm List.findIdx_le_length (by omega)
   unfold Bok.upE
   rw [this,List.take_length]
   exact h.e
theorem Xo (h:LgR σ w E b es) {day:Int}:Ad Tryz.prog Oc #[w.v,E.v,.int .i64 day] σ fun v σ'=>Hp.Sub σ σ'/\∃ (w':BkW) (E':SL),v=.tuple #[lgV w' E',.int .i64 (b.dayE es day)]/\(b.dayE es day=0->w'=w/\LgR σ' w E' b (Bok.upE es day)):=by
 refine LF _ _ _ _ _ _ _ _ _ _ _ _ _ _ _ ?_
 unfold E0
 refine AW Ef (TO h) ?_
 rintro v σ2 ⟨hs,w',E',rfl,hh⟩
 refine ⟨_,_,_,_,_,_,_,_,_,_,_,_,_,_,rfl,B0 (fun e=>Ak ⟨hs,w',E',?_,fun g=>?_⟩) (fun e=>IB (Bv (fun e2=>Ak ⟨hs,w',E',?_,fun g=>?_⟩) (fun e2=>?_)))⟩
 ·unfold Bok.dayE;rw [if_neg e];rfl
 ·unfold Bok.dayE at g;rw [if_neg e] at g;exact absurd g e
 ·unfold Bok.dayE;rw [if_pos e,e2];rfl
 ·unfold Bok.dayE at g;rw [if_pos e,e2] at g;cases g
 ·obtain ⟨rfl,hc,hl⟩:=hh e
  have:=(Bok.chk_ok e).2.1
  refine AW I1 (Abl hl hc (by omega)) ?_
  rintro v σ3 ⟨rfl,E2,rfl,hl2⟩
  refine ⟨_,_,_,_,_,_,_,_,_,_,_,_,rfl,Ak ⟨hs,w',E2,?_,fun _=>⟨rfl,hl2⟩⟩⟩
  unfold Bok.dayE;rw [if_pos e,e2];rfl
end
end Go.Proofs.YtoelhdjloaknbaaGreat
