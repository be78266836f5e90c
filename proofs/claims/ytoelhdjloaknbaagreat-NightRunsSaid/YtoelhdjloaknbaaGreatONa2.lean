/- Trimmed by wip/trim.py to what this claim rests on. -/
import Derived.Test.YtoelhdjloaknbaaGreatONa0
import Derived.Test.YtoelhdjloaknbaaGreatONa1
namespace Go.Proofs.YtoelhdjloaknbaaGreat
set_option maxRecDepth 100000
open Go.RowKit
def lgV (w:BkW) (E:SL):Value:=.agg #[w.r.v,w.k.v,w.i.v,E.v]
structure LgR (σ:Hp) (w:BkW) (E:SL) (b:Bok) (es:List Ent):Prop where
 b:BkR σ w b
 e:RdS sEn σ E.A E.n es
theorem LgR.sub {σ σ':Hp} {w:BkW} {E:SL} {b:Bok} {es:List Ent} (h:LgR σ w E b es) (hs:Hp.Sub σ σ'):LgR σ' w E b es:=⟨h.b.sub hs,h.e.sub hs⟩
theorem Bok.ok_spec {b:Bok} (h:b.ok=true):b.R.length<=20/\b.K.length<=8/\b.I.length<=10/\(∀ r∈b.R,b.rulOK r=true)/\(∀ n∈b.K,0<=n/\n<=9)/\∀ n∈b.I,0<=n/\n<=10000:=by
 unfold Bok.ok at h
 simp only [Bool.and_eq_true,decide_eq_true_eq,List.all_eq_true,Inn] at h
 obtain ⟨⟨⟨⟨⟨h1,h2⟩,h3⟩,h4⟩,h5⟩,h6⟩:=h
 exact ⟨h1,h2,h3,h4,h5,h6⟩
theorem Bok.e0 {b:Bok} (h:b.e=0):b.ok=true:=by
 unfold Bok.e at h
 split at h
 ·assumption
 ·cases h
section
variable {σ:Hp} {w:BkW} {E:SL} {b:Bok} {es:List Ent}
theorem AcC (h:LgR σ w E b es) (hb:b.ok=true) {n:Int}:Ad Tryz.prog GC #[lgV w E,.int .i64 n] σ fun v σ'=>v=.bool (b.rid n)/\σ'=σ:=by
 refine KR _ _ _ _ _ _ _ _ _ _ _ _ _ _ _ ?_
 unfold DX
 have:=h.b.in
 have:=(Bok.ok_spec hb).2.2.1
 refine AL (by omega) (IJ (Ag ⟨?_,rfl⟩))
 rw [h.b.in];rfl
theorem Ul (h:LgR σ w E b es) (hb:b.ok=true) {n:Int} {K:Bool->Hp->Prop} (hk:K (b.rid n) σ):cl Tryz.prog (.func (.func GC) #[] #[]) #[lgV w E,.int .i64 n] σ fun v σ'=>∃ t:Bool,(v=.bool t/\K t σ'):=clB HW (AcC h hb) hk
theorem Aal (h:LgR σ w E b es) (hb:b.ok=true) {n:Int}:Ad Tryz.prog Fz #[lgV w E,.int .i64 n] σ fun v σ'=>v=.bool (b.per n)/\σ'=σ:=by
 refine Iu _ _ _ _ _ _ _ _ _ _ _ _ _ _ _ ?_
 unfold C5
 have:=h.b.kn
 have:=(Bok.ok_spec hb).2.1
 refine AL (by omega) (IJ (Ag ⟨?_,rfl⟩))
 rw [h.b.kn];rfl
theorem R1 (h:LgR σ w E b es) (hb:b.ok=true) {n:Int} {K:Bool->Hp->Prop} (hk:K (b.per n) σ):cl Tryz.prog (.func (.func Fz) #[] #[]) #[lgV w E,.int .i64 n] σ fun v σ'=>∃ t:Bool,(v=.bool t/\K t σ'):=clB GL (Aal h hb) hk
theorem Kd {n lo hi:Int} (h:Inn n lo hi=true):lo<=n/\n<=hi:=of_decide_eq_true h
theorem AcQ (h:LgR σ w E b es) (hb:b.ok=true) {r n:Int} (hr:0<=r/\r<b.R.length):Ad Tryz.prog Hu #[lgV w E,.int .i64 r,.int .i64 n] σ fun v σ'=>v=.bool (b.may r n)/\σ'=σ:=by
 refine LF _ _ _ _ _ _ _ _ _ _ _ _ _ _ _ _ ?_
 unfold El
 have hk:=h.b.kn
 refine R1 h hb (B0 (fun e=>?_) (fun e=>Ag ⟨?_,rfl⟩))
 ·have:=Kd e
  refine DA h.b.k (by omega) (by omega) (AcP h.b.r hr.1 (by omega) (Ag ⟨?_,rfl⟩))
  simp [Bok.may,e]
 ·simp [Bok.may,e]
theorem Ze (h:LgR σ w E b es) (hb:b.ok=true) {r n:Int} (hr:0<=r/\r<b.R.length) {K:Bool->Hp->Prop} (hk:K (b.may r n) σ):cl Tryz.prog (.func (.func Hu) #[] #[]) #[lgV w E,.int .i64 r,.int .i64 n] σ fun v σ'=>∃ t:Bool,(v=.bool t/\K t σ'):=clB IG (AcQ h hb hr) hk
theorem Aa0 (h:LgR σ w E b es) (hb:b.ok=true) {r x y:Int} (hr:0<=r/\r<b.R.length):Ad Tryz.prog Mr #[lgV w E,.int .i64 r,.int .i64 x,.int .i64 y] σ fun v σ'=>v=.bool (b.sgn r x y)/\σ'=σ:=by
 refine JC _ _ _ _ _ _ _ _ _ _ _ _ _ _ _ _ _ ?_
 unfold Dk
 refine Aci h.b.r hr.1 (by omega) (Bd (fun e=>Ze h hb hr (B0 (fun e2=>Ag ⟨?_,rfl⟩) (fun e2=>Ag ⟨?_,rfl⟩))) (fun e=>Ze h hb hr (B0 (fun e2=>Ze h hb hr (B0 (fun e3=>Ag ⟨?_,rfl⟩) (fun e3=>Ag ⟨?_,rfl⟩))) (fun e2=>Ag ⟨?_,rfl⟩))))
 ·simp [Bok.sgn,e,e2]
 ·simp [Bok.sgn,e,e2]
 ·simp [Bok.sgn,e,e2,e3]
 ·simp [Bok.sgn,e,e2,e3]
 ·simp [Bok.sgn,e,e2]
theorem UG (h:LgR σ w E b es) (hl:es.length<=4294967296) {n:Int}:Ad Tryz.prog Lb #[lgV w E,.int .i64 n] σ fun v σ'=>v=.bool (mnd es n)/\σ'=σ:=by
 refine IT _ _ _ _ _ _ _ _ _ _ _ _ _ _ _ ?_
 unfold C6
 intro c nc
 have hs:Hp.Sub σ (σ.ins c (.cells #[.int .i64 n] 3)):=Hp.Sub.ins _ nc
 refine clB Da (YK (p:=fun x=>decide (x.2.1=3)&&decide (x.2.2.1=n)) (h.e.sub hs) hl fun x _=>?_) (Bx hs ⟨rfl,rfl⟩)
 refine Ce.func FS (G4 _ _ _ _ _ _ _ _ ?_)
 unfold Cv
 refine AA (fun e=>AN (Bu (Hp.ins_same ..) rfl (Ag ⟨?_,rfl⟩))) (fun e=>Ag ⟨?_,rfl⟩)
 ·simp [e]
 ·simp [e]
theorem Abw (h:LgR σ w E b es) (hb:b.ok=true) (hl:es.length<=4294967296) {x:Ent}:Ad Tryz.prog Mp #[lgV w E,enV x] σ fun v σ'=>v=.bool (b.rgt es x)/\σ'=σ:=by
 refine JY _ _ _ _ _ _ _ _ _ _ _ _ _ _ _ _ _ _ _ ?_
 unfold Dj
 have hen:E.n=es.length:=h.e.1
 have heni:((E.n:Nat):Int)=es.length:=by rw [hen]
 have hrni:((w.r.n:Nat):Int)=b.R.length:=by rw [h.b.rn]
 have hR:=(Bok.ok_spec hb).1
 refine Ab fun J3 h3=>?_
 have k3:J3 (Of es) σ:=by
  rw [h3]
  intro _
  refine IJ (Bd (fun e=>Ag ⟨?_,rfl⟩) (fun e=>?_))
  ·unfold Bok.rgt;rw [e];rfl
  have e0:b.rgt es x=if x.2.1=1 then Inn x.2.2.1 0 ((b.R.length:Int)-1)&&b.sgn x.2.2.1 x.2.2.2.1 x.2.2.2.2
   else if x.2.1=2 then b.rid x.2.2.1&&Inn x.2.2.2.1 1 3&&decide (x.2.2.2.2=0)
   else if x.2.1=3 then Inn x.2.2.1 0 ((es.length:Int)-1)&&decide ((enA es x.2.2.1).2.1=2) && !mnd es x.2.2.1&&b.per x.2.2.2.1&&decide (x.2.2.2.2=0)
   else if x.2.1=4 then b.rid x.2.2.1&&b.per x.2.2.2.1&&decide (x.2.2.2.2=0)
   else if x.2.1=5 then b.rid x.2.2.1&&Inn x.2.2.2.1 0 10000&&decide (x.2.2.2.2=0)
   else if x.2.1=6 then b.rid x.2.2.1&&decide (x.2.2.2.1=0)&&decide (x.2.2.2.2=0) else false:=by
   unfold Bok.rgt;rw [e,Bool.true_and]
  rw [e0]
  refine AA (fun a=>?_) (fun a=>?_)
  ·rw [if_pos a]
   refine AL (by omega) (IJ ?_)
   rw [hrni]
   refine B0 (fun e2=>?_) (fun e2=>Ag ⟨?_,rfl⟩)
   ·have:=Kd e2
    refine clB Hd (Aa0 h hb (by omega)) (Ag ⟨?_,rfl⟩)
    rw [e2,Bool.true_and]
   ·rw [e2];rfl
  rw [if_neg a]
  refine AA (fun a2=>?_) (fun a2=>?_)
  ·rw [if_pos a2]
   refine Ul h hb (B0 (fun e2=>IJ (B0 (fun e3=>Ag ⟨?_,rfl⟩) (fun e3=>Ag ⟨?_,rfl⟩))) (fun e2=>Ag ⟨?_,rfl⟩))
   ·rw [e2,e3];rfl
   ·rw [e2,e3];rfl
   ·rw [e2];rfl
  rw [if_neg a2]
  refine AA (fun a3=>?_) (fun a3=>?_)
  ·rw [if_pos a3]
   refine AL (by omega) (IJ ?_)
   rw [heni]
   refine B0 (fun e2=>?_) (fun e2=>Ag ⟨?_,rfl⟩)
   ·have:=Kd e2
    refine P8 h.e (by omega) (by omega) (AA (fun e3=>clB CX (UG h hl) (Bd (fun e4=>R1 h hb (B0 (fun e5=>Ag ⟨?_,rfl⟩) (fun e5=>Ag ⟨?_,rfl⟩))) (fun e4=>Ag ⟨?_,rfl⟩))) (fun e3=>Ag ⟨?_,rfl⟩))
    ·simp [e2,e3,e4,e5]
    ·simp [e2,e3,e4,e5]
    ·simp [e2,e3,e4]
    ·simp [e2,e3]
   ·rw [e2];rfl
  rw [if_neg a3]
  refine AA (fun a4=>?_) (fun a4=>?_)
  ·rw [if_pos a4]
   refine Ul h hb (B0 (fun e2=>R1 h hb (B0 (fun e3=>Ag ⟨?_,rfl⟩) (fun e3=>Ag ⟨?_,rfl⟩))) (fun e2=>Ag ⟨?_,rfl⟩))
   ·rw [e2,e3];rfl
   ·rw [e2,e3];rfl
   ·rw [e2];rfl
  rw [if_neg a4]
  refine AA (fun a5=>?_) (fun a5=>?_)
  ·rw [if_pos a5]
   refine Ul h hb (B0 (fun e2=>IJ (B0 (fun e3=>Ag ⟨?_,rfl⟩) (fun e3=>Ag ⟨?_,rfl⟩))) (fun e2=>Ag ⟨?_,rfl⟩))
   ·rw [e2,e3];rfl
   ·rw [e2,e3];rfl
   ·rw [e2];rfl
  rw [if_neg a5]
  refine AA (fun a6=>?_) (fun a6=>?_)
  ·rw [if_pos a6]
   refine Ul h hb (B0 (fun e2=>AA (fun e3=>Ag ⟨?_,rfl⟩) (fun e3=>Ag ⟨?_,rfl⟩)) (fun e2=>Ag ⟨?_,rfl⟩))
   ·rw [e2,decide_eq_true e3];rfl
   ·rw [e2,decide_eq_false e3];rfl
   ·rw [e2];rfl
  rw [if_neg a6]
  exact Ag ⟨rfl,rfl⟩
 have hlast:Of es=if 0<es.length then (enA es ((es.length:Int)-1)).1 else 0:=rfl
 refine AA (fun a=>AL (by omega) ?_) (fun a=>?_)
 ·rw [if_pos (by omega)] at hlast
  rw [hlast] at k3
  rw [heni]
  exact RT h.e (by omega) (by omega) k3
 ·rw [if_neg (by omega)] at hlast
  rw [hlast] at k3
  exact k3
end
end Go.Proofs.YtoelhdjloaknbaaGreat
namespace Go.Proofs.YtoelhdjloaknbaaGreat
set_option maxRecDepth 100000
open Go.RowKit
def Bok.bad (b:Bok) (es:List Ent):Int:=fxN (fun i:Nat=>!b.rgt (es.take i) (enA es (i:Nat))) (List.range es.length)
def Bok.chk (b:Bok) (es:List Ent):Int×Int:=if b.e=0 then if 100<es.length then (0,2) else if 0<=b.bad es then (b.bad es,101) else (0,0) else (0,b.e)
theorem Bok.bad_at {b:Bok} {es:List Ent} {k:Nat} (hk:k<es.length) (h:b.rgt (es.take k) (enA es (k:Nat))=false) (hj:∀ j,j<k->b.rgt (es.take j) (enA es (j:Nat))=true):b.bad es=k:=by
 unfold Bok.bad
 refine Nd (by simpa using hk) (by simp [h]) fun j h1 h2=>?_
 simp [hj j h2]
theorem Bok.bad_no {b:Bok} {es:List Ent} (hj:∀ j,j<es.length->b.rgt (es.take j) (enA es (j:Nat))=true):b.bad es=-1:=by
 unfold Bok.bad
 refine GS fun j h1=>?_
 have:j<es.length:=by simpa using h1
 simp [hj j this]
theorem Bok.chk_ok {b:Bok} {es:List Ent} (h:(b.chk es).2=0):b.ok=true/\es.length<=100/\∀ j,j<es.length->b.rgt (es.take j) (enA es (j:Nat))=true:=by
 unfold Bok.chk at h
 split at h
 ·rename_i e
  split at h
  ·cases h
  ·split at h
   ·cases h
   ·refine ⟨Bok.e0 e,by omega,fun j hj=>?_⟩
    rename_i hn
    have hb:b.bad es=-1∨0<=b.bad es:=by
     unfold Bok.bad fxN
     split
     ·exact Or.inr (by omega)
     ·exact Or.inl rfl
    have ha:(List.range es.length).any (fun i:Nat=>!b.rgt (es.take i) (enA es (i:Nat)))=false:=by
     rw [← N3]
     exact decide_eq_false hn
    rw [List.any_eq_false] at ha
    have:=ha j (List.mem_range.2 hj)
    simpa using this
 ·rename_i e
  exact absurd h e
def Bok.upE (es:List Ent) (day:Int):List Ent:=es.take (es.findIdx fun x=>decide (day<x.1))
def Bok.dayE (b:Bok) (es:List Ent) (day:Int):Int:=if (b.chk es).2=0 then if Inn day 0 10000 then 0 else 1 else (b.chk es).2
theorem Bok.dayE0 {b:Bok} {es:List Ent} {day:Int} (h:b.dayE es day=0):(b.chk es).2=0/\0<=day/\day<=10000:=by
 unfold Bok.dayE at h
 split at h
 ·rename_i e
  split at h
  ·rename_i e2
   exact ⟨e,Kd e2⟩
  ·cases h
 ·rename_i e
  exact absurd h e
section
variable {σ:Hp} {w:BkW} {E:SL} {b:Bok} {es:List Ent}
theorem VK (h:LgR σ w E b es):Ad Tryz.prog Py #[w.v,E.v] σ fun v σ'=>Hp.Sub σ σ'/\∃ (w':BkW) (E':SL),v=.tuple #[lgV w' E',.int .i64 (b.chk es).1,.int .i64 (b.chk es).2]/\((b.chk es).2=0->w'=w/\E'.n<=E'.c/\LgR σ' w E' b es):=by
 refine Mm _ _ _ _ _ _ _ _ _ _ _ _ _ _ ?_
 unfold E3
 have hen:E.n=es.length:=h.e.1
 refine clI G6 (Vr h.b) (Bi (fun e=>Ag ⟨Hp.Sub.refl _,⟨⟨none,0,0⟩,⟨none,0,0⟩,⟨none,0,0⟩⟩,⟨none,0,0⟩,?_,fun g=>?_⟩) (fun e=>?_))
 ·unfold Bok.chk;rw [if_neg e];rfl
 ·unfold Bok.chk at g;rw [if_neg e] at g;exact absurd g e
 have hok:=Bok.e0 e
 refine AA (fun a=>Ag ⟨Hp.Sub.refl _,⟨⟨none,0,0⟩,⟨none,0,0⟩,⟨none,0,0⟩⟩,⟨none,0,0⟩,?_,fun g=>?_⟩) (fun a=>?_)
 ·unfold Bok.chk;rw [if_pos e,if_pos (by omega)];rfl
 ·unfold Bok.chk at g;rw [if_pos e,if_pos (by omega)] at g;cases g
 have e1:b.chk es=if 0<=b.bad es then (b.bad es,101) else (0,0):=by unfold Bok.chk;rw [if_pos e,if_neg (by omega)]
 refine Ab fun J6 h6=>?_
 refine ⟨fun m i rA rn rc kA kn kc iA jn ic xs τ=>∃ k:Nat,m=es.length-k/\i=k/\k<=es.length/\rA=w.r.A/\rn=w.r.n/\rc=w.r.c/\kA=w.k.A/\kn=w.k.n/\kc=w.k.c/\iA=w.i.A/\jn=w.i.n/\ic=w.i.c/\xs=es.take k/\τ=σ/\∀ j,j<k->b.rgt (es.take j) (enA es (j:Nat))=true,
  ⟨_,Fq.2 ⟨0,rfl,rfl,by omega,rfl,rfl,rfl,rfl,rfl,rfl,rfl,rfl,rfl,rfl,rfl,fun j hj=>by omega⟩⟩,?_⟩
 rintro m i rA rn rc kA kn kc iA jn ic xs τ ⟨k,rfl,rfl,hk,rfl,rfl,rfl,rfl,rfl,rfl,rfl,rfl,rfl,rfl,rfl,hj⟩ _
 refine AA (fun hlt=>?_) (fun hlt=>?_)
 ·have hkl:k<es.length:=by omega
  refine Tj h.e (by omega) (by omega) fun r hr=>?_
  have hrk:enA es (k:Nat)=r:=by rw [DQ (by simpa using hkl)];exact hr
  intro A n c σ32 ho
  have hs:Hp.Sub τ σ32:=ho.sub
  have htl:(es.take k).length=k:=by simp;omega
  refine clB G7 (Abw (x:=r) (E:=⟨A,n,c⟩) (es:=es.take k) ⟨h.b.sub hs,ho.rd⟩ hok (by omega)) (Bd (fun g=>?_) (fun g=>?_))
  ·have hb:b.bad es=k:=Bok.bad_at hkl (by rw [hrk];exact g) hj
   refine Ag ⟨hs,w,⟨A,n,c⟩,?_,fun g2=>?_⟩
   ·rw [e1,hb,if_pos (by omega)];rfl
   ·rw [e1,hb,if_pos (by omega)] at g2;cases g2
  ·refine Cj ho (Be (by show (es.take k).length+1<=_;omega) (AL (by omega) (A0 _ (by omega) ⟨k+1,rfl,by omega,by omega,rfl,rfl,rfl,rfl,rfl,rfl,rfl,rfl,rfl,?_,rfl,fun j h1=>?_⟩)))
   ·rw [List.take_succ_eq_append_getElem hkl]
    simp only [Int.toNat_natCast] at hr
    rw [hr]
   ·rcases Nat.lt_or_ge j k with h2 | h2
    ·exact hj j h2
    ·obtain rfl:j=k:=by omega
     rw [hrk];exact g
 ·obtain rfl:k=es.length:=by omega
  rw [h6]
  intro _ A n c σ12 ho
  rw [List.take_length] at ho
  have hb:=Bok.bad_no hj
  refine Ag ⟨ho.sub,w,⟨A,n,c⟩,?_,fun _=>⟨rfl,ho.capN,h.b.sub ho.sub,ho.rd⟩⟩
  rw [e1,hb];rfl
theorem Z9 (h:LgR σ w E b es):Ad Tryz.prog Ra #[w.v,E.v] σ fun v σ'=>v=.tuple #[.int .i64 (b.chk es).1,.int .i64 (b.chk es).2]/\σ'=σ:=by
 refine Nv _ _ _ _ _ _ _ _ _ _ _ _ _ _ ?_
 unfold FE
 refine Bg EC (VK h) ?_
 rintro v σ' ⟨hs,w',E',rfl,_⟩
 exact ⟨_,_,_,_,_,_,_,_,_,_,_,_,_,_,rfl,Bx hs ⟨rfl,rfl⟩⟩
theorem Adj (h:LgR σ w E b es) (hc:E.n<=E.c) (hl:es.length<=4294967296) {day:Int}:Ad Tryz.prog Pj #[lgV w E,.int .i64 day] σ fun v σ'=>σ'=σ/\∃ E',v=lgV w E'/\LgR σ w E' b (Bok.upE es day):=by
 refine Me _ _ _ _ _ _ _ _ _ _ _ _ _ _ _ ?_
 unfold Fe
 have hen:E.n=es.length:=h.e.1
 intro bb nb
 have hs:Hp.Sub σ (σ.ins bb (.cells #[.int .i64 day] 3)):=Hp.Sub.ins _ nb
 refine clI Cc (VG (p:=fun x=>decide (day<x.1)) (h.e.sub hs) hl fun x _=>?_) ?_
 ·refine Ce.func H9 (Kr _ _ _ _ _ _ _ _ ?_)
  unfold D1
  exact AN (Bu (Hp.ins_same ..) rfl (Ag ⟨rfl,rfl⟩))
 refine Ab fun J8 h8=>?_
 have k8:∀ (A:Option Addr) (n c:Nat),LgR σ w ⟨A,n,c⟩ b (Bok.upE es day)->J8 w.r.A w.r.n w.r.c w.k.A w.k.n w.k.c w.i.A w.i.n w.i.c A n c (σ.ins bb (.cells #[.int .i64 day] 3)):=by
  intro A n c hh
  rw [h8]
  intro _
  exact Bx hs ⟨rfl,⟨A,n,c⟩,rfl,hh⟩
 unfold fxN
 refine AA (fun g=>?_) (fun g=>k8 _ _ _ ⟨h.b,?_⟩)
 ·split at g
  ·rename_i hlt
   rw [if_pos hlt]
   refine ⟨by omega,by omega,k8 _ _ _ ⟨h.b,?_⟩⟩
   rw [Int.toNat_natCast]
   have h2:List.findIdx (fun x:Ent=>decide (day<x.1)) es<=E.n:=by omega
   exact h.e.tk h2
  ·exact absurd g (by decide)
 ·split at g
  ·omega
  ·rename_i hge
   have:List.findIdx (fun x:Ent=>decide (day<x.1)) es=es.length:=Nat.le_antisymm List.findIdx_le_length (by omega)
   unfold Bok.upE
   rw [this,List.take_length]
   exact h.e
theorem Zt (h:LgR σ w E b es) {day:Int}:Ad Tryz.prog PA #[w.v,E.v,.int .i64 day] σ fun v σ'=>Hp.Sub σ σ'/\∃ (w':BkW) (E':SL),v=.tuple #[lgV w' E',.int .i64 (b.dayE es day)]/\(b.dayE es day=0->w'=w/\LgR σ' w E' b (Bok.upE es day)):=by
 refine Mz _ _ _ _ _ _ _ _ _ _ _ _ _ _ _ ?_
 unfold Ff
 refine Bg EC (VK h) ?_
 rintro v σ2 ⟨hs,w',E',rfl,hh⟩
 refine ⟨_,_,_,_,_,_,_,_,_,_,_,_,_,_,rfl,Bi (fun e=>Ag ⟨hs,w',E',?_,fun g=>?_⟩) (fun e=>IJ (Bd (fun e2=>Ag ⟨hs,w',E',?_,fun g=>?_⟩) (fun e2=>?_)))⟩
 ·unfold Bok.dayE;rw [if_neg e];rfl
 ·unfold Bok.dayE at g;rw [if_neg e] at g;exact absurd g e
 ·unfold Bok.dayE;rw [if_pos e,e2];rfl
 ·unfold Bok.dayE at g;rw [if_pos e,e2] at g;cases g
 ·obtain ⟨rfl,hc,hl⟩:=hh e
  have:=(Bok.chk_ok e).2.1
  refine Bg Jk (Adj hl hc (by omega)) ?_
  rintro v σ3 ⟨rfl,E2,rfl,hl2⟩
  refine ⟨_,_,_,_,_,_,_,_,_,_,_,_,rfl,Ag ⟨hs,w',E2,?_,fun _=>⟨rfl,hl2⟩⟩⟩
  unfold Bok.dayE;rw [if_pos e,e2];rfl
end
end Go.Proofs.YtoelhdjloaknbaaGreat
