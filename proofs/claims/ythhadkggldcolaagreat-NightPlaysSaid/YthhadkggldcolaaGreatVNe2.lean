/- Trimmed by wip/trim.py to what this claim rests on. -/
import Derived.Test.YthhadkggldcolaaGreatVNe1
namespace Go.Proofs.YthhadkggldcolaaGreat
set_option maxRecDepth 100000
open Go.RowKit
def Bok.frc (b:Bok) (es:List Ent) (r day:Int):Bool:=decide (0<=lst (ckP r) (b.ru r).1 es)&&decide (day-lst (ckP r) (b.ru r).1 es<(b.ru r).2.1)
def Bok.chd (b:Bok) (es:List Ent) (ride day:Int):Bool:=(List.range b.R.length).all fun r:Nat=>!decide ((b.ru (r:Nat)).1=ride)||b.frc es (r:Nat) day
def tsF (ride day:Int) (x:Ent):Option Bool:=if x.2.2.1=ride then if x.2.1=4 then if x.1=day then some true else none else if x.2.1=6 then some false else none else none
def tsd (es:List Ent) (ride day:Int):Bool:=scn (tsF ride day) false es
def Bok.rsn (b:Bok) (es:List Ent) (ride day:Int):List Int:=
 (((if b.chd es ride day then [] else [1])++(if Jt es ride then [] else [2]))++(if tsd es ride day then [] else [3]))++(if b.ins es ride<day then [4] else [])
theorem TK {α:Type} {f:Ent->Option α} {d:α} {es:List Ent} {k:Nat} (hk:k<es.length):scn f d (es.take (k+1))=(f (enA es (k:Nat))).getD (scn f d (es.take k)):=by
 rw [List.take_succ_eq_append_getElem hk,Jp,En (by simpa using hk)]
 rfl
section
variable {σ:Hp} {w:BkW} {E:SL} {b:Bok} {es:List Ent}
theorem Aav (h:LgR σ w E b es) (he:OW es) {r day:Int} (hr:0<=r/\r<b.R.length) (hd:0<=day/\day<=10000):Af Tryz.prog Ui #[w.v,E.v,.int .i64 r,.int .i64 day] σ fun v σ'=>v=.bool (b.frc es r day)/\σ'=σ:=by
 refine QF _ _ _ _ _ _ _ _ _ _ _ _ _ _ _ _ ?_
 unfold IL
 have hen:E.n=es.length:=h.e.1
 have hrn:=h.b.rn
 have hn:=he.n
 refine Ad fun J3 h3=>?_
 refine ⟨fun m l i τ=>∃ k:Nat,m=es.length-k/\i=k/\k<=es.length/\τ=σ/\l=lst (ckP r) (b.ru r).1 (es.take k),⟨_,0,rfl,rfl,by omega,rfl,rfl⟩,?_⟩
 rintro m l i τ ⟨k,rfl,rfl,hk,rfl,rfl⟩ _
 refine AA (fun hlt=>?_) (fun hlt=>?_)
 ·have hkl:k<es.length:=by omega
  have e1:lst (ckP r) (b.ru r).1 (es.take (k+1))=(F0 (ckP r) (b.ru r).1 (enA es (k:Nat))).getD (lst (ckP r) (b.ru r).1 (es.take k)):=TK hkl
  refine Ad fun J17 h17=>?_
  have k17:J17 (lst (ckP r) (b.ru r).1 (es.take (k+1))) τ:=by
   rw [h17]
   intro _
   exact AT (by omega) (A0 _ (by omega) ⟨k+1,rfl,by omega,by omega,rfl,rfl⟩)
  rw [e1] at k17
  refine Ad fun J24 h24=>?_
  have k24:∀ n,n=(if ckP r (enA es (k:Nat)) then (enA es (k:Nat)).1 else lst (ckP r) (b.ru r).1 (es.take k))->J24 n τ:=by
   rintro n rfl
   rw [h24]
   intro _
   refine Ad fun J28 h28=>?_
   have k28:∀ t,t=decide ((enA es (k:Nat)).2.1=6/\(enA es (k:Nat)).2.2.1=(b.ru r).1)->J28 t τ:=by
    rintro t rfl
    rw [h28]
    intro _
    unfold F0 at k17
    refine AA (fun e=>?_) (fun e=>?_)
    ·have:ckP r (enA es (k:Nat))=false:=by unfold ckP;rw [e.1];simp
     rw [this,if_neg (by decide),if_pos e] at k17
     exact k17
    ·split
     ·rename_i e2
      rw [if_pos e2] at k17
      exact k17
     ·rename_i e2
      rw [if_neg e2,if_neg e] at k17
      exact k17
   refine QI h.e (by omega) (by omega) (AA (fun e=>Vm h.e (by omega) (by omega) (XM h.b.r hr.1 (by omega) (k28 _ ?_))) (fun e=>k28 _ ?_))
   ·simp [e]
   ·simp [e]
  refine Ad fun J41 h41=>?_
  have k41:∀ t,t=ckP r (enA es (k:Nat))->J41 t τ:=by
   rintro t rfl
   rw [h41]
   intro _
   refine BI (fun e=>TA h.e (by omega) (by omega) (k24 _ ?_)) (fun e=>k24 _ ?_)
   ·rw [if_pos e]
   ·rw [e];rfl
  refine QI h.e (by omega) (by omega) (AA (fun e=>Vm h.e (by omega) (by omega) (k41 _ ?_)) (fun e=>k41 _ ?_))
  ·simp [ckP,e]
  ·simp [ckP,e]
 ·obtain rfl:k=es.length:=by omega
  rw [h3,List.take_length]
  intro _
  have:=Abj he (p:=ckP r) (ride:=(b.ru r).1)
  refine AA (fun e=>AT (by omega) (AaS h.b.r hr.1 (by omega) (Ah ⟨?_,rfl⟩))) (fun e=>Ah ⟨?_,rfl⟩)
  ·unfold Bok.frc;rw [decide_eq_true e,Bool.true_and]
  ·unfold Bok.frc;rw [decide_eq_false e,Bool.false_and]
def PM (es:List Ent) (ride:Int) (k:Nat) (xs:List Int):Prop:=xs.length=4/\∀ s:Int,1<=s->s<=3->gt xs s=svN es ride (I2 es k) s
theorem XA {k:Nat} (hk:k<es.length):TM es (k:Nat)=(decide ((enA es (k:Nat)).2.1=2) && !mnd es (k:Nat)):=by
 unfold TM Inn
 have:(0:Int)<=(k:Nat)/\((k:Nat):Int)<=(es.length:Int)-1:=by omega
 rw [decide_eq_true this,Bool.true_and]
theorem U7 {k:Nat} (hk:k<es.length):I2 es (k+1)=if TM es (k:Nat)=true then I2 es k++[(k:Int)] else I2 es k:=by
 rw [UK,XA hk]
 by_cases h:(enA es (k:Nat)).2.1=2
 ·cases e:mnd es (k:Nat)<;>simp [h]
 ·simp [h]
theorem PM.same {ride:Int} {k:Nat} {xs:List Int} (hk:k<es.length) (h:PM es ride k xs) (hn:TM es (k:Nat)=false∨¬ (enA es (k:Nat)).2.2.1=ride):PM es ride (k+1) xs:=by
 refine ⟨h.1,fun s h1 h2=>?_⟩
 rw [h.2 s h1 h2,U7 hk]
 split
 ·rename_i e
  rw [TV]
  rcases hn with hn | hn
  ·rw [hn] at e;cases e
  ·have:svP es ride s (k:Nat)=false:=by simp [svP,hn]
   rw [this];rfl
 ·rfl
theorem PM.more {ride v:Int} {k:Nat} {xs:List Int} (hk:k<es.length) (h:PM es ride k xs) (ho:TM es (k:Nat)=true) (hr:(enA es (k:Nat)).2.2.1=ride) (hs:1<=(enA es (k:Nat)).2.2.2.1/\(enA es (k:Nat)).2.2.2.1<=3) (hv:v=gt xs (enA es (k:Nat)).2.2.2.1+1):
  PM es ride (k+1) (xs.set (enA es (k:Nat)).2.2.2.1.toNat v):=by
 have hl:=h.1
 refine ⟨by simpa using h.1,fun s h1 h2=>?_⟩
 rw [U7 hk,if_pos ho,TV,Aez (by omega) (by omega) (by omega)]
 by_cases e:s=(enA es (k:Nat)).2.2.2.1
 ·rw [if_pos e]
  have:svP es ride s (k:Nat)=true:=by simp [svP,hr,e]
  rw [this,hv,← e,h.2 s h1 h2];rfl
 ·rw [if_neg e,h.2 s h1 h2]
  have e':¬ (enA es (k:Nat)).2.2.2.1=s:=fun h=>e h.symm
  have:svP es ride s (k:Nat)=false:=by simp [svP,e']
  rw [this];rfl
theorem Yq (h:LgR σ w E b es) (hb:b.ok=true) (he:OW es) {ride day:Int} (hr:0<=ride/\ride<b.I.length) (hd:0<=day/\day<=10000):
  Af Tryz.prog SV #[w.v,E.v,.int .i64 ride,.int .i64 day] σ (Aam 3 [.int .i64] σ (b.rsn es ride day)):=by
 refine OE _ _ _ _ _ _ _ _ _ _ _ _ _ _ _ _ ?_
 unfold F9
 have hen:E.n=es.length:=h.e.1
 have hrn:=h.b.rn
 have hn:=he.n
 have h20:=(Bok.ok_spec hb).1
 refine Ad fun J3 h3=>?_
 have k3:J3 (b.chd es ride day) σ:=by
  rw [h3]
  intro _
  refine Ad fun J7 h7=>?_
  have k7:∀ xs:List Int,xs=(if b.chd es ride day then [] else [1])->J7 xs σ:=by
   intro xs hxs
   have hxl:xs.length<=1:=by rw [hxs];split<;>decide
   rw [h7]
   intro _
   refine ⟨by decide,by decide,by decide,Cx h.b.i hr.1 hr.2 (Ad fun J14 h14=>?_)⟩
   have k14:∀ xs4,PM es ride es.length xs4->J14 (tsd es ride day) (b.ins es ride) xs4 σ:=by
    intro xs4 hcn
    have hl4:=hcn.1
    rw [h14]
    intro _
    refine Ad fun J20 h20=>?_
    have k20:∀ ys:List Int,ys=xs++(if Jt es ride then [] else [2])->J20 ys σ:=by
     intro ys hys
     have hyl:ys.length<=2:=by rw [hys,List.length_append];have:(if Jt es ride=true then [] else [(2:Int)]).length<=1:=(by split<;>decide);omega
     rw [h20]
     intro _
     refine Ad fun J24 h24=>?_
     have k24:∀ zs:List Int,zs=ys++(if tsd es ride day then [] else [3])->J24 zs σ:=by
      intro zs hzs
      have hzl:zs.length<=3:=by rw [hzs,List.length_append];have:(if tsd es ride day=true then [] else [(3:Int)]).length<=1:=(by split<;>decide);omega
      rw [h24]
      intro _
      refine Ad fun J28 h28=>?_
      have k28:∀ us:List Int,us=b.rsn es ride day->J28 us σ:=by
       rintro us rfl
       rw [h28]
       intro _ A n c σ31 ho
       exact Ah ⟨_,_,_,rfl,ho⟩
      have er:b.rsn es ride day=zs++(if b.ins es ride<day then [4] else []):=by rw [hzs,hys,hxs];rfl
      refine AA (fun e=>Bb (by show zs.length+1<=_;omega) (k28 _ ?_)) (fun e=>k28 _ ?_)
      ·rw [er,if_pos e]
      ·rw [er,if_neg e,List.append_nil]
     refine Bp (fun e=>Bb (by show ys.length+1<=_;omega) (k24 _ ?_)) (fun e=>k24 _ ?_)
     ·rw [e];rfl
     ·rw [e,if_pos rfl,List.append_nil]
    refine Ad fun J34 h34=>?_
    have k34:∀ t,t=!Jt es ride->J34 t σ:=by
     rintro t rfl
     rw [h34]
     intro _
     refine Bp (fun e=>Bb (by show xs.length+1<=_;omega) (k20 _ ?_)) (fun e=>k20 _ ?_)
     ·rw [e];rfl
     ·rw [e,if_pos rfl,List.append_nil]
    have g3:=hcn.2 3 (by omega) (by omega)
    have g2:=hcn.2 2 (by omega) (by omega)
    have p3:=Yd (es:=es) (l:=I2 es es.length) (ride:=ride) (s:=3)
    refine ⟨by decide,by omega,WZ (by decide) (by omega) (AA (fun e=>k34 _ ?_) (fun e=>⟨by decide,by omega,WZ (by decide) (by omega) (k34 _ ?_)⟩))⟩
    ·have:¬ svN es ride (opn es) 3=0:=by
      show ¬ svN es ride (I2 es es.length) 3=0
      omega
     simp [Jt,this]
    ·have e3:svN es ride (opn es) 3=0:=by
      show svN es ride (I2 es es.length) 3=0
      omega
     unfold Jt
     rw [decide_eq_true e3,Bool.true_and,← decide_not]
     rw [g2]
     exact decide_eq_decide.2 (show _↔¬ svN es ride (I2 es es.length) 2<=1 by omega)
   clear h14
   refine ⟨fun m t ins i xs4 τ=>∃ k:Nat,m=es.length-k/\i=k/\k<=es.length/\τ=σ/\t=tsd (es.take k) ride day/\ins=b.ins (es.take k) ride/\PM es ride k xs4,⟨_,0,rfl,rfl,by omega,rfl,rfl,rfl,by simp,fun s h1 h2=>?_⟩,?_⟩
   ·have:s=1∨s=2∨s=3:=by omega
    rcases this with rfl | rfl | rfl<;>rfl
   rintro m t ins i xs4 τ ⟨k,rfl,rfl,hk,rfl,rfl,rfl,hcn⟩ _
   refine AA (fun hlt=>?_) (fun hlt=>?_)
   ·have hkl:k<es.length:=by omega
    have hl4:=hcn.1
    refine Ad fun J48 h48=>?_
    have k48:∀ t ins xs5,t=tsd (es.take (k+1)) ride day->ins=b.ins (es.take (k+1)) ride->PM es ride (k+1) xs5->J48 t ins xs5 τ:=by
     rintro t ins xs5 rfl rfl hc5
     rw [h48]
     intro _
     exact AT (by omega) (A0 _ (by omega) ⟨k+1,rfl,by omega,by omega,rfl,rfl,rfl,hc5⟩)
    have et:tsd (es.take (k+1)) ride day=(tsF ride day (enA es (k:Nat))).getD (tsd (es.take k) ride day):=TK hkl
    have ei:b.ins (es.take (k+1)) ride=(MM ride (enA es (k:Nat))).getD (b.ins (es.take k) ride):=TK hkl
    rw [et,ei] at k48
    clear h48 et ei
    have hsv:=he.s (enA es (k:Nat)) (by rw [En (by simpa using hkl)];exact List.getElem_mem _)
    refine Vm h.e (by omega) (by omega) (Bu (fun e=>k48 _ _ _ ?_ ?_ (hcn.same hkl (.inr e))) (fun e=>QI h.e (by omega) (by omega) (AA (fun e2=>?_) (fun e2=>?_))))
    ·unfold tsF;rw [if_neg e];rfl
    ·unfold MM;rw [if_neg (fun h=>e h.2)];rfl
    ·refine clB GZ (YP h.e (by omega)) (BI (fun e3=>AbH h.e (by omega) (by omega) ?_) (fun e3=>k48 _ _ _ ?_ ?_ (hcn.same hkl (.inl e3))))
     ·have hs:=hsv e2
      have b1:=hcn.2 _ hs.1 hs.2
      have b2:=Yd (es:=es) (l:=I2 es k) (ride:=ride) (s:=(enA es (k:Nat)).2.2.2.1)
      have b3:=Tp es k
      refine ⟨by omega,by omega,WZ (by omega) (by omega) (AT (by omega) ⟨by omega,by omega,WZ (by omega) (by omega) (k48 _ _ _ ?_ ?_ (hcn.more hkl e3 e hs rfl))⟩)⟩
      ·unfold tsF;rw [if_pos e,if_neg (by omega),if_neg (by omega)];rfl
      ·unfold MM;rw [if_neg (by omega)];rfl
     ·unfold tsF;rw [if_pos e,if_neg (by omega),if_neg (by omega)];rfl
     ·unfold MM;rw [if_neg (by omega)];rfl
    ·have hno:TM es (k:Nat)=false:=by rw [XA hkl,decide_eq_false e2];rfl
     have hsame:=hcn.same hkl (ride:=ride) (.inl hno)
     refine AA (fun e4=>?_) (fun e4=>AA (fun e6=>k48 _ _ _ ?_ ?_ hsame) (fun e6=>AA (fun e5=>AbH h.e (by omega) (by omega) (k48 _ _ _ ?_ ?_ hsame)) (fun e5=>k48 _ _ _ ?_ ?_ hsame)))
     ·have hi2:b.ins (es.take k) ride=(MM ride (enA es (k:Nat))).getD (b.ins (es.take k) ride):=by unfold MM;rw [if_neg (by omega)];rfl
      refine BI (fun et=>k48 _ _ _ ?_ hi2 hsame) (fun et=>TA h.e (by omega) (by omega) (k48 _ _ _ ?_ hi2 hsame))
      ·unfold tsF;rw [if_pos e,if_pos e4,et];split<;>rfl
      ·unfold tsF;rw [if_pos e,if_pos e4,et]
       by_cases ed:(enA es (k:Nat)).1=day
       ·rw [if_pos ed];exact decide_eq_true ed
       ·rw [if_neg ed];exact decide_eq_false ed
     ·unfold tsF;rw [if_pos e,if_neg e4,if_pos e6];rfl
     ·unfold MM;rw [if_neg (by omega)];rfl
     ·unfold tsF;rw [if_pos e,if_neg e4,if_neg e6];rfl
     ·unfold MM;rw [if_pos ⟨e5,e⟩];rfl
     ·unfold tsF;rw [if_pos e,if_neg e4,if_neg e6];rfl
     ·unfold MM;rw [if_neg (fun h=>e5 h.1)];rfl
   ·obtain rfl:k=es.length:=by omega
    rw [List.take_length]
    exact k14 _ hcn
  refine Bp (fun e=>FM.2 (Bb (by decide) (k7 _ ?_))) (fun e=>FM.2 (k7 _ ?_))
  ·rw [e];rfl
  ·rw [e];rfl
 refine ⟨fun m t i τ=>∃ k:Nat,m=b.R.length-k/\i=k/\k<=b.R.length/\τ=σ/\t=(List.range k).all (fun r:Nat=>!decide ((b.ru (r:Nat)).1=ride)||b.frc es (r:Nat) day),⟨_,0,rfl,rfl,by omega,rfl,rfl⟩,?_⟩
 rintro m t i τ ⟨k,rfl,rfl,hk,rfl,rfl⟩ _
 refine AA (fun hlt=>?_) (fun hlt=>?_)
 ·have hkl:k<b.R.length:=by omega
  refine Ad fun J88 h88=>?_
  have k88:∀ t,t=((List.range k).all (fun r:Nat=>!decide ((b.ru (r:Nat)).1=ride)||b.frc es (r:Nat) day)&&(!decide ((b.ru (k:Nat)).1=ride)||b.frc es (k:Nat) day))->J88 t τ:=by
   rintro t rfl
   rw [h88]
   intro _
   refine AT (by omega) (A0 _ (by omega) ⟨k+1,rfl,by omega,by omega,rfl,?_⟩)
   rw [List.range_succ,List.all_append]
   simp
  refine BI (fun e=>XM h.b.r (by omega) (by omega) (Bu (fun e2=>k88 _ ?_) (fun e2=>clB NG (Aav h he (by omega) hd) (k88 _ ?_)))) (fun e=>k88 _ ?_)
  ·rw [e];simp [e2]
  ·rw [e];simp [e2]
  ·rw [e];rfl
 ·obtain rfl:k=b.R.length:=by omega
  exact k3
end
end Go.Proofs.YthhadkggldcolaaGreat
