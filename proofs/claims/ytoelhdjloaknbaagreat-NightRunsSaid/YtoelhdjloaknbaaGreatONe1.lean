/- Trimmed by wip/trim.py to what this claim rests on. -/
import Derived.Test.YtoelhdjloaknbaaGreatONa4
import Derived.Test.YtoelhdjloaknbaaGreatOR2
namespace Go.Proofs.YtoelhdjloaknbaaGreat
set_option maxRecDepth 100000
open Go.RowKit
section
variable {σ:Hp} {w:BkW} {E:SL} {b:Bok} {es:List Ent}
theorem SY {n lo hi:Int}:Ad Tryz.prog Gy #[.int .i64 n,.int .i64 lo,.int .i64 hi] σ fun v σ'=>v=.bool (Inn n lo hi)/\σ'=σ:=by
 refine Ov _ _ _ _ _ ?_
 unfold GR
 refine AA (fun h=>Ag ⟨?_,rfl⟩) (fun h=>Ag ⟨?_,rfl⟩)
 ·simp [Inn,h]
 ·simp [Inn,h]
theorem N0 {n lo hi:Int} {K:Bool->Hp->Prop} (h:K (Inn n lo hi) σ):cl Tryz.prog (.func (.func Gy) #[] #[]) #[.int .i64 n,.int .i64 lo,.int .i64 hi] σ fun v σ'=>∃ t:Bool,(v=.bool t/\K t σ'):=clB FB SY h
theorem AcX {n lo hi:Int} {K:Bool->Hp->Prop} (h:K (Inn n lo hi) σ):cl Tryz.prog (.func (.func Gy) #[] #[]) #[.int .i64 n,.int .i64 lo,.int .i64 hi] σ fun v σ'=>∃ t:Bool,(v=.bool t/\(Hp.Sub σ σ'/\K t σ')):=Adl FB SY h
theorem U2 {α:Type} {p:α->Bool} {xs:List α} {k:Nat} (hk:k<xs.length) (h:p xs[k]=false):xs.all p=false:=by
 cases e:xs.all p with
 | false=>rfl
 | true=>
  rw [List.all_eq_true.1 e _ (List.getElem_mem hk)] at h
  cases h
theorem Uw {α:Type} {p:α->Bool} {xs:List α} (h:∀ j,(hj:j<xs.length)->p xs[j]=true):xs.all p=true:=List.all_eq_true.2 fun x hx=>by
 obtain ⟨j,hj,rfl⟩:=List.mem_iff_getElem.1 hx
 exact h j hj
theorem Ug (h:BkR σ w b):Ad Tryz.prog OO #[w.v] σ fun v σ'=>v=.int .i64 b.e/\σ'=σ:=by
 refine Lt _ _ _ _ _ _ _ _ _ _ _ ?_
 unfold En
 have hrn:=h.rn
 have hkn:=h.kn
 have hin:=h.in
 have hini:((w.i.n:Nat):Int)=b.I.length:=by rw [hin]
 have bad:∀ {τ:Hp},b.ok=false->rt τ (fun v σ'=>v=.int .i64 b.e/\σ'=τ) (.int .i64 100):=fun {τ} e=>Ag ⟨by unfold Bok.e;rw [e];rfl,rfl⟩
 refine Ab fun J3 h3=>?_
 have k3:b.R.length<=20->b.K.length<=8->b.I.length<=10->J3 σ:=by
  intro q1 q2 q3
  rw [h3]
  intro _
  refine Ab fun J6 h6=>?_
  have k6:b.R.all b.rulOK=true->J6 σ:=by
   intro q4
   rw [h6]
   intro _
   refine Ab fun J9 h9=>?_
   have k9:b.K.all (Inn · 0 9)=true->J9 σ:=by
    intro q5
    rw [h9]
    intro _
    refine Ab fun J12 h12=>?_
    refine ⟨fun m i τ=>∃ k:Nat,m=b.I.length-k/\i=k/\k<=b.I.length/\τ=σ/\∀ j,(hj:j<b.I.length)->j<k->Inn b.I[j] 0 10000=true,⟨_,0,rfl,rfl,by omega,rfl,fun j _ hj=>by omega⟩,?_⟩
    rintro m i τ ⟨k,rfl,rfl,hk,rfl,hj⟩ _
    refine AA (fun hlt=>?_) (fun hlt=>?_)
    ·have hkl:k<b.I.length:=by omega
     refine DA h.i (by omega) (by omega) (N0 (Bd (fun e=>bad ?_) (fun e=>AL (by omega) (A0 _ (by omega) ⟨k+1,rfl,by omega,by omega,rfl,fun j h1 h2=>?_⟩))))
     ·rw [B9 hkl] at e
      have:b.I.all (Inn · 0 10000)=false:=U2 hkl e
      unfold Bok.ok;rw [this,Bool.and_false]
     ·rw [B9 hkl] at e
      rcases Nat.lt_or_ge j k with h4 | h4
      ·exact hj j h1 h4
      ·obtain rfl:j=k:=by omega
       exact e
    ·rw [h12]
     intro _
     refine Ag ⟨?_,rfl⟩
     have:b.I.all (Inn · 0 10000)=true:=Uw fun j hj2=>hj j hj2 (by omega)
     unfold Bok.e Bok.ok;rw [q4,q5,this,decide_eq_true q1,decide_eq_true q2,decide_eq_true q3];rfl
   clear h9
   refine ⟨fun m i τ=>∃ k:Nat,m=b.K.length-k/\i=k/\k<=b.K.length/\τ=σ/\∀ j,(hj:j<b.K.length)->j<k->Inn b.K[j] 0 9=true,⟨_,0,rfl,rfl,by omega,rfl,fun j _ hj=>by omega⟩,?_⟩
   rintro m i τ ⟨k,rfl,rfl,hk,rfl,hj⟩ _
   refine AA (fun hlt=>?_) (fun hlt=>k9 (Uw fun j hj2=>hj j hj2 (by omega)))
   have hkl:k<b.K.length:=by omega
   refine DA h.k (by omega) (by omega) (N0 (Bd (fun e=>bad ?_) (fun e=>AL (by omega) (A0 _ (by omega) ⟨k+1,rfl,by omega,by omega,rfl,fun j h1 h2=>?_⟩))))
   ·rw [B9 hkl] at e
    have:b.K.all (Inn · 0 9)=false:=U2 hkl e
    unfold Bok.ok;rw [this,Bool.and_false];rfl
   ·rw [B9 hkl] at e
    rcases Nat.lt_or_ge j k with h4 | h4
    ·exact hj j h1 h4
    ·obtain rfl:j=k:=by omega
     exact e
  clear h6
  refine ⟨fun m i τ=>∃ k:Nat,m=b.R.length-k/\i=k/\k<=b.R.length/\τ=σ/\∀ j,(hj:j<b.R.length)->j<k->b.rulOK b.R[j]=true,⟨_,0,rfl,rfl,by omega,rfl,fun j _ hj=>by omega⟩,?_⟩
  rintro m i τ ⟨k,rfl,rfl,hk,rfl,hj⟩ _
  refine AA (fun hlt=>?_) (fun hlt=>k6 (Uw fun j hj2=>hj j hj2 (by omega)))
  have hkl:k<b.R.length:=by omega
  refine Ab fun J48 h48=>Xe h.r (by omega) (by omega) fun r hr=>?_
  simp only [Int.toNat_natCast] at hr
  refine Ab fun J60 h60=>?_
  have k60:∀ t,t=!b.rulOK r->J60 t τ:=by
   rintro t rfl
   rw [h60]
   intro _
   refine Bd (fun e=>bad ?_) (fun e=>?_)
   ·have:b.R.all b.rulOK=false:=U2 hkl (by rw [hr];exact e)
    unfold Bok.ok;rw [this,Bool.and_false];rfl
   ·rw [h48]
    intro _
    refine AL (by omega) (A0 _ (by omega) ⟨k+1,rfl,by omega,by omega,rfl,fun j h1 h2=>?_⟩)
    rcases Nat.lt_or_ge j k with h4 | h4
    ·exact hj j h1 h4
    ·obtain rfl:j=k:=by omega
     rw [hr];exact e
  clear h60 h48
  refine AL (by omega) ?_
  rw [hini]
  refine N0 (Bd (fun e=>k60 _ ?_) (fun e1=>N0 (Bd (fun e=>k60 _ ?_) (fun e2=>N0 (k60 _ ?_)))))
  ·simp [Bok.rulOK,e]
  ·simp [Bok.rulOK,e]
  ·simp [Bok.rulOK,e1,e2]
 clear h3
 refine Ab fun J74 h74=>?_
 have k74:∀ t,t=!(decide (b.R.length<=20)&&decide (b.K.length<=8)&&decide (b.I.length<=10))->J74 t σ:=by
  rintro t rfl
  rw [h74]
  intro _
  refine Bd (fun e=>bad ?_) (fun e=>?_)
  ·unfold Bok.ok;rw [e];rfl
  ·simp only [Bool.and_eq_true,decide_eq_true_eq] at e
   exact k3 e.1.1 e.1.2 e.2
 refine AA (fun h1=>k74 _ ?_) (fun h1=>AA (fun h2=>k74 _ ?_) (fun h2=>k74 _ ?_))
 ·have:¬ b.R.length<=20:=by omega
  simp [this]
 ·have:¬ b.K.length<=8:=by omega
  simp [this]
 ·have e1:b.R.length<=20:=by omega
  have e2:b.K.length<=8:=by omega
  rw [hin]
  simp only [e1,e2,decide_true,Bool.true_and]
  rw [← decide_not]
  exact decide_eq_decide.2 (by omega)
theorem Z4 (h:BkR σ w b) (hb:b.ok=true) {r x y:Int} (hr:0<=r/\r<b.R.length):Ad Tryz.prog SN #[w.v,.int .i64 r,.int .i64 x,.int .i64 y] σ fun v σ'=>v=.bool (b.sgn r x y)/\σ'=σ:=by
 refine Po _ _ _ _ _ _ _ _ _ _ _ _ _ _ ?_
 unfold HJ
 have hrn:=h.rn
 have hkn:=h.kn
 have hkni:((w.k.n:Nat):Int)=b.K.length:=by rw [hkn]
 have hK:=(Bok.ok_spec hb).2.1
 refine Xe h.r hr.1 (by omega) fun q hq=>?_
 have er:b.ru r=q:=by rw [Bok.ru_eq (by omega)];exact hq
 refine Ab fun J9 h9=>Ab fun J19 h19=>?_
 have k19:∀ t,t=!b.may r x->J19 t σ:=by
  rintro t rfl
  rw [h19]
  intro _
  refine Bd (fun e=>Ag ⟨?_,rfl⟩) (fun e=>?_)
  ·unfold Bok.sgn;rw [e];simp
  rw [h9]
  intro _
  refine Bd (fun e2=>Ag ⟨?_,rfl⟩) (fun e2=>AL (by omega) ?_)
  ·unfold Bok.sgn;rw [er,e2,e];simp
  have es':b.sgn r x y=(b.may r y && !decide (x=y)):=by unfold Bok.sgn;rw [er,e2,if_pos rfl,e,Bool.true_and]
  rw [hkni]
  refine N0 (B0 (fun e3=>Bi (fun e4=>?_) (fun e4=>Ag ⟨?_,rfl⟩)) (fun e3=>Ag ⟨?_,rfl⟩))
  ·have:=Kd e3
   refine DA h.k (by omega) (by omega) (Ag ⟨?_,rfl⟩)
   have e5:¬ x=y:=fun a=>e4 a.symm
   rw [es']
   unfold Bok.may Bok.per
   rw [e3,er]
   simp [e5]
  ·rw [es',e4];simp
  ·rw [es']
   unfold Bok.may Bok.per
   rw [e3];simp
 refine AL (by omega) ?_
 rw [hkni]
 refine N0 (Bd (fun e=>k19 _ ?_) (fun e=>?_))
 ·unfold Bok.may Bok.per;rw [e];simp
 ·have:=Kd e
  refine DA h.k (by omega) (by omega) (k19 _ ?_)
  unfold Bok.may Bok.per
  rw [e,er,Bool.true_and,← decide_not]
  exact decide_eq_decide.2 (by omega)
def RU (es:List Ent) (n:Int):Bool:=Inn n 0 ((es.length:Int)-1)&&decide ((enA es n).2.1=2) && !mnd es n
theorem Uu {A:Option Addr} {n:Nat} {xs:List Ent} {i:Int} {K:Int->Prop} (h:RdS sEn σ A n xs) (hi:0<=i) (hn:i.toNat<xs.length) (hk:K (enA xs i).2.2.1):ix A n i 5 fun b a=>ldI σ .i64 b (a+2) K:=by
 refine CT (ss:=sEn) h rfl hi hn fun b o hc=>Bq (hc 2 (by decide)) ?_
 rw [DQ hn] at hk
 exact hk
theorem YX {A:Option Addr} {n:Nat} {xs:List Ent} {i:Int} {K:Int->Prop} (h:RdS sEn σ A n xs) (hi:0<=i) (hn:i.toNat<xs.length) (hk:K (enA xs i).2.2.2.1):ix A n i 5 fun b a=>ldI σ .i64 b (a+3) K:=by
 refine CT (ss:=sEn) h rfl hi hn fun b o hc=>Bq (hc 3 (by decide)) ?_
 rw [DQ hn] at hk
 exact hk
theorem Ac2 {n:Int} (h:∀ j,j<es.length->(decide ((enA es (j:Nat)).2.1=3)&&decide ((enA es (j:Nat)).2.2.1=n))=false):mnd es n=false:=by
 unfold mnd
 rw [List.any_eq_false]
 intro x hx
 obtain ⟨j,hj,rfl⟩:=List.mem_iff_getElem.1 hx
 have:=h j hj
 rw [DQ (by simpa using hj)] at this
 simp only [Int.toNat_natCast] at this
 simp [this]
theorem Ac0 {n:Int} {j:Nat} (hj:j<es.length) (h:(decide ((enA es (j:Nat)).2.1=3)&&decide ((enA es (j:Nat)).2.2.1=n))=true):mnd es n=true:=by
 unfold mnd
 rw [List.any_eq_true]
 refine ⟨es[j],List.getElem_mem hj,?_⟩
 rw [DQ (by simpa using hj)] at h
 simpa using h
theorem Xn {A:Option Addr} {ne c:Nat} (h:RdS sEn σ A ne es) (hl:es.length<=4294967296) {n:Int}:Ad Tryz.prog T4 #[.slice A ne c,.int .i64 n] σ fun v σ'=>v=.bool (RU es n)/\σ'=σ:=by
 refine QO _ _ _ _ _ _ ?_
 unfold JS
 have hen:ne=es.length:=h.1
 have heni:((ne:Nat):Int)=es.length:=by rw [hen]
 refine Ab fun J3 h3=>Ab fun J30 h30=>?_
 have k30:∀ t,t=!(Inn n 0 ((es.length:Int)-1)&&decide ((enA es n).2.1=2))->J30 t σ:=by
  rintro t rfl
  rw [h30]
  intro _
  refine Bd (fun e=>Ag ⟨?_,rfl⟩) (fun e=>?_)
  ·unfold RU;rw [e];rfl
  have eo:RU es n=!mnd es n:=by unfold RU;rw [e,Bool.true_and]
  rw [h3]
  intro _
  refine Ab fun J6 h6=>?_
  refine ⟨fun m i τ=>∃ k:Nat,m=es.length-k/\i=k/\k<=es.length/\τ=σ/\∀ j,j<k->(decide ((enA es (j:Nat)).2.1=3)&&decide ((enA es (j:Nat)).2.2.1=n))=false,⟨_,0,rfl,rfl,by omega,rfl,fun j hj=>by omega⟩,?_⟩
  rintro m i τ ⟨k,rfl,rfl,hk,rfl,hj⟩ _
  refine AA (fun hlt=>?_) (fun hlt=>?_)
  ·have hkl:k<es.length:=by omega
   refine Ab fun J14 h14=>Ab fun J20 h20=>?_
   have k20:∀ t,t=(decide ((enA es (k:Nat)).2.1=3)&&decide ((enA es (k:Nat)).2.2.1=n))->J20 t τ:=by
    rintro t rfl
    rw [h20]
    intro _
    refine B0 (fun e=>Ag ⟨?_,rfl⟩) (fun e=>?_)
    ·rw [eo,Ac0 hkl e];rfl
    ·rw [h14]
     intro _
     refine AL (by omega) (A0 _ (by omega) ⟨k+1,rfl,by omega,by omega,rfl,fun j h1=>?_⟩)
     rcases Nat.lt_or_ge j k with h4 | h4
     ·exact hj j h4
     ·obtain rfl:j=k:=by omega
      exact e
   refine P8 h (by omega) (by omega) (AA (fun e=>Uu h (by omega) (by omega) (k20 _ ?_)) (fun e=>k20 _ ?_))
   ·simp [e]
   ·simp [e]
  ·obtain rfl:k=es.length:=by omega
   rw [h6]
   intro _
   refine Ag ⟨?_,rfl⟩
   rw [eo,Ac2 hj];rfl
 refine AL (by omega) ?_
 rw [heni]
 refine N0 (Bd (fun e=>k30 _ ?_) (fun e=>?_))
 ·rw [e];rfl
 ·have:=Kd e
  refine P8 h (by omega) (by omega) (k30 _ ?_)
  rw [e,Bool.true_and]
theorem ZX (h:LgR σ w E b es) (hb:b.ok=true) (hl:es.length<=4294967296) {x:Ent}:Ad Tryz.prog SJ #[w.v,E.v,enV x] σ fun v σ'=>v=.bool (b.rgt es x)/\σ'=σ:=by
 refine P9 _ _ _ _ _ _ _ _ _ _ _ _ _ _ _ _ _ _ _ ?_
 unfold H1
 have hen:E.n=es.length:=h.e.1
 have heni:((E.n:Nat):Int)=es.length:=by rw [hen]
 have hrni:((w.r.n:Nat):Int)=b.R.length:=by rw [h.b.rn]
 have hkni:((w.k.n:Nat):Int)=b.K.length:=by rw [h.b.kn]
 have hini:((w.i.n:Nat):Int)=b.I.length:=by rw [h.b.in]
 obtain ⟨hR,hK,hI,_⟩:=Bok.ok_spec hb
 refine Ab fun J3 h3=>?_
 have k3:J3 (Of es) σ:=by
  rw [h3]
  intro _
  refine N0 (Bd (fun e=>Ag ⟨?_,rfl⟩) (fun e=>?_))
  ·unfold Bok.rgt;rw [e];rfl
  have e0:b.rgt es x=if x.2.1=1 then Inn x.2.2.1 0 ((b.R.length:Int)-1)&&b.sgn x.2.2.1 x.2.2.2.1 x.2.2.2.2
   else if x.2.1=2 then b.rid x.2.2.1&&Inn x.2.2.2.1 1 3&&decide (x.2.2.2.2=0)
   else if x.2.1=3 then Inn x.2.2.1 0 ((es.length:Int)-1)&&decide ((enA es x.2.2.1).2.1=2) && !mnd es x.2.2.1&&b.per x.2.2.2.1&&decide (x.2.2.2.2=0)
   else if x.2.1=4 then b.rid x.2.2.1&&b.per x.2.2.2.1&&decide (x.2.2.2.2=0)
   else if x.2.1=5 then b.rid x.2.2.1&&Inn x.2.2.2.1 0 10000&&decide (x.2.2.2.2=0)
   else if x.2.1=6 then b.rid x.2.2.1&&decide (x.2.2.2.1=0)&&decide (x.2.2.2.2=0) else false:=by
   unfold Bok.rgt;rw [e,Bool.true_and]
  rw [e0]
  refine AL (by omega) (AL (by omega) ?_)
  rw [hini,hkni]
  refine AcX (N0 ?_)
  change bc _ _ _
  refine AA (fun a=>?_) (fun a=>?_)
  ·rw [if_pos a]
   refine AL (by omega) ?_
   rw [hrni]
   refine N0 (B0 (fun e2=>?_) (fun e2=>Ag ⟨?_,rfl⟩))
   ·have:=Kd e2
    refine clB Mj (Z4 h.b hb (by omega)) (Ag ⟨?_,rfl⟩)
    rw [e2,Bool.true_and]
   ·rw [e2];rfl
  rw [if_neg a]
  refine AA (fun a2=>?_) (fun a2=>?_)
  ·rw [if_pos a2]
   refine B0 (fun e2=>N0 (B0 (fun e3=>Ag ⟨?_,rfl⟩) (fun e3=>Ag ⟨?_,rfl⟩))) (fun e2=>Ag ⟨?_,rfl⟩)
   ·rw [show b.rid x.2.2.1=true from e2,e3];rfl
   ·rw [e3];simp
   ·rw [show b.rid x.2.2.1=false from e2];rfl
  rw [if_neg a2]
  refine AA (fun a3=>?_) (fun a3=>?_)
  ·rw [if_pos a3]
   have eo:(Inn x.2.2.1 0 ((es.length:Int)-1)&&decide ((enA es x.2.2.1).2.1=2) && !mnd es x.2.2.1&&b.per x.2.2.2.1&&decide (x.2.2.2.2=0))=(RU es x.2.2.1&&b.per x.2.2.2.1&&decide (x.2.2.2.2=0)):=rfl
   rw [eo]
   refine clB GU (Xn h.e hl) (B0 (fun e2=>B0 (fun e3=>Ag ⟨?_,rfl⟩) (fun e3=>Ag ⟨?_,rfl⟩)) (fun e2=>Ag ⟨?_,rfl⟩))
   ·rw [e2,show b.per x.2.2.2.1=true from e3];rfl
   ·rw [e2,show b.per x.2.2.2.1=false from e3];rfl
   ·rw [e2];rfl
  rw [if_neg a3]
  refine AA (fun a4=>?_) (fun a4=>?_)
  ·rw [if_pos a4]
   refine B0 (fun e2=>B0 (fun e3=>Ag ⟨?_,rfl⟩) (fun e3=>Ag ⟨?_,rfl⟩)) (fun e2=>Ag ⟨?_,rfl⟩)
   ·rw [show b.rid x.2.2.1=true from e2,show b.per x.2.2.2.1=true from e3];rfl
   ·rw [show b.rid x.2.2.1=true from e2,show b.per x.2.2.2.1=false from e3];rfl
   ·rw [show b.rid x.2.2.1=false from e2];rfl
  rw [if_neg a4]
  refine AA (fun a5=>?_) (fun a5=>?_)
  ·rw [if_pos a5]
   refine B0 (fun e2=>N0 (B0 (fun e3=>Ag ⟨?_,rfl⟩) (fun e3=>Ag ⟨?_,rfl⟩))) (fun e2=>Ag ⟨?_,rfl⟩)
   ·rw [show b.rid x.2.2.1=true from e2,e3];rfl
   ·rw [e3];simp
   ·rw [show b.rid x.2.2.1=false from e2];rfl
  rw [if_neg a5]
  refine AA (fun a6=>?_) (fun a6=>?_)
  ·rw [if_pos a6]
   refine B0 (fun e2=>AA (fun e3=>Ag ⟨?_,rfl⟩) (fun e3=>Ag ⟨?_,rfl⟩)) (fun e2=>Ag ⟨?_,rfl⟩)
   ·rw [show b.rid x.2.2.1=true from e2,decide_eq_true e3];rfl
   ·rw [show b.rid x.2.2.1=true from e2,decide_eq_false e3];rfl
   ·rw [show b.rid x.2.2.1=false from e2];rfl
  rw [if_neg a6]
  exact Ag ⟨rfl,rfl⟩
 have hlast:Of es=if 0<es.length then (enA es ((es.length:Int)-1)).1 else 0:=rfl
 refine AA (fun a=>AL (by omega) ?_) (fun a=>?_)
 ·rw [if_pos (by omega)] at hlast
  rw [hlast] at k3
  rw [heni]
  exact RT h.e (by omega) (by omega) k3
 ·rw [if_neg (by omega)] at hlast
  rw [hlast] at k3
  exact k3
theorem UN (h:LgR σ w E b es) (hc:E.n<=E.c):Ad Tryz.prog SA #[w.v,E.v] σ fun v σ'=>v=.tuple #[.int .i64 (b.chk es).1,.int .i64 (b.chk es).2]/\σ'=σ:=by
 refine P4 _ _ _ _ _ _ _ _ _ _ _ _ _ _ ?_
 unfold HO
 have hen:E.n=es.length:=h.e.1
 refine clI Io (Ug h.b) (Bi (fun e=>Ag ⟨?_,rfl⟩) (fun e=>?_))
 ·unfold Bok.chk;rw [if_neg e]
 have hok:=Bok.e0 e
 refine AA (fun a=>Ag ⟨?_,rfl⟩) (fun a=>?_)
 ·unfold Bok.chk;rw [if_pos e,if_pos (by omega)]
 have e1:b.chk es=if 0<=b.bad es then (b.bad es,101) else (0,0):=by unfold Bok.chk;rw [if_pos e,if_neg (by omega)]
 refine Ab fun J6 h6=>?_
 refine ⟨fun m i τ=>∃ k:Nat,m=es.length-k/\i=k/\k<=es.length/\τ=σ/\∀ j,j<k->b.rgt (es.take j) (enA es (j:Nat))=true,⟨_,0,rfl,rfl,by omega,rfl,fun j hj=>by omega⟩,?_⟩
 rintro m i τ ⟨k,rfl,rfl,hk,rfl,hj⟩ _
 refine AA (fun hlt=>⟨by omega,by omega,?_⟩) (fun hlt=>?_)
 ·have hkl:k<es.length:=by omega
  refine Tj h.e (by omega) (by omega) fun r hr=>?_
  have hrk:enA es (k:Nat)=r:=by rw [DQ (by simpa using hkl)];exact hr
  have htl:(es.take k).length=k:=by simp;omega
  rw [Int.toNat_natCast]
  have h2:k<=E.n:=by omega
  refine clB Mf (ZX (x:=r) (E:=⟨E.A,k,E.c⟩) (es:=es.take k) ⟨h.b,h.e.tk h2⟩ hok (by omega)) (Bd (fun g=>Ag ⟨?_,rfl⟩) (fun g=>AL (by omega) (A0 _ (by omega) ⟨k+1,rfl,by omega,by omega,rfl,fun j h1=>?_⟩)))
  ·have hb:b.bad es=k:=Bok.bad_at hkl (by rw [hrk];exact g) hj
   rw [e1,hb,if_pos (by omega)]
  ·rcases Nat.lt_or_ge j k with h2 | h2
   ·exact hj j h2
   ·obtain rfl:j=k:=by omega
    rw [hrk];exact g
 ·obtain rfl:k=es.length:=by omega
  rw [h6]
  intro _
  have hb:=Bok.bad_no hj
  exact Ag ⟨by rw [e1,hb];rfl,rfl⟩
theorem UF (h:LgR σ w E b es) (hc:E.n<=E.c) {day:Int}:Ad Tryz.prog PF #[w.v,E.v,.int .i64 day] σ fun v σ'=>v=.int .i64 (b.dayE es day)/\σ'=σ:=by
 refine Ma _ _ _ _ _ _ _ _ _ _ _ _ _ _ _ ?_
 unfold Fg
 refine Bg F3 (UN h hc) ?_
 rintro v σ' ⟨rfl,rfl⟩
 refine ⟨_,_,rfl,Bi (fun e=>Ag ⟨?_,rfl⟩) (fun e=>N0 (Bd (fun e2=>Ag ⟨?_,rfl⟩) (fun e2=>Ag ⟨?_,rfl⟩)))⟩
 ·unfold Bok.dayE;rw [if_neg e]
 ·unfold Bok.dayE;rw [if_pos e,e2];rfl
 ·unfold Bok.dayE;rw [if_pos e,e2];rfl
theorem Abs {day:Int}:es.findIdx (fun x=>decide (day<x.1))<=es.length:=List.findIdx_le_length
theorem Abr {A:Option Addr} {ne c:Nat} (h:RdS sEn σ A ne es) (hc:ne<=c) (hl:es.length<=4294967296) {day:Int}:Ad Tryz.prog Ty #[.slice A ne c,.int .i64 day] σ fun v σ'=>σ'=σ/\∃ n,v=.slice A n c/\n<=c/\RdS sEn σ A n (Bok.upE es day):=by
 refine Rg _ _ _ _ _ _ ?_
 unfold I1
 have hen:ne=es.length:=h.1
 refine Ab fun J3 h3=>?_
 have k3:∀ k:Nat,k=es.findIdx (fun x=>decide (day<x.1))->J3 (k:Nat) σ:=by
  rintro k rfl
  rw [h3]
  intro _
  have:=Abs (es:=es) (day:=day)
  refine ⟨by omega,by omega,Ag ⟨rfl,_,rfl,by omega,?_⟩⟩
  rw [Int.toNat_natCast]
  have h2:List.findIdx (fun x:Ent=>decide (day<x.1)) es<=ne:=by omega
  exact h.tk h2
 refine ⟨fun m i τ=>∃ k:Nat,m=es.length-k/\i=k/\k<=es.length/\τ=σ/\∀ j,(hj:j<es.length)->j<k->decide (day<es[j].1)=false,⟨_,0,rfl,rfl,by omega,rfl,fun j _ hj=>by omega⟩,?_⟩
 rintro m i τ ⟨k,rfl,rfl,hk,rfl,hj⟩ _
 refine Ab fun J12 h12=>Ab fun J18 h18=>?_
 refine AA (fun hlt=>?_) (fun hlt=>?_)
 ·have hkl:k<es.length:=by omega
  refine RT h (by omega) (by omega) ?_
  rw [DQ (by simpa using hkl)]
  simp only [Int.toNat_natCast]
  rw [h18]
  intro _
  refine AA (fun e=>?_) (fun e=>k3 k ?_)
  ·rw [h12]
   intro _
   refine AL (by omega) (A0 _ (by omega) ⟨k+1,rfl,by omega,by omega,rfl,fun j h1 h2=>?_⟩)
   rcases Nat.lt_or_ge j k with h4 | h4
   ·exact hj j h1 h4
   ·obtain rfl:j=k:=by omega
    exact decide_eq_false (by omega)
  ·symm
   exact (List.findIdx_eq hkl).2 ⟨decide_eq_true (by omega),fun j hjk=>hj j (by omega) hjk⟩
 ·obtain rfl:k=es.length:=by omega
  rw [h18]
  intro _
  refine k3 _ ?_
  symm
  refine List.findIdx_eq_length.2 fun x hx=>?_
  obtain ⟨j,hj2,rfl⟩:=List.mem_iff_getElem.1 hx
  exact hj j hj2 hj2
end
end Go.Proofs.YtoelhdjloaknbaaGreat
namespace Go.Proofs.YtoelhdjloaknbaaGreat
set_option maxRecDepth 100000
open Go.RowKit
def Bok.frc (b:Bok) (es:List Ent) (r day:Int):Bool:=decide (0<=lst (ckP r) (b.ru r).1 es)&&decide (day-lst (ckP r) (b.ru r).1 es<(b.ru r).2.1)
def Bok.chd (b:Bok) (es:List Ent) (ride day:Int):Bool:=(List.range b.R.length).all fun r:Nat=>!decide ((b.ru (r:Nat)).1=ride)||b.frc es (r:Nat) day
def tsF (ride day:Int) (x:Ent):Option Bool:=if x.2.2.1=ride then if x.2.1=4 then if x.1=day then some true else none else if x.2.1=6 then some false else none else none
def tsd (es:List Ent) (ride day:Int):Bool:=scn (tsF ride day) false es
def Bok.rsn (b:Bok) (es:List Ent) (ride day:Int):List Int:=
 (((if b.chd es ride day then [] else [1])++(if IE es ride then [] else [2]))++(if tsd es ride day then [] else [3]))++(if b.ins es ride<day then [4] else [])
theorem R6 {α:Type} {f:Ent->Option α} {d:α} {es:List Ent} {k:Nat} (hk:k<es.length):scn f d (es.take (k+1))=(f (enA es (k:Nat))).getD (scn f d (es.take k)):=by
 rw [List.take_succ_eq_append_getElem hk,IP,DQ (by simpa using hk)]
 rfl
section
variable {σ:Hp} {w:BkW} {E:SL} {b:Bok} {es:List Ent}
theorem Aak (h:LgR σ w E b es) (he:Nj es) {r day:Int} (hr:0<=r/\r<b.R.length) (hd:0<=day/\day<=10000):Ad Tryz.prog SF #[w.v,E.v,.int .i64 r,.int .i64 day] σ fun v σ'=>v=.bool (b.frc es r day)/\σ'=σ:=by
 refine Ql _ _ _ _ _ _ _ _ _ _ _ _ _ _ _ _ ?_
 unfold HT
 have hen:E.n=es.length:=h.e.1
 have hrn:=h.b.rn
 have hn:=he.n
 refine Ab fun J3 h3=>?_
 refine ⟨fun m l i τ=>∃ k:Nat,m=es.length-k/\i=k/\k<=es.length/\τ=σ/\l=lst (ckP r) (b.ru r).1 (es.take k),⟨_,0,rfl,rfl,by omega,rfl,rfl⟩,?_⟩
 rintro m l i τ ⟨k,rfl,rfl,hk,rfl,rfl⟩ _
 refine AA (fun hlt=>?_) (fun hlt=>?_)
 ·have hkl:k<es.length:=by omega
  have e1:lst (ckP r) (b.ru r).1 (es.take (k+1))=(Fw (ckP r) (b.ru r).1 (enA es (k:Nat))).getD (lst (ckP r) (b.ru r).1 (es.take k)):=R6 hkl
  refine Ab fun J17 h17=>?_
  have k17:J17 (lst (ckP r) (b.ru r).1 (es.take (k+1))) τ:=by
   rw [h17]
   intro _
   exact AL (by omega) (A0 _ (by omega) ⟨k+1,rfl,by omega,by omega,rfl,rfl⟩)
  rw [e1] at k17
  refine Ab fun J24 h24=>?_
  have k24:∀ n,n=(if ckP r (enA es (k:Nat)) then (enA es (k:Nat)).1 else lst (ckP r) (b.ru r).1 (es.take k))->J24 n τ:=by
   rintro n rfl
   rw [h24]
   intro _
   refine Ab fun J28 h28=>?_
   have k28:∀ t,t=decide ((enA es (k:Nat)).2.1=6/\(enA es (k:Nat)).2.2.1=(b.ru r).1)->J28 t τ:=by
    rintro t rfl
    rw [h28]
    intro _
    unfold Fw at k17
    refine AA (fun e=>?_) (fun e=>?_)
    ·have:ckP r (enA es (k:Nat))=false:=by unfold ckP;rw [e.1];simp
     rw [this,if_neg (by decide),if_pos e] at k17
     exact k17
    ·split
     ·rename_i e2
      rw [if_pos e2] at k17
      exact k17
     ·rename_i e2
      rw [if_neg e2,if_neg e] at k17
      exact k17
   refine P8 h.e (by omega) (by omega) (AA (fun e=>Uu h.e (by omega) (by omega) (Wo h.b.r hr.1 (by omega) (k28 _ ?_))) (fun e=>k28 _ ?_))
   ·simp [e]
   ·simp [e]
  refine Ab fun J41 h41=>?_
  have k41:∀ t,t=ckP r (enA es (k:Nat))->J41 t τ:=by
   rintro t rfl
   rw [h41]
   intro _
   refine B0 (fun e=>RT h.e (by omega) (by omega) (k24 _ ?_)) (fun e=>k24 _ ?_)
   ·rw [if_pos e]
   ·rw [e];rfl
  refine P8 h.e (by omega) (by omega) (AA (fun e=>Uu h.e (by omega) (by omega) (k41 _ ?_)) (fun e=>k41 _ ?_))
  ·simp [ckP,e]
  ·simp [ckP,e]
 ·obtain rfl:k=es.length:=by omega
  rw [h3,List.take_length]
  intro _
  have:=Aag he (p:=ckP r) (ride:=(b.ru r).1)
  refine AA (fun e=>AL (by omega) (YE h.b.r hr.1 (by omega) (Ag ⟨?_,rfl⟩))) (fun e=>Ag ⟨?_,rfl⟩)
  ·unfold Bok.frc;rw [decide_eq_true e,Bool.true_and]
  ·unfold Bok.frc;rw [decide_eq_false e,Bool.false_and]
def Oi (es:List Ent) (ride:Int) (k:Nat) (xs:List Int):Prop:=xs.length=4/\∀ s:Int,1<=s->s<=3->gt xs s=svN es ride (II es k) s
theorem US {k:Nat} (hk:k<es.length):RU es (k:Nat)=(decide ((enA es (k:Nat)).2.1=2) && !mnd es (k:Nat)):=by
 unfold RU Inn
 have:(0:Int)<=(k:Nat)/\((k:Nat):Int)<=(es.length:Int)-1:=by omega
 rw [decide_eq_true this,Bool.true_and]
theorem Tq {k:Nat} (hk:k<es.length):II es (k+1)=if RU es (k:Nat)=true then II es k++[(k:Int)] else II es k:=by
 rw [Tk,US hk]
 by_cases h:(enA es (k:Nat)).2.1=2
 ·cases e:mnd es (k:Nat)<;>simp [h]
 ·simp [h]
theorem Oi.same {ride:Int} {k:Nat} {xs:List Int} (hk:k<es.length) (h:Oi es ride k xs) (hn:RU es (k:Nat)=false∨¬ (enA es (k:Nat)).2.2.1=ride):Oi es ride (k+1) xs:=by
 refine ⟨h.1,fun s h1 h2=>?_⟩
 rw [h.2 s h1 h2,Tq hk]
 split
 ·rename_i e
  rw [Su]
  rcases hn with hn | hn
  ·rw [hn] at e;cases e
  ·have:svP es ride s (k:Nat)=false:=by simp [svP,hn]
   rw [this];rfl
 ·rfl
theorem Oi.more {ride v:Int} {k:Nat} {xs:List Int} (hk:k<es.length) (h:Oi es ride k xs) (ho:RU es (k:Nat)=true) (hr:(enA es (k:Nat)).2.2.1=ride) (hs:1<=(enA es (k:Nat)).2.2.2.1/\(enA es (k:Nat)).2.2.2.1<=3) (hv:v=gt xs (enA es (k:Nat)).2.2.2.1+1):
  Oi es ride (k+1) (xs.set (enA es (k:Nat)).2.2.2.1.toNat v):=by
 have hl:=h.1
 refine ⟨by simpa using h.1,fun s h1 h2=>?_⟩
 rw [Tq hk,if_pos ho,Su,AbT (by omega) (by omega) (by omega)]
 by_cases e:s=(enA es (k:Nat)).2.2.2.1
 ·rw [if_pos e]
  have:svP es ride s (k:Nat)=true:=by simp [svP,hr,e]
  rw [this,hv,← e,h.2 s h1 h2];rfl
 ·rw [if_neg e,h.2 s h1 h2]
  have e':¬ (enA es (k:Nat)).2.2.2.1=s:=fun h=>e h.symm
  have:svP es ride s (k:Nat)=false:=by simp [svP,e']
  rw [this];rfl
theorem WN (h:LgR σ w E b es) (hb:b.ok=true) (he:Nj es) {ride day:Int} (hr:0<=ride/\ride<b.I.length) (hd:0<=day/\day<=10000):
  Ad Tryz.prog QP #[w.v,E.v,.int .i64 ride,.int .i64 day] σ (VX 3 [.int .i64] σ (b.rsn es ride day)):=by
 refine Np _ _ _ _ _ _ _ _ _ _ _ _ _ _ _ _ ?_
 unfold FU
 have hen:E.n=es.length:=h.e.1
 have hrn:=h.b.rn
 have hn:=he.n
 have h20:=(Bok.ok_spec hb).1
 refine Ab fun J3 h3=>?_
 have k3:J3 (b.chd es ride day) σ:=by
  rw [h3]
  intro _
  refine Ab fun J7 h7=>?_
  have k7:∀ xs:List Int,xs=(if b.chd es ride day then [] else [1])->J7 xs σ:=by
   intro xs hxs
   have hxl:xs.length<=1:=by rw [hxs];split<;>decide
   rw [h7]
   intro _
   refine ⟨by decide,by decide,by decide,DA h.b.i hr.1 hr.2 (Ab fun J14 h14=>?_)⟩
   have k14:∀ xs4,Oi es ride es.length xs4->J14 (tsd es ride day) (b.ins es ride) xs4 σ:=by
    intro xs4 hcn
    have hl4:=hcn.1
    rw [h14]
    intro _
    refine Ab fun J20 h20=>?_
    have k20:∀ ys:List Int,ys=xs++(if IE es ride then [] else [2])->J20 ys σ:=by
     intro ys hys
     have hyl:ys.length<=2:=by rw [hys,List.length_append];have:(if IE es ride=true then [] else [(2:Int)]).length<=1:=(by split<;>decide);omega
     rw [h20]
     intro _
     refine Ab fun J24 h24=>?_
     have k24:∀ zs:List Int,zs=ys++(if tsd es ride day then [] else [3])->J24 zs σ:=by
      intro zs hzs
      have hzl:zs.length<=3:=by rw [hzs,List.length_append];have:(if tsd es ride day=true then [] else [(3:Int)]).length<=1:=(by split<;>decide);omega
      rw [h24]
      intro _
      refine Ab fun J28 h28=>?_
      have k28:∀ us:List Int,us=b.rsn es ride day->J28 us σ:=by
       rintro us rfl
       rw [h28]
       intro _ A n c σ31 ho
       exact Ag ⟨_,_,_,rfl,ho⟩
      have er:b.rsn es ride day=zs++(if b.ins es ride<day then [4] else []):=by rw [hzs,hys,hxs];rfl
      refine AA (fun e=>Be (by show zs.length+1<=_;omega) (k28 _ ?_)) (fun e=>k28 _ ?_)
      ·rw [er,if_pos e]
      ·rw [er,if_neg e,List.append_nil]
     refine Bd (fun e=>Be (by show ys.length+1<=_;omega) (k24 _ ?_)) (fun e=>k24 _ ?_)
     ·rw [e];rfl
     ·rw [e,if_pos rfl,List.append_nil]
    refine Ab fun J34 h34=>?_
    have k34:∀ t,t=!IE es ride->J34 t σ:=by
     rintro t rfl
     rw [h34]
     intro _
     refine Bd (fun e=>Be (by show xs.length+1<=_;omega) (k20 _ ?_)) (fun e=>k20 _ ?_)
     ·rw [e];rfl
     ·rw [e,if_pos rfl,List.append_nil]
    have g3:=hcn.2 3 (by omega) (by omega)
    have g2:=hcn.2 2 (by omega) (by omega)
    have p3:=WP (es:=es) (l:=II es es.length) (ride:=ride) (s:=3)
    refine ⟨by decide,by omega,Xr (by decide) (by omega) (AA (fun e=>k34 _ ?_) (fun e=>⟨by decide,by omega,Xr (by decide) (by omega) (k34 _ ?_)⟩))⟩
    ·have:¬ svN es ride (opn es) 3=0:=by
      show ¬ svN es ride (II es es.length) 3=0
      omega
     simp [IE,this]
    ·have e3:svN es ride (opn es) 3=0:=by
      show svN es ride (II es es.length) 3=0
      omega
     unfold IE
     rw [decide_eq_true e3,Bool.true_and,← decide_not]
     rw [g2]
     exact decide_eq_decide.2 (show _↔¬ svN es ride (II es es.length) 2<=1 by omega)
   clear h14
   refine ⟨fun m t ins i xs4 τ=>∃ k:Nat,m=es.length-k/\i=k/\k<=es.length/\τ=σ/\t=tsd (es.take k) ride day/\ins=b.ins (es.take k) ride/\Oi es ride k xs4,⟨_,0,rfl,rfl,by omega,rfl,rfl,rfl,by simp,fun s h1 h2=>?_⟩,?_⟩
   ·have:s=1∨s=2∨s=3:=by omega
    rcases this with rfl | rfl | rfl<;>rfl
   rintro m t ins i xs4 τ ⟨k,rfl,rfl,hk,rfl,rfl,rfl,hcn⟩ _
   refine AA (fun hlt=>?_) (fun hlt=>?_)
   ·have hkl:k<es.length:=by omega
    have hl4:=hcn.1
    refine Ab fun J48 h48=>?_
    have k48:∀ t ins xs5,t=tsd (es.take (k+1)) ride day->ins=b.ins (es.take (k+1)) ride->Oi es ride (k+1) xs5->J48 t ins xs5 τ:=by
     rintro t ins xs5 rfl rfl hc5
     rw [h48]
     intro _
     exact AL (by omega) (A0 _ (by omega) ⟨k+1,rfl,by omega,by omega,rfl,rfl,rfl,hc5⟩)
    have et:tsd (es.take (k+1)) ride day=(tsF ride day (enA es (k:Nat))).getD (tsd (es.take k) ride day):=R6 hkl
    have ei:b.ins (es.take (k+1)) ride=(La ride (enA es (k:Nat))).getD (b.ins (es.take k) ride):=R6 hkl
    rw [et,ei] at k48
    clear h48 et ei
    have hsv:=he.s (enA es (k:Nat)) (by rw [DQ (by simpa using hkl)];exact List.getElem_mem _)
    refine Uu h.e (by omega) (by omega) (Bi (fun e=>k48 _ _ _ ?_ ?_ (hcn.same hkl (.inr e))) (fun e=>P8 h.e (by omega) (by omega) (AA (fun e2=>?_) (fun e2=>?_))))
    ·unfold tsF;rw [if_neg e];rfl
    ·unfold La;rw [if_neg (fun h=>e h.2)];rfl
    ·refine clB GU (Xn h.e (by omega)) (B0 (fun e3=>YX h.e (by omega) (by omega) ?_) (fun e3=>k48 _ _ _ ?_ ?_ (hcn.same hkl (.inl e3))))
     ·have hs:=hsv e2
      have b1:=hcn.2 _ hs.1 hs.2
      have b2:=WP (es:=es) (l:=II es k) (ride:=ride) (s:=(enA es (k:Nat)).2.2.2.1)
      have b3:=R2 es k
      refine ⟨by omega,by omega,Xr (by omega) (by omega) (AL (by omega) ⟨by omega,by omega,Xr (by omega) (by omega) (k48 _ _ _ ?_ ?_ (hcn.more hkl e3 e hs rfl))⟩)⟩
      ·unfold tsF;rw [if_pos e,if_neg (by omega),if_neg (by omega)];rfl
      ·unfold La;rw [if_neg (by omega)];rfl
     ·unfold tsF;rw [if_pos e,if_neg (by omega),if_neg (by omega)];rfl
     ·unfold La;rw [if_neg (by omega)];rfl
    ·have hno:RU es (k:Nat)=false:=by rw [US hkl,decide_eq_false e2];rfl
     have hsame:=hcn.same hkl (ride:=ride) (.inl hno)
     refine AA (fun e4=>?_) (fun e4=>AA (fun e6=>k48 _ _ _ ?_ ?_ hsame) (fun e6=>AA (fun e5=>YX h.e (by omega) (by omega) (k48 _ _ _ ?_ ?_ hsame)) (fun e5=>k48 _ _ _ ?_ ?_ hsame)))
     ·have hi2:b.ins (es.take k) ride=(La ride (enA es (k:Nat))).getD (b.ins (es.take k) ride):=by unfold La;rw [if_neg (by omega)];rfl
      refine B0 (fun et=>k48 _ _ _ ?_ hi2 hsame) (fun et=>RT h.e (by omega) (by omega) (k48 _ _ _ ?_ hi2 hsame))
      ·unfold tsF;rw [if_pos e,if_pos e4,et];split<;>rfl
      ·unfold tsF;rw [if_pos e,if_pos e4,et]
       by_cases ed:(enA es (k:Nat)).1=day
       ·rw [if_pos ed];exact decide_eq_true ed
       ·rw [if_neg ed];exact decide_eq_false ed
     ·unfold tsF;rw [if_pos e,if_neg e4,if_pos e6];rfl
     ·unfold La;rw [if_neg (by omega)];rfl
     ·unfold tsF;rw [if_pos e,if_neg e4,if_neg e6];rfl
     ·unfold La;rw [if_pos ⟨e5,e⟩];rfl
     ·unfold tsF;rw [if_pos e,if_neg e4,if_neg e6];rfl
     ·unfold La;rw [if_neg (fun h=>e5 h.1)];rfl
   ·obtain rfl:k=es.length:=by omega
    rw [List.take_length]
    exact k14 _ hcn
  refine Bd (fun e=>Fq.2 (Be (by decide) (k7 _ ?_))) (fun e=>Fq.2 (k7 _ ?_))
  ·rw [e];rfl
  ·rw [e];rfl
 refine ⟨fun m t i τ=>∃ k:Nat,m=b.R.length-k/\i=k/\k<=b.R.length/\τ=σ/\t=(List.range k).all (fun r:Nat=>!decide ((b.ru (r:Nat)).1=ride)||b.frc es (r:Nat) day),⟨_,0,rfl,rfl,by omega,rfl,rfl⟩,?_⟩
 rintro m t i τ ⟨k,rfl,rfl,hk,rfl,rfl⟩ _
 refine AA (fun hlt=>?_) (fun hlt=>?_)
 ·have hkl:k<b.R.length:=by omega
  refine Ab fun J88 h88=>?_
  have k88:∀ t,t=((List.range k).all (fun r:Nat=>!decide ((b.ru (r:Nat)).1=ride)||b.frc es (r:Nat) day)&&(!decide ((b.ru (k:Nat)).1=ride)||b.frc es (k:Nat) day))->J88 t τ:=by
   rintro t rfl
   rw [h88]
   intro _
   refine AL (by omega) (A0 _ (by omega) ⟨k+1,rfl,by omega,by omega,rfl,?_⟩)
   rw [List.range_succ,List.all_append]
   simp
  refine B0 (fun e=>Wo h.b.r (by omega) (by omega) (Bi (fun e2=>k88 _ ?_) (fun e2=>clB Mb (Aak h he (by omega) hd) (k88 _ ?_)))) (fun e=>k88 _ ?_)
  ·rw [e];simp [e2]
  ·rw [e];simp [e2]
  ·rw [e];rfl
 ·obtain rfl:k=b.R.length:=by omega
  exact k3
end
end Go.Proofs.YtoelhdjloaknbaaGreat
namespace Go.Proofs.YtoelhdjloaknbaaGreat
set_option maxRecDepth 100000
open Go.RowKit
theorem AbV {es:List Ent} {day:Int} {x:Ent} (hx:x∈Bok.upE es day):x.1<=day:=by
 unfold Bok.upE at hx
 obtain ⟨j,hj,rfl⟩:=List.mem_iff_getElem.1 hx
 rw [List.length_take] at hj
 rw [List.getElem_take]
 have:=List.not_of_lt_findIdx (p:=fun x:Ent=>decide (day<x.1)) (xs:=es) (i:=j) (by omega)
 simpa using this
theorem Abu {ride day:Int} (hd:0<=day) (es:List Ent):es.Pairwise (fun x y=>x.1<=y.1)->(∀ x∈es,x.1<=day)->(tsd es ride day=decide (lst (tsP ride) ride es=day))/\∀ B,0<=B->(∀ x∈es,x.1<=B)->lst (tsP ride) ride es<=B:=by
 refine TS (P:=fun es=>es.Pairwise (fun x y=>x.1<=y.1)->(∀ x∈es,x.1<=day)->(tsd es ride day=decide (lst (tsP ride) ride es=day))/\∀ B,0<=B->(∀ x∈es,x.1<=B)->lst (tsP ride) ride es<=B) (fun _ _=>⟨?_,fun B hB _=>?_⟩) (fun es x ih hp hb=>?_) es
 ·have:¬ (-1:Int)=day:=by omega
  show false=decide ((-1:Int)=day)
  rw [decide_eq_false this]
 ·show (-1:Int)<=B
  omega
 rw [List.pairwise_append] at hp
 obtain ⟨i1,i2⟩:=ih hp.1 fun y hy=>hb y (by simp [hy])
 have hx:=hb x (by simp)
 have e1:tsd (es++[x]) ride day=(tsF ride day x).getD (tsd es ride day):=IP
 have e2:lst (tsP ride) ride (es++[x])=(Fw (tsP ride) ride x).getD (lst (tsP ride) ride es):=IP
 by_cases hr:x.2.2.1=ride
 ·by_cases h4:x.2.1=4
  ·have ht:tsP ride x=true:=by simp [tsP,h4,hr]
   have e3:lst (tsP ride) ride (es++[x])=x.1:=by rw [e2];unfold Fw;rw [if_pos ht];rfl
   refine ⟨?_,fun B _ hB2=>by rw [e3];exact hB2 x (by simp)⟩
   rw [e1,e3]
   unfold tsF
   rw [if_pos hr,if_pos h4]
   by_cases hxd:x.1=day
   ·rw [if_pos hxd];exact (decide_eq_true hxd).symm
   ·rw [if_neg hxd]
    show tsd es ride day=_
    rw [i1,decide_eq_false hxd]
    refine decide_eq_false ?_
    rcases (by omega:x.1<0∨0<=x.1) with h0 | h0
    ·rcases YR (f:=Fw (tsP ride) ride) (d:=-1) es with e | ⟨y,hy,e⟩
     ·show ¬ scn (Fw (tsP ride) ride) (-1) es=day
      omega
     ·have hyx:=hp.2.2 y hy x (by simp)
      show ¬ scn (Fw (tsP ride) ride) (-1) es=day
      generalize scn (Fw (tsP ride) ride) (-1) es=z at *
      unfold Fw at e
      split at e
      ·cases e;omega
      ·split at e
       ·cases e;omega
       ·cases e
    ·have:=i2 x.1 h0 fun y hy=>hp.2.2 y hy x (by simp)
     omega
  ·have ht:tsP ride x=false:=by simp [tsP,h4]
   by_cases h6:x.2.1=6
   ·have e3:lst (tsP ride) ride (es++[x])=-1:=by rw [e2];unfold Fw;rw [ht,if_neg (by decide),if_pos ⟨h6,hr⟩];rfl
    refine ⟨?_,fun B hB _=>by rw [e3];omega⟩
    rw [e1,e3]
    unfold tsF
    rw [if_pos hr,if_neg h4,if_pos h6]
    exact (decide_eq_false (show ¬ (-1:Int)=day by omega)).symm
   ·have e3:lst (tsP ride) ride (es++[x])=lst (tsP ride) ride es:=by rw [e2];unfold Fw;rw [ht,if_neg (by decide),if_neg (fun h=>h6 h.1)];rfl
    refine ⟨?_,fun B hB hB2=>by rw [e3];exact i2 B hB fun y hy=>hB2 y (by simp [hy])⟩
    rw [e1,e3]
    unfold tsF
    rw [if_pos hr,if_neg h4,if_neg h6]
    exact i1
 ·have ht:tsP ride x=false:=by simp [tsP,hr]
  have e3:lst (tsP ride) ride (es++[x])=lst (tsP ride) ride es:=by rw [e2];unfold Fw;rw [ht,if_neg (by decide),if_neg (fun h=>hr h.2)];rfl
  refine ⟨?_,fun B hB hB2=>by rw [e3];exact i2 B hB fun y hy=>hB2 y (by simp [hy])⟩
  rw [e1,e3]
  unfold tsF
  rw [if_neg hr]
  exact i1
theorem AaQ {b:Bok} {es:List Ent} {r day:Int} (hd:0<=day):b.frc es r day=!decide (b.unt es r<day):=by
 unfold Bok.frc Bok.unt
 generalize lst (ckP r) (b.ru r).1 es=l
 by_cases h:l<0
 ·have:¬ 0<=l:=by omega
  have h2:(-1:Int)<day:=by omega
  rw [if_pos h,decide_eq_false this,decide_eq_true h2];rfl
 ·have:0<=l:=by omega
  rw [if_neg h,decide_eq_true this,Bool.true_and,← decide_not]
  exact decide_eq_decide.2 (by omega)
theorem Xh {b:Bok} {es:List Ent} {ride day:Int} (hd:0<=day/\day<=10000):∀ k:Nat,(List.range k).all (fun r:Nat=>!decide ((b.ru (r:Nat)).1=ride)||b.frc es (r:Nat) day)=!decide (b.ckd es ride k<day)
 | 0=>by
  have:¬ (10000:Int)<day:=by omega
  show true=!decide ((10000:Int)<day)
  rw [decide_eq_false this];rfl
 | k+1=>by
  rw [List.range_succ,List.all_append,Xh hd k]
  simp only [List.all_cons,List.all_nil,Bool.and_true]
  rw [AaQ hd.1]
  show _=!decide ((if (b.ru (k:Nat)).1=ride then (if b.unt es (k:Nat)<b.ckd es ride k then b.unt es (k:Nat) else b.ckd es ride k) else b.ckd es ride k)<day)
  by_cases h:(b.ru (k:Nat)).1=ride
  ·rw [if_pos h,decide_eq_true h]
   by_cases h1:b.ckd es ride k<day
   ·have:(if b.unt es (k:Nat)<b.ckd es ride k then b.unt es (k:Nat) else b.ckd es ride k)<day:=by split<;>omega
    rw [decide_eq_true h1,decide_eq_true this];rfl
   ·rw [decide_eq_false h1]
    by_cases h2:b.unt es (k:Nat)<day
    ·have:(if b.unt es (k:Nat)<b.ckd es ride k then b.unt es (k:Nat) else b.ckd es ride k)<day:=by split<;>omega
     rw [decide_eq_true h2,decide_eq_true this];rfl
    ·have:¬ (if b.unt es (k:Nat)<b.ckd es ride k then b.unt es (k:Nat) else b.ckd es ride k)<day:=by split<;>omega
     rw [decide_eq_false h2,decide_eq_false this];rfl
  ·rw [if_neg h,decide_eq_false h]
   simp
theorem AbA {b:Bok} {es:List Ent} {ride day:Int} (hd:0<=day/\day<=10000) (he:Nj es) (hu:∀ x∈es,x.1<=day):b.rsn es ride day=b.why es ride day:=by
 unfold Bok.rsn Bok.why Bok.chd
 rw [Xh hd,(Abu hd.1 es he.o hu).1]
 congr 1
 congr 1
 ·congr 1
  by_cases h:b.ckd es ride b.R.length<day<;>simp [h]
 ·by_cases h:lst (tsP ride) ride es=day<;>simp [h]
section
variable {σ:Hp} {w:BkW} {E:SL} {b:Bok} {es:List Ent}
theorem Vn {day:Int} (h:LgR σ w E b es) (hc:E.n<=E.c):Ad Tryz.prog PT #[w.v,E.v,.int .i64 day] σ (Aat 3 [.int .i64] σ (b.relD es day) (b.dayE es day)):=by
 refine MF _ _ _ _ _ _ _ _ _ _ _ _ _ _ _ ?_
 unfold Fj
 refine clI JI (UF h hc) (Bi (fun e=>Ag ⟨_,_,_,rfl,?_⟩) (fun e=>?_))
 ·have e2:b.relD es day=[]:=if_neg e
  rw [e2];exact Ak.nil ..
 obtain ⟨hck,hd⟩:=Bok.dayE0 e
 obtain ⟨hb,hn,_⟩:=Bok.chk_ok hck
 have he:Nj (Bok.upE es day):=(Bok.chk_es hck).take _
 have e2:b.relD es day=NK b (Bok.upE es day) day b.I.length:=if_pos e
 rw [e2,e]
 have hin:=h.b.in
 have h10:=(Bok.ok_spec hb).2.2.1
 refine Ab fun J10 h10'=>?_
 refine ⟨fun m A n c i τ=>∃ k:Nat,m=b.I.length-k/\i=k/\k<=b.I.length/\Lse (fun a c'=>Ak 3 [.int .i64] a A n c (NK b (Bok.upE es day) day k) c') σ τ,⟨_,0,rfl,rfl,by omega,⟨_,Ak.nil ..,Hp.Sub.refl _⟩⟩,?_⟩
 rintro m A n c i τ ⟨k,rfl,rfl,hk,ho⟩ _
 have hs:=Lse.sub AD.own ho
 refine AA (fun hlt=>?_) (fun hlt=>?_)
 ·have hkl:k<b.I.length:=by omega
  refine Ab fun J20 h20=>?_
  have k20:∀ A n c τ',Lse (fun a c'=>Ak 3 [.int .i64] a A n c (NK b (Bok.upE es day) day (k+1)) c') σ τ'->J20 A n c τ':=by
   intro A n c τ' ho'
   rw [h20]
   intro _
   exact AL (by omega) (A0 _ (by omega) ⟨k+1,rfl,by omega,by omega,ho'⟩)
  rw [Tv] at k20
  refine Bg Nz (Abr (h.sub hs).e hc (by omega)) ?_
  rintro v τ1 ⟨rfl,n',rfl,hnc,hu⟩
  refine ⟨_,_,_,rfl,Hp.Sub.refl _,?_⟩
  refine Bg Kw (WN (E:=⟨E.A,n',E.c⟩) (es:=Bok.upE es day) ⟨(h.sub hs).b,hu⟩ hb he (by omega) hd) ?_
  rintro v τ2 ⟨A2,n2,c2,rfl,ho2⟩
  rw [AbA hd he fun x hx=>AbV hx] at ho2
  have hn2:n2=(b.why (Bok.upE es day) (k:Nat) day).length:=ho2.len
  have ho3:=ho.up ho2.sub
  refine ⟨_,_,_,rfl,AA (fun e2=>?_) (fun e2=>k20 _ _ _ _ ?_)⟩
  ·rw [if_pos (by omega)] at k20
   obtain ⟨σ3,ho4,hs4⟩:=Lse.exact AD.own ho3
   refine Cj ho4 (Be (by show (NK b (Bok.upE es day) day k).length+1<=_;have:=RV b (Bok.upE es day) day k;omega) ?_)
   intro A' n' c' τ3 ho5
   exact k20 _ _ _ _ (Lse.low AD.own (Lse.of ho5) hs4)
  ·rw [if_neg (by omega)]
   exact ho3
 ·obtain rfl:k=b.I.length:=by omega
  rw [h10']
  intro _
  obtain ⟨σ4,h6,h7⟩:=ho
  exact Bx h7 ⟨_,_,_,rfl,h6⟩
end
end Go.Proofs.YtoelhdjloaknbaaGreat
