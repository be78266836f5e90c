/- Trimmed by wip/trim.py to what this claim rests on. -/
import Derived.Test.YthhadkggldcolaaGreatZNa4
import Derived.Test.YthhadkggldcolaaGreatZR2
namespace Go.Proofs.YthhadkggldcolaaGreat
set_option maxRecDepth 100000
open Go.RowKit
section
variable {σ:Hp} {w:BkW} {E:SL} {b:Bok} {es:List Ent}
theorem RJ {n lo hi:Int}:Ae Tryz.prog Gx #[.int .i64 n,.int .i64 lo,.int .i64 hi] σ fun v σ'=>v=.bool (Inn n lo hi)/\σ'=σ:=by
 refine Nm _ _ _ _ _ ?_
 unfold Ge
 refine AH (fun h=>Ah ⟨?_,rfl⟩) (fun h=>Ah ⟨?_,rfl⟩)
 ·simp [Inn,h]
 ·simp [Inn,h]
theorem Oi {n lo hi:Int} {K:Bool->Hp->Prop} (h:K (Inn n lo hi) σ):cl Tryz.prog (.func (.func Gx) #[] #[]) #[.int .i64 n,.int .i64 lo,.int .i64 hi] σ fun v σ'=>∃ t:Bool,(v=.bool t/\K t σ'):=clB Fk RJ h
theorem Abe {n lo hi:Int} {K:Bool->Hp->Prop} (h:K (Inn n lo hi) σ):cl Tryz.prog (.func (.func Gx) #[] #[]) #[.int .i64 n,.int .i64 lo,.int .i64 hi] σ fun v σ'=>∃ t:Bool,(v=.bool t/\(Hp.Sub σ σ'/\K t σ')):=Abw Fk RJ h
theorem TK {α:Type} {p:α->Bool} {xs:List α} {k:Nat} (hk:k<xs.length) (h:p xs[k]=false):xs.all p=false:=by
 cases e:xs.all p with
 | false=>rfl
 | true=>
  rw [List.all_eq_true.1 e _ (List.getElem_mem hk)] at h
  cases h
theorem Th {α:Type} {p:α->Bool} {xs:List α} (h:∀ j,(hj:j<xs.length)->p xs[j]=true):xs.all p=true:=List.all_eq_true.2 fun x hx=>by
 obtain ⟨j,hj,rfl⟩:=List.mem_iff_getElem.1 hx
 exact h j hj
theorem R5 (h:BkR σ w b):Ae Tryz.prog Nj #[w.v] σ fun v σ'=>v=.int .i64 b.e/\σ'=σ:=by
 refine KR _ _ _ _ _ _ _ _ _ _ _ ?_
 unfold Em
 have hrn:=h.rn
 have hkn:=h.kn
 have hin:=h.in
 have hini:((w.i.n:Nat):Int)=b.I.length:=by rw [hin]
 have bad:∀ {τ:Hp},b.ok=false->rt τ (fun v σ'=>v=.int .i64 b.e/\σ'=τ) (.int .i64 100):=fun {τ} e=>Ah ⟨by unfold Bok.e;rw [e];rfl,rfl⟩
 refine Ac fun J3 h3=>?_
 have k3:b.R.length<=20->b.K.length<=8->b.I.length<=10->J3 σ:=by
  intro q1 q2 q3
  rw [h3]
  intro _
  refine Ac fun J6 h6=>?_
  have k6:b.R.all b.rulOK=true->J6 σ:=by
   intro q4
   rw [h6]
   intro _
   refine Ac fun J9 h9=>?_
   have k9:b.K.all (Inn · 0 9)=true->J9 σ:=by
    intro q5
    rw [h9]
    intro _
    refine Ac fun J12 h12=>?_
    refine ⟨fun m i τ=>∃ k:Nat,m=b.I.length-k/\i=k/\k<=b.I.length/\τ=σ/\∀ j,(hj:j<b.I.length)->j<k->Inn b.I[j] 0 10000=true,⟨_,0,rfl,rfl,by omega,rfl,fun j _ hj=>by omega⟩,?_⟩
    rintro m i τ ⟨k,rfl,rfl,hk,rfl,hj⟩ _
    refine AH (fun hlt=>?_) (fun hlt=>?_)
    ·have hkl:k<b.I.length:=by omega
     refine DC h.i (by omega) (by omega) (Oi (Ba (fun e=>bad ?_) (fun e=>AP (by omega) (Bb _ (by omega) ⟨k+1,rfl,by omega,by omega,rfl,fun j h1 h2=>?_⟩))))
     ·rw [BR hkl] at e
      have:b.I.all (Inn · 0 10000)=false:=TK hkl e
      unfold Bok.ok;rw [this,Bool.and_false]
     ·rw [BR hkl] at e
      rcases Nat.lt_or_ge j k with h4 | h4
      ·exact hj j h1 h4
      ·obtain rfl:j=k:=by omega
       exact e
    ·rw [h12]
     intro _
     refine Ah ⟨?_,rfl⟩
     have:b.I.all (Inn · 0 10000)=true:=Th fun j hj2=>hj j hj2 (by omega)
     unfold Bok.e Bok.ok;rw [q4,q5,this,decide_eq_true q1,decide_eq_true q2,decide_eq_true q3];rfl
   clear h9
   refine ⟨fun m i τ=>∃ k:Nat,m=b.K.length-k/\i=k/\k<=b.K.length/\τ=σ/\∀ j,(hj:j<b.K.length)->j<k->Inn b.K[j] 0 9=true,⟨_,0,rfl,rfl,by omega,rfl,fun j _ hj=>by omega⟩,?_⟩
   rintro m i τ ⟨k,rfl,rfl,hk,rfl,hj⟩ _
   refine AH (fun hlt=>?_) (fun hlt=>k9 (Th fun j hj2=>hj j hj2 (by omega)))
   have hkl:k<b.K.length:=by omega
   refine DC h.k (by omega) (by omega) (Oi (Ba (fun e=>bad ?_) (fun e=>AP (by omega) (Bb _ (by omega) ⟨k+1,rfl,by omega,by omega,rfl,fun j h1 h2=>?_⟩))))
   ·rw [BR hkl] at e
    have:b.K.all (Inn · 0 9)=false:=TK hkl e
    unfold Bok.ok;rw [this,Bool.and_false];rfl
   ·rw [BR hkl] at e
    rcases Nat.lt_or_ge j k with h4 | h4
    ·exact hj j h1 h4
    ·obtain rfl:j=k:=by omega
     exact e
  clear h6
  refine ⟨fun m i τ=>∃ k:Nat,m=b.R.length-k/\i=k/\k<=b.R.length/\τ=σ/\∀ j,(hj:j<b.R.length)->j<k->b.rulOK b.R[j]=true,⟨_,0,rfl,rfl,by omega,rfl,fun j _ hj=>by omega⟩,?_⟩
  rintro m i τ ⟨k,rfl,rfl,hk,rfl,hj⟩ _
  refine AH (fun hlt=>?_) (fun hlt=>k6 (Th fun j hj2=>hj j hj2 (by omega)))
  have hkl:k<b.R.length:=by omega
  refine Ac fun J48 h48=>Vv h.r (by omega) (by omega) fun r hr=>?_
  simp only [Int.toNat_natCast] at hr
  refine Ac fun J60 h60=>?_
  have k60:∀ t,t=!b.rulOK r->J60 t τ:=by
   rintro t rfl
   rw [h60]
   intro _
   refine Ba (fun e=>bad ?_) (fun e=>?_)
   ·have:b.R.all b.rulOK=false:=TK hkl (by rw [hr];exact e)
    unfold Bok.ok;rw [this,Bool.and_false];rfl
   ·rw [h48]
    intro _
    refine AP (by omega) (Bb _ (by omega) ⟨k+1,rfl,by omega,by omega,rfl,fun j h1 h2=>?_⟩)
    rcases Nat.lt_or_ge j k with h4 | h4
    ·exact hj j h1 h4
    ·obtain rfl:j=k:=by omega
     rw [hr];exact e
  clear h60 h48
  refine AP (by omega) ?_
  rw [hini]
  refine Oi (Ba (fun e=>k60 _ ?_) (fun e1=>Oi (Ba (fun e=>k60 _ ?_) (fun e2=>Oi (k60 _ ?_)))))
  ·simp [Bok.rulOK,e]
  ·simp [Bok.rulOK,e]
  ·simp [Bok.rulOK,e1,e2]
 clear h3
 refine Ac fun J74 h74=>?_
 have k74:∀ t,t=!(decide (b.R.length<=20)&&decide (b.K.length<=8)&&decide (b.I.length<=10))->J74 t σ:=by
  rintro t rfl
  rw [h74]
  intro _
  refine Ba (fun e=>bad ?_) (fun e=>?_)
  ·unfold Bok.ok;rw [e];rfl
  ·simp only [Bool.and_eq_true,decide_eq_true_eq] at e
   exact k3 e.1.1 e.1.2 e.2
 refine AH (fun h1=>k74 _ ?_) (fun h1=>AH (fun h2=>k74 _ ?_) (fun h2=>k74 _ ?_))
 ·have:¬ b.R.length<=20:=by omega
  simp [this]
 ·have:¬ b.K.length<=8:=by omega
  simp [this]
 ·have e1:b.R.length<=20:=by omega
  have e2:b.K.length<=8:=by omega
  rw [hin]
  simp only [e1,e2,decide_true,Bool.true_and]
  rw [← decide_not]
  exact decide_eq_decide.2 (by omega)
theorem XY (h:BkR σ w b) (hb:b.ok=true) {r x y:Int} (hr:0<=r/\r<b.R.length):Ae Tryz.prog Rf #[w.v,.int .i64 r,.int .i64 x,.int .i64 y] σ fun v σ'=>v=.bool (b.sgn r x y)/\σ'=σ:=by
 refine Ot _ _ _ _ _ _ _ _ _ _ _ _ _ _ ?_
 unfold HL
 have hrn:=h.rn
 have hkn:=h.kn
 have hkni:((w.k.n:Nat):Int)=b.K.length:=by rw [hkn]
 have hK:=(Bok.ok_spec hb).2.1
 refine Vv h.r hr.1 (by omega) fun q hq=>?_
 have er:b.ru r=q:=by rw [Bok.ru_eq (by omega)];exact hq
 refine Ac fun J9 h9=>Ac fun J19 h19=>?_
 have k19:∀ t,t=!b.may r x->J19 t σ:=by
  rintro t rfl
  rw [h19]
  intro _
  refine Ba (fun e=>Ah ⟨?_,rfl⟩) (fun e=>?_)
  ·unfold Bok.sgn;rw [e];simp
  rw [h9]
  intro _
  refine Ba (fun e2=>Ah ⟨?_,rfl⟩) (fun e2=>AP (by omega) ?_)
  ·unfold Bok.sgn;rw [er,e2,e];simp
  have es':b.sgn r x y=(b.may r y && !decide (x=y)):=by unfold Bok.sgn;rw [er,e2,if_pos rfl,e,Bool.true_and]
  rw [hkni]
  refine Oi (B7 (fun e3=>Bg (fun e4=>?_) (fun e4=>Ah ⟨?_,rfl⟩)) (fun e3=>Ah ⟨?_,rfl⟩))
  ·have:=JH e3
   refine DC h.k (by omega) (by omega) (Ah ⟨?_,rfl⟩)
   have e5:¬ x=y:=fun a=>e4 a.symm
   rw [es']
   unfold Bok.may Bok.per
   rw [e3,er]
   simp [e5]
  ·rw [es',e4];simp
  ·rw [es']
   unfold Bok.may Bok.per
   rw [e3];simp
 refine AP (by omega) ?_
 rw [hkni]
 refine Oi (Ba (fun e=>k19 _ ?_) (fun e=>?_))
 ·unfold Bok.may Bok.per;rw [e];simp
 ·have:=JH e
  refine DC h.k (by omega) (by omega) (k19 _ ?_)
  unfold Bok.may Bok.per
  rw [e,er,Bool.true_and,← decide_not]
  exact decide_eq_decide.2 (by omega)
def YU (es:List Ent) (n:Int):Bool:=Inn n 0 ((es.length:Int)-1)&&decide ((enA es n).2.1=2) && !mnd es n
theorem AaA {A:Option Addr} {n:Nat} {xs:List Ent} {i:Int} {K:Int->Prop} (h:RdS sEn σ A n xs) (hi:0<=i) (hn:i.toNat<xs.length) (hk:K (enA xs i).2.2.1):ix A n i 5 fun b a=>ldI σ .i64 b (a+2) K:=by
 refine C7 (ss:=sEn) h rfl hi hn fun b o hc=>Bn (hc 2 (by decide)) ?_
 rw [GL hn] at hk
 exact hk
theorem Abo {n:Int} (h:∀ j,j<es.length->(decide ((enA es (j:Nat)).2.1=3)&&decide ((enA es (j:Nat)).2.2.1=n))=false):mnd es n=false:=by
 unfold mnd
 rw [List.any_eq_false]
 intro x hx
 obtain ⟨j,hj,rfl⟩:=List.mem_iff_getElem.1 hx
 have:=h j hj
 rw [GL (by simpa using hj)] at this
 simp only [Int.toNat_natCast] at this
 simp [this]
theorem Aa0 {n:Int} {j:Nat} (hj:j<es.length) (h:(decide ((enA es (j:Nat)).2.1=3)&&decide ((enA es (j:Nat)).2.2.1=n))=true):mnd es n=true:=by
 unfold mnd
 rw [List.any_eq_true]
 refine ⟨es[j],List.getElem_mem hj,?_⟩
 rw [GL (by simpa using hj)] at h
 simpa using h
theorem Zu {A:Option Addr} {ne c:Nat} (h:RdS sEn σ A ne es) (hl:es.length<=4294967296) {n:Int}:Ae Tryz.prog Sc #[.slice A ne c,.int .i64 n] σ fun v σ'=>v=.bool (YU es n)/\σ'=σ:=by
 refine P8 _ _ _ _ _ _ ?_
 unfold Jr
 have hen:ne=es.length:=h.1
 have heni:((ne:Nat):Int)=es.length:=by rw [hen]
 refine Ac fun J3 h3=>Ac fun J30 h30=>?_
 have k30:∀ t,t=!(Inn n 0 ((es.length:Int)-1)&&decide ((enA es n).2.1=2))->J30 t σ:=by
  rintro t rfl
  rw [h30]
  intro _
  refine Ba (fun e=>Ah ⟨?_,rfl⟩) (fun e=>?_)
  ·unfold YU;rw [e];rfl
  have eo:YU es n=!mnd es n:=by unfold YU;rw [e,Bool.true_and]
  rw [h3]
  intro _
  refine Ac fun J6 h6=>?_
  refine ⟨fun m i τ=>∃ k:Nat,m=es.length-k/\i=k/\k<=es.length/\τ=σ/\∀ j,j<k->(decide ((enA es (j:Nat)).2.1=3)&&decide ((enA es (j:Nat)).2.2.1=n))=false,⟨_,0,rfl,rfl,by omega,rfl,fun j hj=>by omega⟩,?_⟩
  rintro m i τ ⟨k,rfl,rfl,hk,rfl,hj⟩ _
  refine AH (fun hlt=>?_) (fun hlt=>?_)
  ·have hkl:k<es.length:=by omega
   refine Ac fun J14 h14=>Ac fun J20 h20=>?_
   have k20:∀ t,t=(decide ((enA es (k:Nat)).2.1=3)&&decide ((enA es (k:Nat)).2.2.1=n))->J20 t τ:=by
    rintro t rfl
    rw [h20]
    intro _
    refine B7 (fun e=>Ah ⟨?_,rfl⟩) (fun e=>?_)
    ·rw [eo,Aa0 hkl e];rfl
    ·rw [h14]
     intro _
     refine AP (by omega) (Bb _ (by omega) ⟨k+1,rfl,by omega,by omega,rfl,fun j h1=>?_⟩)
     rcases Nat.lt_or_ge j k with h4 | h4
     ·exact hj j h4
     ·obtain rfl:j=k:=by omega
      exact e
   refine UP h (by omega) (by omega) (AH (fun e=>AaA h (by omega) (by omega) (k20 _ ?_)) (fun e=>k20 _ ?_))
   ·simp [e]
   ·simp [e]
  ·obtain rfl:k=es.length:=by omega
   rw [h6]
   intro _
   refine Ah ⟨?_,rfl⟩
   rw [eo,Abo hj];rfl
 refine AP (by omega) ?_
 rw [heni]
 refine Oi (Ba (fun e=>k30 _ ?_) (fun e=>?_))
 ·rw [e];rfl
 ·have:=JH e
  refine UP h (by omega) (by omega) (k30 _ ?_)
  rw [e,Bool.true_and]
theorem XI (h:LgR σ w E b es) (hb:b.ok=true) (hl:es.length<=4294967296) {x:Ent}:Ae Tryz.prog RA #[w.v,E.v,enV x] σ fun v σ'=>v=.bool (b.rgt es x)/\σ'=σ:=by
 refine Pb _ _ _ _ _ _ _ _ _ _ _ _ _ _ _ _ _ _ _ ?_
 unfold HQ
 have hen:E.n=es.length:=h.e.1
 have heni:((E.n:Nat):Int)=es.length:=by rw [hen]
 have hrni:((w.r.n:Nat):Int)=b.R.length:=by rw [h.b.rn]
 have hkni:((w.k.n:Nat):Int)=b.K.length:=by rw [h.b.kn]
 have hini:((w.i.n:Nat):Int)=b.I.length:=by rw [h.b.in]
 obtain ⟨hR,hK,hI,_⟩:=Bok.ok_spec hb
 refine Ac fun J3 h3=>?_
 have k3:J3 (NI es) σ:=by
  rw [h3]
  intro _
  refine Oi (Ba (fun e=>Ah ⟨?_,rfl⟩) (fun e=>?_))
  ·unfold Bok.rgt;rw [e];rfl
  have e0:b.rgt es x=if x.2.1=1 then Inn x.2.2.1 0 ((b.R.length:Int)-1)&&b.sgn x.2.2.1 x.2.2.2.1 x.2.2.2.2
   else if x.2.1=2 then b.rid x.2.2.1&&Inn x.2.2.2.1 1 3&&decide (x.2.2.2.2=0)
   else if x.2.1=3 then Inn x.2.2.1 0 ((es.length:Int)-1)&&decide ((enA es x.2.2.1).2.1=2) && !mnd es x.2.2.1&&b.per x.2.2.2.1&&decide (x.2.2.2.2=0)
   else if x.2.1=4 then b.rid x.2.2.1&&b.per x.2.2.2.1&&decide (x.2.2.2.2=0)
   else if x.2.1=5 then b.rid x.2.2.1&&Inn x.2.2.2.1 0 10000&&decide (x.2.2.2.2=0)
   else if x.2.1=6 then b.rid x.2.2.1&&decide (x.2.2.2.1=0)&&decide (x.2.2.2.2=0) else false:=by
   unfold Bok.rgt;rw [e,Bool.true_and]
  rw [e0]
  refine AP (by omega) (AP (by omega) ?_)
  rw [hini,hkni]
  refine Abe (Oi ?_)
  change bc _ _ _
  refine AH (fun a=>?_) (fun a=>?_)
  ·rw [if_pos a]
   refine AP (by omega) ?_
   rw [hrni]
   refine Oi (B7 (fun e2=>?_) (fun e2=>Ah ⟨?_,rfl⟩))
   ·have:=JH e2
    refine clB LH (XY h.b hb (by omega)) (Ah ⟨?_,rfl⟩)
    rw [e2,Bool.true_and]
   ·rw [e2];rfl
  rw [if_neg a]
  refine AH (fun a2=>?_) (fun a2=>?_)
  ·rw [if_pos a2]
   refine B7 (fun e2=>Oi (B7 (fun e3=>Ah ⟨?_,rfl⟩) (fun e3=>Ah ⟨?_,rfl⟩))) (fun e2=>Ah ⟨?_,rfl⟩)
   ·rw [show b.rid x.2.2.1=true from e2,e3];rfl
   ·rw [e3];simp
   ·rw [show b.rid x.2.2.1=false from e2];rfl
  rw [if_neg a2]
  refine AH (fun a3=>?_) (fun a3=>?_)
  ·rw [if_pos a3]
   have eo:(Inn x.2.2.1 0 ((es.length:Int)-1)&&decide ((enA es x.2.2.1).2.1=2) && !mnd es x.2.2.1&&b.per x.2.2.2.1&&decide (x.2.2.2.2=0))=(YU es x.2.2.1&&b.per x.2.2.2.1&&decide (x.2.2.2.2=0)):=rfl
   rw [eo]
   refine clB Ml (Zu h.e hl) (B7 (fun e2=>B7 (fun e3=>Ah ⟨?_,rfl⟩) (fun e3=>Ah ⟨?_,rfl⟩)) (fun e2=>Ah ⟨?_,rfl⟩))
   ·rw [e2,show b.per x.2.2.2.1=true from e3];rfl
   ·rw [e2,show b.per x.2.2.2.1=false from e3];rfl
   ·rw [e2];rfl
  rw [if_neg a3]
  refine AH (fun a4=>?_) (fun a4=>?_)
  ·rw [if_pos a4]
   refine B7 (fun e2=>B7 (fun e3=>Ah ⟨?_,rfl⟩) (fun e3=>Ah ⟨?_,rfl⟩)) (fun e2=>Ah ⟨?_,rfl⟩)
   ·rw [show b.rid x.2.2.1=true from e2,show b.per x.2.2.2.1=true from e3];rfl
   ·rw [show b.rid x.2.2.1=true from e2,show b.per x.2.2.2.1=false from e3];rfl
   ·rw [show b.rid x.2.2.1=false from e2];rfl
  rw [if_neg a4]
  refine AH (fun a5=>?_) (fun a5=>?_)
  ·rw [if_pos a5]
   refine B7 (fun e2=>Oi (B7 (fun e3=>Ah ⟨?_,rfl⟩) (fun e3=>Ah ⟨?_,rfl⟩))) (fun e2=>Ah ⟨?_,rfl⟩)
   ·rw [show b.rid x.2.2.1=true from e2,e3];rfl
   ·rw [e3];simp
   ·rw [show b.rid x.2.2.1=false from e2];rfl
  rw [if_neg a5]
  refine AH (fun a6=>?_) (fun a6=>?_)
  ·rw [if_pos a6]
   refine B7 (fun e2=>AH (fun e3=>Ah ⟨?_,rfl⟩) (fun e3=>Ah ⟨?_,rfl⟩)) (fun e2=>Ah ⟨?_,rfl⟩)
   ·rw [show b.rid x.2.2.1=true from e2,decide_eq_true e3];rfl
   ·rw [show b.rid x.2.2.1=true from e2,decide_eq_false e3];rfl
   ·rw [show b.rid x.2.2.1=false from e2];rfl
  rw [if_neg a6]
  exact Ah ⟨rfl,rfl⟩
 have hlast:NI es=if 0<es.length then (enA es ((es.length:Int)-1)).1 else 0:=rfl
 refine AH (fun a=>AP (by omega) ?_) (fun a=>?_)
 ·rw [if_pos (by omega)] at hlast
  rw [hlast] at k3
  rw [heni]
  exact Xs h.e (by omega) (by omega) k3
 ·rw [if_neg (by omega)] at hlast
  rw [hlast] at k3
  exact k3
theorem XG (h:LgR σ w E b es) (hc:E.n<=E.c):Ae Tryz.prog Ri #[w.v,E.v] σ fun v σ'=>v=.tuple #[.int .i64 (b.chk es).1,.int .i64 (b.chk es).2]/\σ'=σ:=by
 refine OV _ _ _ _ _ _ _ _ _ _ _ _ _ _ ?_
 unfold HA
 have hen:E.n=es.length:=h.e.1
 refine clI Ik (R5 h.b) (Bg (fun e=>Ah ⟨?_,rfl⟩) (fun e=>?_))
 ·unfold Bok.chk;rw [if_neg e]
 have hok:=Bok.e0 e
 refine AH (fun a=>Ah ⟨?_,rfl⟩) (fun a=>?_)
 ·unfold Bok.chk;rw [if_pos e,if_pos (by omega)]
 have e1:b.chk es=if 0<=b.bad es then (b.bad es,101) else (0,0):=by unfold Bok.chk;rw [if_pos e,if_neg (by omega)]
 refine Ac fun J6 h6=>?_
 refine ⟨fun m i τ=>∃ k:Nat,m=es.length-k/\i=k/\k<=es.length/\τ=σ/\∀ j,j<k->b.rgt (es.take j) (enA es (j:Nat))=true,⟨_,0,rfl,rfl,by omega,rfl,fun j hj=>by omega⟩,?_⟩
 rintro m i τ ⟨k,rfl,rfl,hk,rfl,hj⟩ _
 refine AH (fun hlt=>⟨by omega,by omega,?_⟩) (fun hlt=>?_)
 ·have hkl:k<es.length:=by omega
  refine R2 h.e (by omega) (by omega) fun r hr=>?_
  have hrk:enA es (k:Nat)=r:=by rw [GL (by simpa using hkl)];exact hr
  have htl:(es.take k).length=k:=by simp;omega
  rw [Int.toNat_natCast]
  have h2:k<=E.n:=by omega
  refine clB LI (XI (x:=r) (E:=⟨E.A,k,E.c⟩) (es:=es.take k) ⟨h.b,h.e.tk h2⟩ hok (by omega)) (Ba (fun g=>Ah ⟨?_,rfl⟩) (fun g=>AP (by omega) (Bb _ (by omega) ⟨k+1,rfl,by omega,by omega,rfl,fun j h1=>?_⟩)))
  ·have hb:b.bad es=k:=Bok.bad_at hkl (by rw [hrk];exact g) hj
   rw [e1,hb,if_pos (by omega)]
  ·rcases Nat.lt_or_ge j k with h2 | h2
   ·exact hj j h2
   ·obtain rfl:j=k:=by omega
    rw [hrk];exact g
 ·obtain rfl:k=es.length:=by omega
  rw [h6]
  intro _
  have hb:=Bok.bad_no hj
  exact Ah ⟨by rw [e1,hb];rfl,rfl⟩
end
end Go.Proofs.YthhadkggldcolaaGreat
namespace Go.Proofs.YthhadkggldcolaaGreat
set_option maxRecDepth 100000
open Go.RowKit
section
variable {σ:Hp} {w:BkW} {E:SL} {b:Bok} {es:List Ent}
end
end Go.Proofs.YthhadkggldcolaaGreat
namespace Go.Proofs.YthhadkggldcolaaGreat
set_option maxRecDepth 100000
open Go.RowKit
section
variable {σ:Hp} {w:BkW} {E:SL} {b:Bok} {es:List Ent}
end
end Go.Proofs.YthhadkggldcolaaGreat
