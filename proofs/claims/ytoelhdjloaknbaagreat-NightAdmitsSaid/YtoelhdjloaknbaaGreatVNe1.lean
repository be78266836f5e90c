/- What this claim rests on. -/
import Derived.Test.YtoelhdjloaknbaaGreatVNa1
import Derived.Test.YtoelhdjloaknbaaGreatVR4
namespace Go.Proofs.YtoelhdjloaknbaaGreat
set_option maxRecDepth 100000
open Go.RowKit Go.Proofs.Tryz
section
variable {σ:Hp} {w:BkW} {E:SL} {b:Bok} {es:List Ent}
theorem Vs {n lo hi:Int}:Af prog 197 #[aD n,aD lo,aD hi] σ fun v σ'=>v=.bool (Inn n lo hi)/\σ'=σ:=by
 apply Qz
 unfold HT
 refine Az (fun h=>Ai ⟨?_,rfl⟩) (fun h=>Ai ⟨?_,rfl⟩)
 ·simp [Inn,h]
 ·simp [Inn,h]
theorem QV {n lo hi:Int} {K:Bool->Hp->Prop} (h:K (Inn n lo hi) σ):aC 197 #[aD n,aD lo,aD hi] σ fun v σ'=>∃ t:Bool,(v=.bool t/\K t σ'):=clB (aW 197) Vs h
theorem Af6 {n lo hi:Int} {K:Bool->Hp->Prop} (h:K (Inn n lo hi) σ):aC 197 #[aD n,aD lo,aD hi] σ fun v σ'=>∃ t:Bool,(v=.bool t/\(Hp.Sub σ σ'/\K t σ')):=Agu (aW 197) Vs h
theorem XK {α:Type} {p:α->Bool} {xs:List α} {k:Nat} (hk:k<xs.length) (h:p xs[k]=false):xs.all p=false:=by
 cases e:xs.all p with
 | false=>rfl
 | true=>
  rw [List.all_eq_true.1 e _ (List.getElem_mem hk)] at h
  cases h
theorem Xl {α:Type} {p:α->Bool} {xs:List α} (h:∀ j,(hj:j<xs.length)->p xs[j]=true):xs.all p=true:=List.all_eq_true.2 fun x hx=>by
 obtain ⟨j,hj,rfl⟩:=List.mem_iff_getElem.1 hx
 exact h j hj
theorem Wq (h:BkR σ w b):Af prog 137 #[w.v] σ fun v σ'=>v=aD b.e/\σ'=σ:=by
 apply MS
 unfold E1
 have hrn:=h.rn
 have hkn:=h.kn
 have hin:=h.in
 have hini:(w.i.n:Int)=b.I.length:=by rw [hin]
 have bad:∀ {τ:Hp},b.ok=false->rt τ (fun v σ'=>v=aD b.e/\σ'=τ) (aD 100):=fun {τ} e=>Ai ⟨by unfold Bok.e;rw [e];rfl,rfl⟩
 refine Ad fun J3 h3=>?_
 have k3:b.R.length<=20->b.K.length<=8->b.I.length<=10->J3 σ:=by
  intro q1 q2 q3
  rw [h3]
  intro _
  refine Ad fun J6 h6=>?_
  have k6:b.R.all b.rulOK=true->J6 σ:=by
   intro q4
   rw [h6]
   intro _
   refine Ad fun J9 h9=>?_
   have k9:b.K.all (Inn · 0 9)=true->J9 σ:=by
    intro q5
    rw [h9]
    intro _
    refine Ad fun J12 h12=>?_
    refine ⟨fun m i τ=>∃ k:Nat,m=b.I.length-k/\i=k/\k<=b.I.length/\τ=σ/\∀ j,(hj:j<b.I.length)->j<k->Inn b.I[j] 0 10000=true,⟨_,0,rfl,rfl,by omega,rfl,fun j _ hj=>by omega⟩,?_⟩
    rintro m i τ ⟨k,rfl,rfl,hk,rfl,hj⟩ _
    refine Az (fun hlt=>?_) (fun hlt=>?_)
    ·have hkl:k<b.I.length:=by omega
     refine Ch h.i (by omega) (by omega) (QV (Bp (fun e=>bad ?_) (fun e=>AQ (by omega) (AX _ (by omega) ⟨k+1,rfl,by omega,by omega,rfl,fun j h1 h2=>?_⟩))))
     ·rw [BJ hkl] at e
      have:b.I.all (Inn · 0 10000)=false:=XK hkl e
      unfold Bok.ok;rw [this,Bool.and_false]
     ·rw [BJ hkl] at e
      rcases Nat.lt_or_ge j k with h4 | h4
      ·exact hj j h1 h4
      ·obtain rfl:j=k:=by omega
       exact e
    ·rw [h12]
     intro _
     refine Ai ⟨?_,rfl⟩
     have:b.I.all (Inn · 0 10000)=true:=Xl fun j hj2=>hj j hj2 (by omega)
     unfold Bok.e Bok.ok;rw [q4,q5,this,decide_eq_true q1,decide_eq_true q2,decide_eq_true q3];rfl
   clear h9
   refine ⟨fun m i τ=>∃ k:Nat,m=b.K.length-k/\i=k/\k<=b.K.length/\τ=σ/\∀ j,(hj:j<b.K.length)->j<k->Inn b.K[j] 0 9=true,⟨_,0,rfl,rfl,by omega,rfl,fun j _ hj=>by omega⟩,?_⟩
   rintro m i τ ⟨k,rfl,rfl,hk,rfl,hj⟩ _
   refine Az (fun hlt=>?_) (fun hlt=>k9 (Xl fun j hj2=>hj j hj2 (by omega)))
   have hkl:k<b.K.length:=by omega
   refine Ch h.k (by omega) (by omega) (QV (Bp (fun e=>bad ?_) (fun e=>AQ (by omega) (AX _ (by omega) ⟨k+1,rfl,by omega,by omega,rfl,fun j h1 h2=>?_⟩))))
   ·rw [BJ hkl] at e
    have:b.K.all (Inn · 0 9)=false:=XK hkl e
    unfold Bok.ok;rw [this,Bool.and_false];rfl
   ·rw [BJ hkl] at e
    rcases Nat.lt_or_ge j k with h4 | h4
    ·exact hj j h1 h4
    ·obtain rfl:j=k:=by omega
     exact e
  clear h6
  refine ⟨fun m i τ=>∃ k:Nat,m=b.R.length-k/\i=k/\k<=b.R.length/\τ=σ/\∀ j,(hj:j<b.R.length)->j<k->b.rulOK b.R[j]=true,⟨_,0,rfl,rfl,by omega,rfl,fun j _ hj=>by omega⟩,?_⟩
  rintro m i τ ⟨k,rfl,rfl,hk,rfl,hj⟩ _
  refine Az (fun hlt=>?_) (fun hlt=>k6 (Xl fun j hj2=>hj j hj2 (by omega)))
  have hkl:k<b.R.length:=by omega
  refine Ad fun J48 h48=>ZQ h.r (by omega) (by omega) fun r hr=>?_
  simp only [Int.toNat_natCast] at hr
  refine Ad fun J60 h60=>?_
  have k60:∀ t,t=!b.rulOK r->J60 t τ:=by
   rintro t rfl
   rw [h60]
   intro _
   refine Bp (fun e=>bad ?_) (fun e=>?_)
   ·have:b.R.all b.rulOK=false:=XK hkl (by rw [hr];exact e)
    unfold Bok.ok;rw [this,Bool.and_false];rfl
   ·rw [h48]
    intro _
    refine AQ (by omega) (AX _ (by omega) ⟨k+1,rfl,by omega,by omega,rfl,fun j h1 h2=>?_⟩)
    rcases Nat.lt_or_ge j k with h4 | h4
    ·exact hj j h1 h4
    ·obtain rfl:j=k:=by omega
     rw [hr];exact e
  clear h60 h48
  refine AQ (by omega) ?_
  rw [hini]
  refine QV (Bp (fun e=>k60 _ ?_) (fun e1=>QV (Bp (fun e=>k60 _ ?_) (fun e2=>QV (k60 _ ?_)))))
  ·simp [Bok.rulOK,e]
  ·simp [Bok.rulOK,e]
  ·simp [Bok.rulOK,e1,e2]
 clear h3
 refine Ad fun J74 h74=>?_
 have k74:∀ t,t=!(decide (b.R.length<=20)&&decide (b.K.length<=8)&&decide (b.I.length<=10))->J74 t σ:=by
  rintro t rfl
  rw [h74]
  intro _
  refine Bp (fun e=>bad ?_) (fun e=>?_)
  ·unfold Bok.ok;rw [e];rfl
  ·simp only [Bool.and_eq_true,decide_eq_true_eq] at e
   exact k3 e.1.1 e.1.2 e.2
 refine Az (fun h1=>k74 _ ?_) (fun h1=>Az (fun h2=>k74 _ ?_) (fun h2=>k74 _ ?_))
 ·have:¬ b.R.length<=20:=by omega
  simp [this]
 ·have:¬ b.K.length<=8:=by omega
  simp [this]
 ·have e1:b.R.length<=20:=by omega
  have e2:b.K.length<=8:=by omega
  rw [hin]
  simp only [e1,e2,decide_true,Bool.true_and]
  rw [← decide_not]
  exact decide_eq_decide.2 (by omega)
theorem Ab0 (h:BkR σ w b) (hb:b.ok=true) {r x y:Int} (hr:0<=r/\r<b.R.length):Af prog 198 #[w.v,aD r,aD x,aD y] σ fun v σ'=>v=.bool (b.sgn r x y)/\σ'=σ:=by
 apply RI
 unfold IP
 have hrn:=h.rn
 have hkn:=h.kn
 have hkni:(w.k.n:Int)=b.K.length:=by rw [hkn]
 have hK:=(Bok.ok_spec hb).2.1
 refine ZQ h.r hr.1 (by omega) fun q hq=>?_
 have er:b.ru r=q:=by rw [Bok.ru_eq (by omega)];exact hq
 refine Ad fun J9 h9=>Ad fun J19 h19=>?_
 have k19:∀ t,t=!b.may r x->J19 t σ:=by
  rintro t rfl
  rw [h19]
  intro _
  refine Bp (fun e=>Ai ⟨?_,rfl⟩) (fun e=>?_)
  ·unfold Bok.sgn;rw [e];simp
  rw [h9]
  intro _
  refine Bp (fun e2=>Ai ⟨?_,rfl⟩) (fun e2=>AQ (by omega) ?_)
  ·unfold Bok.sgn;rw [er,e2,e];simp
  have es':b.sgn r x y=(b.may r y && !decide (x=y)):=by unfold Bok.sgn;rw [er,e2,if_pos rfl,e,Bool.true_and]
  rw [hkni]
  refine QV (BO (fun e3=>Bs (fun e4=>?_) (fun e4=>Ai ⟨?_,rfl⟩)) (fun e3=>Ai ⟨?_,rfl⟩))
  ·have:=Lo e3
   refine Ch h.k (by omega) (by omega) (Ai ⟨?_,rfl⟩)
   have e5:¬ x=y:=fun a=>e4 a.symm
   rw [es']
   unfold Bok.may Bok.per
   rw [e3,er]
   simp [e5]
  ·rw [es',e4];simp
  ·rw [es']
   unfold Bok.may Bok.per
   rw [e3];simp
 refine AQ (by omega) ?_
 rw [hkni]
 refine QV (Bp (fun e=>k19 _ ?_) (fun e=>?_))
 ·unfold Bok.may Bok.per;rw [e];simp
 ·have:=Lo e
  refine Ch h.k (by omega) (by omega) (k19 _ ?_)
  unfold Bok.may Bok.per
  rw [e,er,Bool.true_and,← decide_not]
  exact decide_eq_decide.2 (by omega)
def Ug (es:List Ent) (n:Int):Bool:=Inn n 0 ((es.length:Int)-1)&&decide ((enA es n).2.1=2) && !mnd es n
theorem WC {A:aA} {n:Nat} {xs:List Ent} {i:Int} {K:Int->Prop} (h:RdS sEn σ A n xs) (hi:0<=i) (hn:i.toNat<xs.length) (hk:K (enA xs i).2.2.1):ix A n i 5 fun b a=>ldI σ .i64 b (a+2) K:=by
 refine DC (ss:=sEn) h rfl hi hn fun b o hc=>AV (hc 2 (by decide)) ?_
 rw [Es hn] at hk
 exact hk
theorem AcE {A:aA} {n:Nat} {xs:List Ent} {i:Int} {K:Int->Prop} (h:RdS sEn σ A n xs) (hi:0<=i) (hn:i.toNat<xs.length) (hk:K (enA xs i).2.2.2.1):ix A n i 5 fun b a=>ldI σ .i64 b (a+3) K:=by
 refine DC (ss:=sEn) h rfl hi hn fun b o hc=>AV (hc 3 (by decide)) ?_
 rw [Es hn] at hk
 exact hk
theorem AfX {n:Int} (h:∀ j,j<es.length->(decide ((enA es (j:Nat)).2.1=3)&&decide ((enA es (j:Nat)).2.2.1=n))=false):mnd es n=false:=by
 unfold mnd
 rw [List.any_eq_false]
 intro x hx
 obtain ⟨j,hj,rfl⟩:=List.mem_iff_getElem.1 hx
 have:=h j hj
 rw [Es (by simpa using hj)] at this
 simp only [Int.toNat_natCast] at this
 simp [this]
theorem AfY {n:Int} {j:Nat} (hj:j<es.length) (h:(decide ((enA es (j:Nat)).2.1=3)&&decide ((enA es (j:Nat)).2.2.1=n))=true):mnd es n=true:=by
 unfold mnd
 rw [List.any_eq_true]
 refine ⟨es[j],List.getElem_mem hj,?_⟩
 rw [Es (by simpa using hj)] at h
 simpa using h
theorem Aaa {A:aA} {ne c:Nat} (h:RdS sEn σ A ne es) (hl:es.length<=4294967296) {n:Int}:Af prog 199 #[aN A ne c,aD n] σ fun v σ'=>v=.bool (Ug es n)/\σ'=σ:=by
 apply S6
 unfold KC
 have hen:ne=es.length:=h.1
 have heni:(ne:Int)=es.length:=by rw [hen]
 refine Ad fun J3 h3=>Ad fun J30 h30=>?_
 have k30:∀ t,t=!(Inn n 0 ((es.length:Int)-1)&&decide ((enA es n).2.1=2))->J30 t σ:=by
  rintro t rfl
  rw [h30]
  intro _
  refine Bp (fun e=>Ai ⟨?_,rfl⟩) (fun e=>?_)
  ·unfold Ug;rw [e];rfl
  have eo:Ug es n=!mnd es n:=by unfold Ug;rw [e,Bool.true_and]
  rw [h3]
  intro _
  refine Ad fun J6 h6=>?_
  refine ⟨fun m i τ=>∃ k:Nat,m=es.length-k/\i=k/\k<=es.length/\τ=σ/\∀ j,j<k->(decide ((enA es (j:Nat)).2.1=3)&&decide ((enA es (j:Nat)).2.2.1=n))=false,⟨_,0,rfl,rfl,by omega,rfl,fun j hj=>by omega⟩,?_⟩
  rintro m i τ ⟨k,rfl,rfl,hk,rfl,hj⟩ _
  refine Az (fun hlt=>?_) (fun hlt=>?_)
  ·have hkl:k<es.length:=by omega
   refine Ad fun J14 h14=>Ad fun J20 h20=>?_
   have k20:∀ t,t=(decide ((enA es (k:Nat)).2.1=3)&&decide ((enA es (k:Nat)).2.2.1=n))->J20 t τ:=by
    rintro t rfl
    rw [h20]
    intro _
    refine BO (fun e=>Ai ⟨?_,rfl⟩) (fun e=>?_)
    ·rw [eo,AfY hkl e];rfl
    ·rw [h14]
     intro _
     refine AQ (by omega) (AX _ (by omega) ⟨k+1,rfl,by omega,by omega,rfl,fun j h1=>?_⟩)
     rcases Nat.lt_or_ge j k with h4 | h4
     ·exact hj j h4
     ·obtain rfl:j=k:=by omega
      exact e
   refine Rk h (by omega) (by omega) (Az (fun e=>WC h (by omega) (by omega) (k20 _ ?_)) (fun e=>k20 _ ?_))
   ·simp [e]
   ·simp [e]
  ·obtain rfl:k=es.length:=by omega
   rw [h6]
   intro _
   refine Ai ⟨?_,rfl⟩
   rw [eo,AfX hj];rfl
 refine AQ (by omega) ?_
 rw [heni]
 refine QV (Bp (fun e=>k30 _ ?_) (fun e=>?_))
 ·rw [e];rfl
 ·have:=Lo e
  refine Rk h (by omega) (by omega) (k30 _ ?_)
  rw [e,Bool.true_and]
theorem Acf (h:LgR σ w E b es) (hb:b.ok=true) (hl:es.length<=4294967296) {x:Ent}:Af prog 138 #[w.v,E.v,enV x] σ fun v σ'=>v=.bool (b.rgt es x)/\σ'=σ:=by
 apply R2
 unfold Jj
 have hen:E.n=es.length:=h.e.1
 have heni:(E.n:Int)=es.length:=by rw [hen]
 have hrni:(w.r.n:Int)=b.R.length:=by rw [h.b.rn]
 have hkni:(w.k.n:Int)=b.K.length:=by rw [h.b.kn]
 have hini:(w.i.n:Int)=b.I.length:=by rw [h.b.in]
 obtain ⟨hR,hK,hI,_⟩:=Bok.ok_spec hb
 refine Ad fun J3 h3=>?_
 have k3:J3 (QK es) σ:=by
  rw [h3]
  intro _
  refine QV (Bp (fun e=>Ai ⟨?_,rfl⟩) (fun e=>?_))
  ·unfold Bok.rgt;rw [e];rfl
  have e0:b.rgt es x=if x.2.1=1 then Inn x.2.2.1 0 ((b.R.length:Int)-1)&&b.sgn x.2.2.1 x.2.2.2.1 x.2.2.2.2
   else if x.2.1=2 then b.rid x.2.2.1&&Inn x.2.2.2.1 1 3&&decide (x.2.2.2.2=0)
   else if x.2.1=3 then Inn x.2.2.1 0 ((es.length:Int)-1)&&decide ((enA es x.2.2.1).2.1=2) && !mnd es x.2.2.1&&b.per x.2.2.2.1&&decide (x.2.2.2.2=0)
   else if x.2.1=4 then b.rid x.2.2.1&&b.per x.2.2.2.1&&decide (x.2.2.2.2=0)
   else if x.2.1=5 then b.rid x.2.2.1&&Inn x.2.2.2.1 0 10000&&decide (x.2.2.2.2=0)
   else if x.2.1=6 then b.rid x.2.2.1&&decide (x.2.2.2.1=0)&&decide (x.2.2.2.2=0) else false:=by
   unfold Bok.rgt;rw [e,Bool.true_and]
  rw [e0]
  refine AQ (by omega) (AQ (by omega) ?_)
  rw [hini,hkni]
  refine Af6 (QV ?_)
  change bc _ _ _
  refine Az (fun a=>?_) (fun a=>?_)
  ·rw [if_pos a]
   refine AQ (by omega) ?_
   rw [hrni]
   refine QV (BO (fun e2=>?_) (fun e2=>Ai ⟨?_,rfl⟩))
   ·have:=Lo e2
    refine clB (aW 198) (Ab0 h.b hb (by omega)) (Ai ⟨?_,rfl⟩)
    rw [e2,Bool.true_and]
   ·rw [e2];rfl
  rw [if_neg a]
  refine Az (fun a2=>?_) (fun a2=>?_)
  ·rw [if_pos a2]
   refine BO (fun e2=>QV (BO (fun e3=>Ai ⟨?_,rfl⟩) (fun e3=>Ai ⟨?_,rfl⟩))) (fun e2=>Ai ⟨?_,rfl⟩)
   ·rw [show b.rid x.2.2.1=true from e2,e3];rfl
   ·rw [e3];simp
   ·rw [show b.rid x.2.2.1=false from e2];rfl
  rw [if_neg a2]
  refine Az (fun a3=>?_) (fun a3=>?_)
  ·rw [if_pos a3]
   have eo:(Inn x.2.2.1 0 ((es.length:Int)-1)&&decide ((enA es x.2.2.1).2.1=2) && !mnd es x.2.2.1&&b.per x.2.2.2.1&&decide (x.2.2.2.2=0))=(Ug es x.2.2.1&&b.per x.2.2.2.1&&decide (x.2.2.2.2=0)):=rfl
   rw [eo]
   refine clB (aW 199) (Aaa h.e hl) (BO (fun e2=>BO (fun e3=>Ai ⟨?_,rfl⟩) (fun e3=>Ai ⟨?_,rfl⟩)) (fun e2=>Ai ⟨?_,rfl⟩))
   ·rw [e2,show b.per x.2.2.2.1=true from e3];rfl
   ·rw [e2,show b.per x.2.2.2.1=false from e3];rfl
   ·rw [e2];rfl
  rw [if_neg a3]
  refine Az (fun a4=>?_) (fun a4=>?_)
  ·rw [if_pos a4]
   refine BO (fun e2=>BO (fun e3=>Ai ⟨?_,rfl⟩) (fun e3=>Ai ⟨?_,rfl⟩)) (fun e2=>Ai ⟨?_,rfl⟩)
   ·rw [show b.rid x.2.2.1=true from e2,show b.per x.2.2.2.1=true from e3];rfl
   ·rw [show b.rid x.2.2.1=true from e2,show b.per x.2.2.2.1=false from e3];rfl
   ·rw [show b.rid x.2.2.1=false from e2];rfl
  rw [if_neg a4]
  refine Az (fun a5=>?_) (fun a5=>?_)
  ·rw [if_pos a5]
   refine BO (fun e2=>QV (BO (fun e3=>Ai ⟨?_,rfl⟩) (fun e3=>Ai ⟨?_,rfl⟩))) (fun e2=>Ai ⟨?_,rfl⟩)
   ·rw [show b.rid x.2.2.1=true from e2,e3];rfl
   ·rw [e3];simp
   ·rw [show b.rid x.2.2.1=false from e2];rfl
  rw [if_neg a5]
  refine Az (fun a6=>?_) (fun a6=>?_)
  ·rw [if_pos a6]
   refine BO (fun e2=>Az (fun e3=>Ai ⟨?_,rfl⟩) (fun e3=>Ai ⟨?_,rfl⟩)) (fun e2=>Ai ⟨?_,rfl⟩)
   ·rw [show b.rid x.2.2.1=true from e2,decide_eq_true e3];rfl
   ·rw [show b.rid x.2.2.1=true from e2,decide_eq_false e3];rfl
   ·rw [show b.rid x.2.2.1=false from e2];rfl
  rw [if_neg a6]
  exact Ai ⟨rfl,rfl⟩
 have hlast:QK es=if 0<es.length then (enA es ((es.length:Int)-1)).1 else 0:=rfl
 refine Az (fun a=>AQ (by omega) ?_) (fun a=>?_)
 ·rw [if_pos (by omega)] at hlast
  rw [hlast] at k3
  rw [heni]
  exact TY h.e (by omega) (by omega) k3
 ·rw [if_neg (by omega)] at hlast
  rw [hlast] at k3
  exact k3
theorem YC (h:LgR σ w E b es) (hc:E.n<=E.c):Af prog 78 #[w.v,E.v] σ fun v σ'=>v=.tuple #[aD (b.chk es).1,aD (b.chk es).2]/\σ'=σ:=by
 apply RU
 unfold Jp
 have hen:E.n=es.length:=h.e.1
 refine clI (aW 137) (Wq h.b) (Bs (fun e=>Ai ⟨?_,rfl⟩) (fun e=>?_))
 ·unfold Bok.chk;rw [if_neg e]
 have hok:=Bok.e0 e
 refine Az (fun a=>Ai ⟨?_,rfl⟩) (fun a=>?_)
 ·unfold Bok.chk;rw [if_pos e,if_pos (by omega)]
 have e1:b.chk es=if 0<=b.bad es then (b.bad es,101) else (0,0):=by unfold Bok.chk;rw [if_pos e,if_neg (by omega)]
 refine Ad fun J6 h6=>?_
 refine ⟨fun m i τ=>∃ k:Nat,m=es.length-k/\i=k/\k<=es.length/\τ=σ/\∀ j,j<k->b.rgt (es.take j) (enA es (j:Nat))=true,⟨_,0,rfl,rfl,by omega,rfl,fun j hj=>by omega⟩,?_⟩
 rintro m i τ ⟨k,rfl,rfl,hk,rfl,hj⟩ _
 refine Az (fun hlt=>⟨by omega,by omega,?_⟩) (fun hlt=>?_)
 ·have hkl:k<es.length:=by omega
  refine VH h.e (by omega) (by omega) fun r hr=>?_
  have hrk:enA es (k:Nat)=r:=by rw [Es (by simpa using hkl)];exact hr
  have htl:(es.take k).length=k:=by simp;omega
  rw [Int.toNat_natCast]
  have h2:k<=E.n:=by omega
  refine clB (aW 138) (Acf (x:=r) (E:=⟨E.A,k,E.c⟩) (es:=es.take k) ⟨h.b,h.e.tk h2⟩ hok (by omega)) (Bp (fun g=>Ai ⟨?_,rfl⟩) (fun g=>AQ (by omega) (AX _ (by omega) ⟨k+1,rfl,by omega,by omega,rfl,fun j h1=>?_⟩)))
  ·have hb:b.bad es=k:=Bok.bad_at hkl (by rw [hrk];exact g) hj
   rw [e1,hb,if_pos (by omega)]
  ·rcases Nat.lt_or_ge j k with h2 | h2
   ·exact hj j h2
   ·obtain rfl:j=k:=by omega
    rw [hrk];exact g
 ·obtain rfl:k=es.length:=by omega
  rw [h6]
  intro _
  have hb:=Bok.bad_no hj
  exact Ai ⟨by rw [e1,hb];rfl,rfl⟩
theorem XE (h:LgR σ w E b es) (hc:E.n<=E.c) {day:Int}:Af prog 140 #[w.v,E.v,aD day] σ fun v σ'=>v=aD (b.dayE es day)/\σ'=σ:=by
 apply Oj
 unfold FT
 refine Bd (aW 78) (YC h hc) ?_
 rintro v σ' ⟨rfl,rfl⟩
 refine ⟨_,_,rfl,Bs (fun e=>Ai ⟨?_,rfl⟩) (fun e=>QV (Bp (fun e2=>Ai ⟨?_,rfl⟩) (fun e2=>Ai ⟨?_,rfl⟩)))⟩
 ·unfold Bok.dayE;rw [if_neg e]
 ·unfold Bok.dayE;rw [if_pos e,e2];rfl
 ·unfold Bok.dayE;rw [if_pos e,e2];rfl
theorem Aeg {day:Int}:es.findIdx (fun x=>decide (day<x.1))<=es.length:=List.findIdx_le_length
theorem AdV {A:aA} {ne c:Nat} (h:RdS sEn σ A ne es) (hc:ne<=c) (hl:es.length<=4294967296) {day:Int}:Af prog 142 #[aN A ne c,aD day] σ fun v σ'=>σ'=σ/\∃ n,v=aN A n c/\n<=c/\RdS sEn σ A n (Bok.upE es day):=by
 apply Tu
 unfold KW
 have hen:ne=es.length:=h.1
 refine Ad fun J3 h3=>?_
 have k3:∀ k:Nat,k=es.findIdx (fun x=>decide (day<x.1))->J3 (k:Nat) σ:=by
  rintro k rfl
  rw [h3]
  intro _
  have:=Aeg (es:=es) (day:=day)
  refine ⟨by omega,by omega,Ai ⟨rfl,_,rfl,by omega,?_⟩⟩
  rw [Int.toNat_natCast]
  have h2:List.findIdx (fun x:Ent=>decide (day<x.1)) es<=ne:=by omega
  exact h.tk h2
 refine ⟨fun m i τ=>∃ k:Nat,m=es.length-k/\i=k/\k<=es.length/\τ=σ/\∀ j,(hj:j<es.length)->j<k->decide (day<es[j].1)=false,⟨_,0,rfl,rfl,by omega,rfl,fun j _ hj=>by omega⟩,?_⟩
 rintro m i τ ⟨k,rfl,rfl,hk,rfl,hj⟩ _
 refine Ad fun J12 h12=>Ad fun J18 h18=>?_
 refine Az (fun hlt=>?_) (fun hlt=>?_)
 ·have hkl:k<es.length:=by omega
  refine TY h (by omega) (by omega) ?_
  rw [Es (by simpa using hkl)]
  simp only [Int.toNat_natCast]
  rw [h18]
  intro _
  refine Az (fun e=>?_) (fun e=>k3 k ?_)
  ·rw [h12]
   intro _
   refine AQ (by omega) (AX _ (by omega) ⟨k+1,rfl,by omega,by omega,rfl,fun j h1 h2=>?_⟩)
   rcases Nat.lt_or_ge j k with h4 | h4
   ·exact hj j h1 h4
   ·obtain rfl:j=k:=by omega
    exact decide_eq_false (by omega)
  ·symm
   exact (List.findIdx_eq hkl).2 ⟨decide_eq_true (by omega),fun j hjk=>hj j (by omega) hjk⟩
 ·obtain rfl:k=es.length:=by omega
  rw [h18]
  intro _
  refine k3 _ ?_
  symm
  refine List.findIdx_eq_length.2 fun x hx=>?_
  obtain ⟨j,hj2,rfl⟩:=List.mem_iff_getElem.1 hx
  exact hj j hj2 hj2
end
def Bok.frc (b:Bok) (es:List Ent) (r day:Int):Bool:=decide (0<=lst (ckP r) (b.ru r).1 es)&&decide (day-lst (ckP r) (b.ru r).1 es<(b.ru r).2.1)
def Bok.chd (b:Bok) (es:List Ent) (ride day:Int):Bool:=(List.range b.R.length).all fun r:Nat=>!decide ((b.ru (r:Nat)).1=ride)||b.frc es (r:Nat) day
def tsF (ride day:Int) (x:Ent):Option Bool:=if x.2.2.1=ride then if x.2.1=4 then if x.1=day then some true else none else if x.2.1=6 then some false else none else none
def tsd (es:List Ent) (ride day:Int):Bool:=scn (tsF ride day) false es
def Bok.rsn (b:Bok) (es:List Ent) (ride day:Int):List Int:=
 (((if b.chd es ride day then [] else [1])++(if JB es ride then [] else [2]))++(if tsd es ride day then [] else [3]))++(if b.ins es ride<day then [4] else [])
theorem UA {α:Type} {f:Ent->Option α} {d:α} {es:List Ent} {k:Nat} (hk:k<es.length):scn f d (es.take (k+1))=(f (enA es (k:Nat))).getD (scn f d (es.take k)):=by
 rw [List.take_succ_eq_append_getElem hk,JS,Es (by simpa using hk)]
 rfl
section
variable {σ:Hp} {w:BkW} {E:SL} {b:Bok} {es:List Ent}
theorem Aby (h:LgR σ w E b es) (he:Pe es) {r day:Int} (hr:0<=r/\r<b.R.length) (hd:0<=day/\day<=10000):Af prog 200 #[w.v,E.v,aD r,aD day] σ fun v σ'=>v=.bool (b.frc es r day)/\σ'=σ:=by
 apply Sn
 unfold Ja
 have hen:E.n=es.length:=h.e.1
 have hrn:=h.b.rn
 have hn:=he.n
 refine Ad fun J3 h3=>?_
 refine ⟨fun m l i τ=>∃ k:Nat,m=es.length-k/\i=k/\k<=es.length/\τ=σ/\l=lst (ckP r) (b.ru r).1 (es.take k),⟨_,0,rfl,rfl,by omega,rfl,rfl⟩,?_⟩
 rintro m l i τ ⟨k,rfl,rfl,hk,rfl,rfl⟩ _
 refine Az (fun hlt=>?_) (fun hlt=>?_)
 ·have hkl:k<es.length:=by omega
  have e1:lst (ckP r) (b.ru r).1 (es.take (k+1))=(F5 (ckP r) (b.ru r).1 (enA es (k:Nat))).getD (lst (ckP r) (b.ru r).1 (es.take k)):=UA hkl
  refine Ad fun J17 h17=>?_
  have k17:J17 (lst (ckP r) (b.ru r).1 (es.take (k+1))) τ:=by
   rw [h17]
   intro _
   exact AQ (by omega) (AX _ (by omega) ⟨k+1,rfl,by omega,by omega,rfl,rfl⟩)
  rw [e1] at k17
  refine Ad fun J24 h24=>?_
  have k24:∀ n,n=(if ckP r (enA es (k:Nat)) then (enA es (k:Nat)).1 else lst (ckP r) (b.ru r).1 (es.take k))->J24 n τ:=by
   rintro n rfl
   rw [h24]
   intro _
   refine Ad fun J28 h28=>?_
   have k28:∀ t,t=decide ((enA es (k:Nat)).2.1=6/\(enA es (k:Nat)).2.2.1=(b.ru r).1)->J28 t τ:=by
    rintro t rfl
    rw [h28]
    intro _
    unfold F5 at k17
    refine Az (fun e=>?_) (fun e=>?_)
    ·have:ckP r (enA es (k:Nat))=false:=by unfold ckP;rw [e.1];simp
     rw [this,if_neg (by decide),if_pos e] at k17
     exact k17
    ·split
     ·rename_i e2
      rw [if_pos e2] at k17
      exact k17
     ·rename_i e2
      rw [if_neg e2,if_neg e] at k17
      exact k17
   refine Rk h.e (by omega) (by omega) (Az (fun e=>WC h.e (by omega) (by omega) (Y0 h.b.r hr.1 (by omega) (k28 _ ?_))) (fun e=>k28 _ ?_))
   ·simp [e]
   ·simp [e]
  refine Ad fun J41 h41=>?_
  have k41:∀ t,t=ckP r (enA es (k:Nat))->J41 t τ:=by
   rintro t rfl
   rw [h41]
   intro _
   refine BO (fun e=>TY h.e (by omega) (by omega) (k24 _ ?_)) (fun e=>k24 _ ?_)
   ·rw [if_pos e]
   ·rw [e];rfl
  refine Rk h.e (by omega) (by omega) (Az (fun e=>WC h.e (by omega) (by omega) (k41 _ ?_)) (fun e=>k41 _ ?_))
  ·simp [ckP,e]
  ·simp [ckP,e]
 ·obtain rfl:k=es.length:=by omega
  rw [h3,List.take_length]
  intro _
  have:=AcL he (p:=ckP r) (ride:=(b.ru r).1)
  refine Az (fun e=>AQ (by omega) (AbX h.b.r hr.1 (by omega) (Ai ⟨?_,rfl⟩))) (fun e=>Ai ⟨?_,rfl⟩)
  ·unfold Bok.frc;rw [decide_eq_true e,Bool.true_and]
  ·unfold Bok.frc;rw [decide_eq_false e,Bool.false_and]
def P5 (es:List Ent) (ride:Int) (k:Nat) (xs:List Int):Prop:=xs.length=4/\∀ s:Int,1<=s->s<=3->gt xs s=svN es ride (Jy es k) s
theorem XW {k:Nat} (hk:k<es.length):Ug es (k:Nat)=(decide ((enA es (k:Nat)).2.1=2) && !mnd es (k:Nat)):=by
 unfold Ug Inn
 have:(0:Int)<=(k:Nat)/\(k:Int)<=(es.length:Int)-1:=by omega
 rw [decide_eq_true this,Bool.true_and]
theorem VT {k:Nat} (hk:k<es.length):Jy es (k+1)=if Ug es (k:Nat)=true then Jy es k++[(k:Int)] else Jy es k:=by
 rw [Vq,XW hk]
 by_cases h:(enA es (k:Nat)).2.1=2
 ·cases e:mnd es (k:Nat)<;>simp [h]
 ·simp [h]
theorem P5.same {ride:Int} {k:Nat} {xs:List Int} (hk:k<es.length) (h:P5 es ride k xs) (hn:Ug es (k:Nat)=false∨¬ (enA es (k:Nat)).2.2.1=ride):P5 es ride (k+1) xs:=by
 refine ⟨h.1,fun s h1 h2=>?_⟩
 rw [h.2 s h1 h2,VT hk]
 split
 ·rename_i e
  rw [TR]
  rcases hn with hn | hn
  ·rw [hn] at e;cases e
  ·have:svP es ride s (k:Nat)=false:=by simp [svP,hn]
   rw [this];rfl
 ·rfl
theorem P5.more {ride v:Int} {k:Nat} {xs:List Int} (hk:k<es.length) (h:P5 es ride k xs) (ho:Ug es (k:Nat)=true) (hr:(enA es (k:Nat)).2.2.1=ride) (hs:1<=(enA es (k:Nat)).2.2.2.1/\(enA es (k:Nat)).2.2.2.1<=3) (hv:v=gt xs (enA es (k:Nat)).2.2.2.1+1):
  P5 es ride (k+1) (xs.set (enA es (k:Nat)).2.2.2.1.toNat v):=by
 have hl:=h.1
 refine ⟨by simpa using h.1,fun s h1 h2=>?_⟩
 rw [VT hk,if_pos ho,TR,Afr (by omega) (by omega) (by omega)]
 by_cases e:s=(enA es (k:Nat)).2.2.2.1
 ·rw [if_pos e]
  have:svP es ride s (k:Nat)=true:=by simp [svP,hr,e]
  rw [this,hv,← e,h.2 s h1 h2];rfl
 ·rw [if_neg e,h.2 s h1 h2]
  have e':¬ (enA es (k:Nat)).2.2.2.1=s:=fun h=>e h.symm
  have:svP es ride s (k:Nat)=false:=by simp [svP,e']
  rw [this];rfl
theorem YJ (h:LgR σ w E b es) (hb:b.ok=true) (he:Pe es) {ride day:Int} (hr:0<=ride/\ride<b.I.length) (hd:0<=day/\day<=10000):
  Af prog 141 #[w.v,E.v,aD ride,aD day] σ (Abu 3 aM σ (b.rsn es ride day)):=by
 apply PJ
 unfold Gz
 have hen:E.n=es.length:=h.e.1
 have hrn:=h.b.rn
 have hn:=he.n
 have h20:=(Bok.ok_spec hb).1
 refine Ad fun J3 h3=>?_
 have k3:J3 (b.chd es ride day) σ:=by
  rw [h3]
  intro _
  refine Ad fun J7 h7=>?_
  have k7:∀ xs:List Int,xs=(if b.chd es ride day then [] else [1])->J7 xs σ:=by
   intro xs hxs
   have hxl:xs.length<=1:=by rw [hxs];split<;>decide
   rw [h7]
   intro _
   refine ⟨by decide,by decide,by decide,Ch h.b.i hr.1 hr.2 (Ad fun J14 h14=>?_)⟩
   have k14:∀ xs4,P5 es ride es.length xs4->J14 (tsd es ride day) (b.ins es ride) xs4 σ:=by
    intro xs4 hcn
    have hl4:=hcn.1
    rw [h14]
    intro _
    refine Ad fun J20 h20=>?_
    have k20:∀ ys:List Int,ys=xs++(if JB es ride then [] else [2])->J20 ys σ:=by
     intro ys hys
     have hyl:ys.length<=2:=by rw [hys,List.length_append];have:(if JB es ride=true then [] else [(2:Int)]).length<=1:=(by split<;>decide);omega
     rw [h20]
     intro _
     refine Ad fun J24 h24=>?_
     have k24:∀ zs:List Int,zs=ys++(if tsd es ride day then [] else [3])->J24 zs σ:=by
      intro zs hzs
      have hzl:zs.length<=3:=by rw [hzs,List.length_append];have:(if tsd es ride day=true then [] else [(3:Int)]).length<=1:=(by split<;>decide);omega
      rw [h24]
      intro _
      refine Ad fun J28 h28=>?_
      have k28:∀ us:List Int,us=b.rsn es ride day->J28 us σ:=by
       rintro us rfl
       rw [h28]
       intro _ A n c s31 ho
       exact Ai ⟨_,_,_,rfl,ho⟩
      have er:b.rsn es ride day=zs++(if b.ins es ride<day then [4] else []):=by rw [hzs,hys,hxs];rfl
      refine Az (fun e=>AY (by show zs.length+1<=_;omega) (k28 _ ?_)) (fun e=>k28 _ ?_)
      ·rw [er,if_pos e]
      ·rw [er,if_neg e,List.append_nil]
     refine Bp (fun e=>AY (by show ys.length+1<=_;omega) (k24 _ ?_)) (fun e=>k24 _ ?_)
     ·rw [e];rfl
     ·rw [e,if_pos rfl,List.append_nil]
    refine Ad fun J34 h34=>?_
    have k34:∀ t,t=!JB es ride->J34 t σ:=by
     rintro t rfl
     rw [h34]
     intro _
     refine Bp (fun e=>AY (by show xs.length+1<=_;omega) (k20 _ ?_)) (fun e=>k20 _ ?_)
     ·rw [e];rfl
     ·rw [e,if_pos rfl,List.append_nil]
    have g3:=hcn.2 3 (by omega) (by omega)
    have g2:=hcn.2 2 (by omega) (by omega)
    have p3:=YE (es:=es) (l:=Jy es es.length) (ride:=ride) (s:=3)
    refine ⟨by decide,by omega,JC (by decide) (by omega) (Az (fun e=>k34 _ ?_) (fun e=>⟨by decide,by omega,JC (by decide) (by omega) (k34 _ ?_)⟩))⟩
    ·have:¬ svN es ride (opn es) 3=0:=by
      show ¬ svN es ride (Jy es es.length) 3=0
      omega
     simp [JB,this]
    ·have e3:svN es ride (opn es) 3=0:=by
      show svN es ride (Jy es es.length) 3=0
      omega
     unfold JB
     rw [decide_eq_true e3,Bool.true_and,← decide_not]
     rw [g2]
     exact decide_eq_decide.2 (show _↔¬ svN es ride (Jy es es.length) 2<=1 by omega)
   clear h14
   refine ⟨fun m t ins i xs4 τ=>∃ k:Nat,m=es.length-k/\i=k/\k<=es.length/\τ=σ/\t=tsd (es.take k) ride day/\ins=b.ins (es.take k) ride/\P5 es ride k xs4,⟨_,0,rfl,rfl,by omega,rfl,rfl,rfl,by simp,fun s h1 h2=>?_⟩,?_⟩
   ·have:s=1∨s=2∨s=3:=by omega
    rcases this with rfl | rfl | rfl<;>rfl
   rintro m t ins i xs4 τ ⟨k,rfl,rfl,hk,rfl,rfl,rfl,hcn⟩ _
   refine Az (fun hlt=>?_) (fun hlt=>?_)
   ·have hkl:k<es.length:=by omega
    have hl4:=hcn.1
    refine Ad fun J48 h48=>?_
    have k48:∀ t ins xs5,t=tsd (es.take (k+1)) ride day->ins=b.ins (es.take (k+1)) ride->P5 es ride (k+1) xs5->J48 t ins xs5 τ:=by
     rintro t ins xs5 rfl rfl hc5
     rw [h48]
     intro _
     exact AQ (by omega) (AX _ (by omega) ⟨k+1,rfl,by omega,by omega,rfl,rfl,rfl,hc5⟩)
    have et:tsd (es.take (k+1)) ride day=(tsF ride day (enA es (k:Nat))).getD (tsd (es.take k) ride day):=UA hkl
    have ei:b.ins (es.take (k+1)) ride=(MP ride (enA es (k:Nat))).getD (b.ins (es.take k) ride):=UA hkl
    rw [et,ei] at k48
    clear h48 et ei
    have hsv:=he.s (enA es (k:Nat)) (by rw [Es (by simpa using hkl)];exact List.getElem_mem _)
    refine WC h.e (by omega) (by omega) (Bs (fun e=>k48 _ _ _ ?_ ?_ (hcn.same hkl (.inr e))) (fun e=>Rk h.e (by omega) (by omega) (Az (fun e2=>?_) (fun e2=>?_))))
    ·unfold tsF;rw [if_neg e];rfl
    ·unfold MP;rw [if_neg (fun h=>e h.2)];rfl
    ·refine clB (aW 199) (Aaa h.e (by omega)) (BO (fun e3=>AcE h.e (by omega) (by omega) ?_) (fun e3=>k48 _ _ _ ?_ ?_ (hcn.same hkl (.inl e3))))
     ·have hs:=hsv e2
      have b1:=hcn.2 _ hs.1 hs.2
      have b2:=YE (es:=es) (l:=Jy es k) (ride:=ride) (s:=(enA es (k:Nat)).2.2.2.1)
      have b3:=Ua es k
      refine ⟨by omega,by omega,JC (by omega) (by omega) (AQ (by omega) ⟨by omega,by omega,JC (by omega) (by omega) (k48 _ _ _ ?_ ?_ (hcn.more hkl e3 e hs rfl))⟩)⟩
      ·unfold tsF;rw [if_pos e,if_neg (by omega),if_neg (by omega)];rfl
      ·unfold MP;rw [if_neg (by omega)];rfl
     ·unfold tsF;rw [if_pos e,if_neg (by omega),if_neg (by omega)];rfl
     ·unfold MP;rw [if_neg (by omega)];rfl
    ·have hno:Ug es (k:Nat)=false:=by rw [XW hkl,decide_eq_false e2];rfl
     have hsame:=hcn.same hkl (ride:=ride) (.inl hno)
     refine Az (fun e4=>?_) (fun e4=>Az (fun e6=>k48 _ _ _ ?_ ?_ hsame) (fun e6=>Az (fun e5=>AcE h.e (by omega) (by omega) (k48 _ _ _ ?_ ?_ hsame)) (fun e5=>k48 _ _ _ ?_ ?_ hsame)))
     ·have hi2:b.ins (es.take k) ride=(MP ride (enA es (k:Nat))).getD (b.ins (es.take k) ride):=by unfold MP;rw [if_neg (by omega)];rfl
      refine BO (fun et=>k48 _ _ _ ?_ hi2 hsame) (fun et=>TY h.e (by omega) (by omega) (k48 _ _ _ ?_ hi2 hsame))
      ·unfold tsF;rw [if_pos e,if_pos e4,et];split<;>rfl
      ·unfold tsF;rw [if_pos e,if_pos e4,et]
       by_cases ed:(enA es (k:Nat)).1=day
       ·rw [if_pos ed];exact decide_eq_true ed
       ·rw [if_neg ed];exact decide_eq_false ed
     ·unfold tsF;rw [if_pos e,if_neg e4,if_pos e6];rfl
     ·unfold MP;rw [if_neg (by omega)];rfl
     ·unfold tsF;rw [if_pos e,if_neg e4,if_neg e6];rfl
     ·unfold MP;rw [if_pos ⟨e5,e⟩];rfl
     ·unfold tsF;rw [if_pos e,if_neg e4,if_neg e6];rfl
     ·unfold MP;rw [if_neg (fun h=>e5 h.1)];rfl
   ·obtain rfl:k=es.length:=by omega
    rw [List.take_length]
    exact k14 _ hcn
  refine Bp (fun e=>Dz.2 (AY (by decide) (k7 _ ?_))) (fun e=>Dz.2 (k7 _ ?_))
  ·rw [e];rfl
  ·rw [e];rfl
 refine ⟨fun m t i τ=>∃ k:Nat,m=b.R.length-k/\i=k/\k<=b.R.length/\τ=σ/\t=(List.range k).all (fun r:Nat=>!decide ((b.ru (r:Nat)).1=ride)||b.frc es (r:Nat) day),⟨_,0,rfl,rfl,by omega,rfl,rfl⟩,?_⟩
 rintro m t i τ ⟨k,rfl,rfl,hk,rfl,rfl⟩ _
 refine Az (fun hlt=>?_) (fun hlt=>?_)
 ·have hkl:k<b.R.length:=by omega
  refine Ad fun J88 h88=>?_
  have k88:∀ t,t=((List.range k).all (fun r:Nat=>!decide ((b.ru (r:Nat)).1=ride)||b.frc es (r:Nat) day)&&(!decide ((b.ru (k:Nat)).1=ride)||b.frc es (k:Nat) day))->J88 t τ:=by
   rintro t rfl
   rw [h88]
   intro _
   refine AQ (by omega) (AX _ (by omega) ⟨k+1,rfl,by omega,by omega,rfl,?_⟩)
   rw [List.range_succ,List.all_append]
   simp
  refine BO (fun e=>Y0 h.b.r (by omega) (by omega) (Bs (fun e2=>k88 _ ?_) (fun e2=>clB (aW 200) (Aby h he (by omega) hd) (k88 _ ?_)))) (fun e=>k88 _ ?_)
  ·rw [e];simp [e2]
  ·rw [e];simp [e2]
  ·rw [e];rfl
 ·obtain rfl:k=b.R.length:=by omega
  exact k3
end
theorem AeZ {es:List Ent} {day:Int} {x:Ent} (hx:x∈Bok.upE es day):x.1<=day:=by
 unfold Bok.upE at hx
 obtain ⟨j,hj,rfl⟩:=List.mem_iff_getElem.1 hx
 rw [List.length_take] at hj
 rw [List.getElem_take]
 have:=List.not_of_lt_findIdx (p:=fun x:Ent=>decide (day<x.1)) (xs:=es) (i:=j) (by omega)
 simpa using this
theorem Aeb {ride day:Int} (hd:0<=day) (es:List Ent):es.Pairwise (fun x y=>x.1<=y.1)->(∀ x∈es,x.1<=day)->(tsd es ride day=decide (lst (tsP ride) ride es=day))/\∀ B,0<=B->(∀ x∈es,x.1<=B)->lst (tsP ride) ride es<=B:=by
 refine V9 (P:=fun es=>es.Pairwise (fun x y=>x.1<=y.1)->(∀ x∈es,x.1<=day)->(tsd es ride day=decide (lst (tsP ride) ride es=day))/\∀ B,0<=B->(∀ x∈es,x.1<=B)->lst (tsP ride) ride es<=B) (fun _ _=>⟨?_,fun B hB _=>?_⟩) (fun es x ih hp hb=>?_) es
 ·have:¬ (-1:Int)=day:=by omega
  show false=decide ((-1:Int)=day)
  rw [decide_eq_false this]
 ·show (-1:Int)<=B
  omega
 rw [List.pairwise_append] at hp
 obtain ⟨i1,i2⟩:=ih hp.1 fun y hy=>hb y (by simp [hy])
 have hx:=hb x (by simp)
 have e1:tsd (es++[x]) ride day=(tsF ride day x).getD (tsd es ride day):=JS
 have e2:lst (tsP ride) ride (es++[x])=(F5 (tsP ride) ride x).getD (lst (tsP ride) ride es):=JS
 by_cases hr:x.2.2.1=ride
 ·by_cases h4:x.2.1=4
  ·have ht:tsP ride x=true:=by simp [tsP,h4,hr]
   have e3:lst (tsP ride) ride (es++[x])=x.1:=by rw [e2];unfold F5;rw [if_pos ht];rfl
   refine ⟨?_,fun B _ hB2=>by rw [e3];exact hB2 x (by simp)⟩
   rw [e1,e3]
   unfold tsF
   rw [if_pos hr,if_pos h4]
   by_cases hxd:x.1=day
   ·rw [if_pos hxd];exact (decide_eq_true hxd).symm
   ·rw [if_neg hxd]
    show tsd es ride day=_
    rw [i1,decide_eq_false hxd]
    refine decide_eq_false ?_
    rcases (by omega:x.1<0∨0<=x.1) with h0 | h0
    ·rcases AcA (f:=F5 (tsP ride) ride) (d:=-1) es with e | ⟨y,hy,e⟩
     ·show ¬ scn (F5 (tsP ride) ride) (-1) es=day
      omega
     ·have hyx:=hp.2.2 y hy x (by simp)
      show ¬ scn (F5 (tsP ride) ride) (-1) es=day
      generalize scn (F5 (tsP ride) ride) (-1) es=z at *
      unfold F5 at e
      split at e
      ·cases e;omega
      ·split at e
       ·cases e;omega
       ·cases e
    ·have:=i2 x.1 h0 fun y hy=>hp.2.2 y hy x (by simp)
     omega
  ·have ht:tsP ride x=false:=by simp [tsP,h4]
   by_cases h6:x.2.1=6
   ·have e3:lst (tsP ride) ride (es++[x])=-1:=by rw [e2];unfold F5;rw [ht,if_neg (by decide),if_pos ⟨h6,hr⟩];rfl
    refine ⟨?_,fun B hB _=>by rw [e3];omega⟩
    rw [e1,e3]
    unfold tsF
    rw [if_pos hr,if_neg h4,if_pos h6]
    exact (decide_eq_false (show ¬ (-1:Int)=day by omega)).symm
   ·have e3:lst (tsP ride) ride (es++[x])=lst (tsP ride) ride es:=by rw [e2];unfold F5;rw [ht,if_neg (by decide),if_neg (fun h=>h6 h.1)];rfl
    refine ⟨?_,fun B hB hB2=>by rw [e3];exact i2 B hB fun y hy=>hB2 y (by simp [hy])⟩
    rw [e1,e3]
    unfold tsF
    rw [if_pos hr,if_neg h4,if_neg h6]
    exact i1
 ·have ht:tsP ride x=false:=by simp [tsP,hr]
  have e3:lst (tsP ride) ride (es++[x])=lst (tsP ride) ride es:=by rw [e2];unfold F5;rw [ht,if_neg (by decide),if_neg (fun h=>hr h.2)];rfl
  refine ⟨?_,fun B hB hB2=>by rw [e3];exact i2 B hB fun y hy=>hB2 y (by simp [hy])⟩
  rw [e1,e3]
  unfold tsF
  rw [if_neg hr]
  exact i1
theorem Ad9 {b:Bok} {es:List Ent} {r day:Int} (hd:0<=day):b.frc es r day=!decide (b.unt es r<day):=by
 unfold Bok.frc Bok.unt
 generalize lst (ckP r) (b.ru r).1 es=l
 by_cases h:l<0
 ·have:¬ 0<=l:=by omega
  have h2:(-1:Int)<day:=by omega
  rw [if_pos h,decide_eq_false this,decide_eq_true h2];rfl
 ·have:0<=l:=by omega
  rw [if_neg h,decide_eq_true this,Bool.true_and,← decide_not]
  exact decide_eq_decide.2 (by omega)
theorem ZJ {b:Bok} {es:List Ent} {ride day:Int} (hd:0<=day/\day<=10000):∀ k:Nat,(List.range k).all (fun r:Nat=>!decide ((b.ru (r:Nat)).1=ride)||b.frc es (r:Nat) day)=!decide (b.ckd es ride k<day)
 | 0=>by
  have:¬ (10000:Int)<day:=by omega
  show true=!decide ((10000:Int)<day)
  rw [decide_eq_false this];rfl
 | k+1=>by
  rw [List.range_succ,List.all_append,ZJ hd k]
  simp only [List.all_cons,List.all_nil,Bool.and_true]
  rw [Ad9 hd.1]
  show _=!decide ((if (b.ru (k:Nat)).1=ride then (if b.unt es (k:Nat)<b.ckd es ride k then b.unt es (k:Nat) else b.ckd es ride k) else b.ckd es ride k)<day)
  by_cases h:(b.ru (k:Nat)).1=ride
  ·rw [if_pos h,decide_eq_true h]
   by_cases h1:b.ckd es ride k<day
   ·have:(if b.unt es (k:Nat)<b.ckd es ride k then b.unt es (k:Nat) else b.ckd es ride k)<day:=by split<;>omega
    rw [decide_eq_true h1,decide_eq_true this];rfl
   ·rw [decide_eq_false h1]
    by_cases h2:b.unt es (k:Nat)<day
    ·have:(if b.unt es (k:Nat)<b.ckd es ride k then b.unt es (k:Nat) else b.ckd es ride k)<day:=by split<;>omega
     rw [decide_eq_true h2,decide_eq_true this];rfl
    ·have:¬ (if b.unt es (k:Nat)<b.ckd es ride k then b.unt es (k:Nat) else b.ckd es ride k)<day:=by split<;>omega
     rw [decide_eq_false h2,decide_eq_false this];rfl
  ·rw [if_neg h,decide_eq_false h]
   simp
theorem Aey {b:Bok} {es:List Ent} {ride day:Int} (hd:0<=day/\day<=10000) (he:Pe es) (hu:∀ x∈es,x.1<=day):b.rsn es ride day=b.why es ride day:=by
 unfold Bok.rsn Bok.why Bok.chd
 rw [ZJ hd,(Aeb hd.1 es he.o hu).1]
 congr 1
 congr 1
 ·congr 1
  by_cases h:b.ckd es ride b.R.length<day<;>simp [h]
 ·by_cases h:lst (tsP ride) ride es=day<;>simp [h]
section
variable {σ:Hp} {w:BkW} {E:SL} {b:Bok} {es:List Ent}
theorem X4 {day:Int} (h:LgR σ w E b es) (hc:E.n<=E.c):Af prog 80 #[w.v,E.v,aD day] σ (Ac6 3 aM σ (b.relD es day) (b.dayE es day)):=by
 apply N3
 unfold FI
 refine clI (aW 140) (XE h hc) (Bs (fun e=>Ai ⟨_,_,_,rfl,?_⟩) (fun e=>?_))
 ·have e2:b.relD es day=[]:=if_neg e
  rw [e2];exact Aj.nil ..
 obtain ⟨hck,hd⟩:=Bok.dayE0 e
 obtain ⟨hb,hn,_⟩:=Bok.chk_ok hck
 have he:Pe (Bok.upE es day):=(Bok.chk_es hck).take _
 have e2:b.relD es day=Px b (Bok.upE es day) day b.I.length:=if_pos e
 rw [e2,e]
 have hin:=h.b.in
 have h10:=(Bok.ok_spec hb).2.2.1
 refine Ad fun J10 h10'=>?_
 refine ⟨fun m A n c i τ=>∃ k:Nat,m=b.I.length-k/\i=k/\k<=b.I.length/\Lse (fun a c'=>Aj 3 aM a A n c (Px b (Bok.upE es day) day k) c') σ τ,⟨_,0,rfl,rfl,by omega,⟨_,Aj.nil ..,Hp.Sub.refl _⟩⟩,?_⟩
 rintro m A n c i τ ⟨k,rfl,rfl,hk,ho⟩ _
 have hs:=Lse.sub Au.own ho
 refine Az (fun hlt=>?_) (fun hlt=>?_)
 ·have hkl:k<b.I.length:=by omega
  refine Ad fun J20 h20=>?_
  have k20:∀ A n c t',Lse (fun a c'=>Aj 3 aM a A n c (Px b (Bok.upE es day) day (k+1)) c') σ t'->J20 A n c t':=by
   intro A n c t' ho'
   rw [h20]
   intro _
   exact AQ (by omega) (AX _ (by omega) ⟨k+1,rfl,by omega,by omega,ho'⟩)
  rw [VO] at k20
  refine Bd (aW 142) (AdV (h.sub hs).e hc (by omega)) ?_
  rintro v t1 ⟨rfl,n',rfl,hnc,hu⟩
  refine ⟨_,_,_,rfl,Hp.Sub.refl _,?_⟩
  refine Bd (aW 141) (YJ (E:=⟨E.A,n',E.c⟩) (es:=Bok.upE es day) ⟨(h.sub hs).b,hu⟩ hb he (by omega) hd) ?_
  rintro v t2 ⟨A2,n2,c2,rfl,ho2⟩
  rw [Aey hd he fun x hx=>AeZ hx] at ho2
  have hn2:n2=(b.why (Bok.upE es day) (k:Nat) day).length:=ho2.len
  have ho3:=ho.up ho2.sub
  refine ⟨_,_,_,rfl,Az (fun e2=>?_) (fun e2=>k20 _ _ _ _ ?_)⟩
  ·rw [if_pos (by omega)] at k20
   obtain ⟨s3,ho4,hs4⟩:=Lse.exact Au.own ho3
   refine BX ho4 (AY (by show (Px b (Bok.upE es day) day k).length+1<=_;have:=Uy b (Bok.upE es day) day k;omega) ?_)
   intro A' n' c' t3 ho5
   exact k20 _ _ _ _ (Lse.low Au.own (Lse.of ho5) hs4)
  ·rw [if_neg (by omega)]
   exact ho3
 ·obtain rfl:k=b.I.length:=by omega
  rw [h10']
  intro _
  obtain ⟨s4,h6,h7⟩:=ho
  exact BL h7 ⟨_,_,_,rfl,h6⟩
end
end Go.Proofs.YtoelhdjloaknbaaGreat
