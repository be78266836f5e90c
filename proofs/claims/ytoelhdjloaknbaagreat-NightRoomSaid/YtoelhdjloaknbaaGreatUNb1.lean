/- What this claim rests on. -/
import Derived.Test.YtoelhdjloaknbaaGreatUNa1
namespace Go.Proofs.YtoelhdjloaknbaaGreat
set_option maxRecDepth 100000
open Go.RowKit Go.Proofs.Tryz
theorem Z7 {m i:Nat} (hm:m<2^62):(((BitVec.ofInt (IntKind.bits .i64) (Int.fdiv (m:Int) (2^(min (i:Int).toNat (IntKind.bits .i64)))) &&& BitVec.ofInt (IntKind.bits .i64) 1).toNat:Nat):Int)=if m.testBit i then 1 else 0:=by
 have h1:∀ w,w=64->(((BitVec.ofInt w (Int.fdiv (m:Int) (2^(min (i:Int).toNat w))) &&& BitVec.ofInt w 1).toNat:Nat):Int)=if m.testBit i then 1 else 0:=by
  rintro w rfl
  have e2:((1:Int)%((2^64:Nat):Int)).toNat=2^1-1:=by decide
  rw [BitVec.toNat_and,BitVec.toNat_ofInt,BitVec.toNat_ofInt,e2,Nat.and_two_pow_sub_one_eq_mod]
  have e3:∀ j:Nat,Int.fdiv (m:Int) (2^j)=((m / 2^j:Nat):Int):=fun j=>by
   rw [Int.fdiv_eq_ediv_of_nonneg _ (Int.le_of_lt (Int.pow_pos (by omega)))]
   norm_cast
  have e4:∀ j,m / 2^j<=m:=fun j=>Nat.div_le_self _ _
  have e5:m / 2^(min (i:Int).toNat 64)=m / 2^i:=by
   rw [Int.toNat_natCast]
   rcases Nat.lt_or_ge i 64 with h | h
   ·rw [Nat.min_eq_left (by omega)]
   ·rw [Nat.min_eq_right h]
    have a:m / 2^64=0:=Nat.div_eq_of_lt (by omega)
    have b:m / 2^i=0:=Nat.div_eq_of_lt (Nat.lt_of_lt_of_le hm (Nat.pow_le_pow_right (by omega) (by omega)))
    rw [a,b]
  rw [e3,e5,Nat.testBit,Nat.shiftRight_eq_div_pow,Nat.one_and_eq_mod_two]
  have:=e4 i
  generalize m / 2^i=q at *
  have hq:(((q:Int)%((2^64:Nat):Int)).toNat)=q:=by omega
  rw [hq]
  have:q%2=0∨q%2=1:=by omega
  rcases this with h | h<;>simp [h]
 exact h1 _ rfl
theorem Vk {n:Nat} (h:n<=62):(1*2^(min (n:Int).toNat (IntKind.bits .i64)):Int)=((2^n:Nat):Int):=by
 have h1:∀ w,w=64->(1*2^(min (n:Int).toNat w):Int)=((2^n:Nat):Int):=by
  rintro w rfl
  rw [Int.toNat_natCast,Nat.min_eq_left (by omega),Int.one_mul]
  norm_cast
 exact h1 _ rfl
theorem UW {n:Nat} (h:n<=30):(2^n:Nat)<=1073741824:=Nat.le_trans (Nat.pow_le_pow_right (by omega) h) (by decide)
theorem AaO {a b:Nat} (ha:a<2^62) (hb:b<2^62):(((BitVec.ofInt (IntKind.bits .i64) (a:Int) ||| BitVec.ofInt (IntKind.bits .i64) (b:Int)).toNat:Nat):Int)=((a ||| b:Nat):Int):=by
 have h1:∀ w,w=64->(((BitVec.ofInt w (a:Int) ||| BitVec.ofInt w (b:Int)).toNat:Nat):Int)=((a ||| b:Nat):Int):=by
  rintro w rfl
  rw [BitVec.toNat_or,BitVec.toNat_ofInt,BitVec.toNat_ofInt]
  have e1:(((a:Int)%((2^64:Nat):Int)).toNat)=a:=by omega
  have e2:(((b:Int)%((2^64:Nat):Int)).toNat)=b:=by omega
  rw [e1,e2]
 exact h1 _ rfl
def VV (m i:Nat):Nat:=m ||| 2^i
theorem Vt {m i n:Nat} (hm:m<2^n) (hi:i<n):VV m i<2^n:=Nat.or_lt_two_pow hm (Nat.pow_lt_pow_right (by omega) hi)
abbrev Qd:=Int×Int×Int×Int
abbrev s4:List Sh:=[.int .i64,.int .i64,.int .i64,.int .i64]
structure Sup where
 B:List Qd
 L:List Qd
 p:Int
 h:Int
 v:Int
structure SuW where
 b:SL
 l:SL
def SuW.v (w:SuW) (S:Sup):Value:=.agg #[w.b.v,w.l.v,aD S.p,aD S.h,aD S.v]
structure SuR (σ:Hp) (w:SuW) (S:Sup):Prop where
 b:RdS s4 σ w.b.A w.b.n S.B
 l:RdS s4 σ w.l.A w.l.n S.L
theorem SuR.sub {σ σ':Hp} {w:SuW} {S:Sup} (h:SuR σ w S) (hs:Hp.Sub σ σ'):SuR σ' w S:=⟨h.b.sub hs,h.l.sub hs⟩
theorem SuR.bn {σ:Hp} {w:SuW} {S:Sup} (h:SuR σ w S):w.b.n=S.B.length:=h.b.1
theorem SuR.ln {σ:Hp} {w:SuW} {S:Sup} (h:SuR σ w S):w.l.n=S.L.length:=h.l.1
def P3 (i:Nat) (x:Qd):Bool:=Inn x.1 (-1) ((i:Int)-1)&&Inn x.2.1 1 1000&&Inn x.2.2.1 0 20&&Inn x.2.2.2 1 10000
def P0 (n:Nat) (x:Qd):Bool:=Inn x.1 0 ((n:Int)-1)&&Inn x.2.1 0 2&&Inn x.2.2.1 1 1000&&Inn x.2.2.2 0 1000
def q0:Qd:=(0,0,0,0)
def qA (xs:List Qd) (i:Int):Qd:=xs.getD i.toNat q0
theorem Xn {xs:List Qd} {i:Int} (h:i.toNat<xs.length):qA xs i=xs[i.toNat]:=by unfold qA;simp [List.getD,h]
def Sup.ok1 (S:Sup):Bool:=decide (S.B.length<=10)&&decide (S.L.length<=16)&&Inn S.p 1 1000&&Inn S.h 0 20&&Inn S.v 1 1000
def Sup.okB (S:Sup):Bool:=(List.range S.B.length).all fun i=>P3 i (qA S.B (i:Nat))
def Sup.okL (S:Sup):Bool:=(List.range S.L.length).all fun i=>P0 S.B.length (qA S.L (i:Nat))
def Sup.ok (S:Sup):Bool:=S.ok1&&S.okB&&S.okL
def Sup.e (S:Sup):Int:=if S.ok then 0 else 50
structure Ie (S:Sup):Prop where
 nb:S.B.length<=10
 nl:S.L.length<=16
 p:1<=S.p/\S.p<=1000
 b:∀ i,i<S.B.length->-1<=(qA S.B (i:Nat)).1/\(qA S.B (i:Nat)).1<i/\1<=(qA S.B (i:Nat)).2.1/\(qA S.B (i:Nat)).2.1<=1000
 l:∀ i,i<S.L.length->(0<=(qA S.L (i:Nat)).1/\(qA S.L (i:Nat)).1<S.B.length)/\(0<=(qA S.L (i:Nat)).2.1/\(qA S.L (i:Nat)).2.1<=2)/\1<=(qA S.L (i:Nat)).2.2.1/\(qA S.L (i:Nat)).2.2.1<=1000
theorem Sup.ok_spec {S:Sup} (h:S.ok=true):Ie S:=by
 unfold Sup.ok Sup.ok1 Sup.okB Sup.okL P3 P0 Inn at h
 simp only [Bool.and_eq_true,decide_eq_true_eq,List.all_eq_true,List.mem_range] at h
 obtain ⟨⟨⟨⟨⟨⟨h1,h2⟩,h3⟩,h4⟩,h5⟩,h6⟩,h7⟩:=h
 exact ⟨h1,h2,h3,fun i hi=>by have:=h6 i hi;omega,fun i hi=>by have:=h7 i hi;omega⟩
theorem Sup.e0 {S:Sup} (h:S.e=0):S.ok=true:=by
 unfold Sup.e at h
 split at h
 ·assumption
 ·cases h
section
variable {σ:Hp}
theorem Aa5 {A:aA} {n:Nat} {xs:List Qd} {i:Int} {K:Int->Int->Int->Int->Prop} (h:RdS s4 σ A n xs) (hi:0<=i) (hn:i.toNat<xs.length) (hk:∀ r:Qd,qA xs i=r->K r.1 r.2.1 r.2.2.1 r.2.2.2):
  ix A n i 4 fun b a=>ldI σ .i64 b a fun x1=>ldI σ .i64 b (a+1) fun x2=>ldI σ .i64 b (a+2) fun x3=>ldI σ .i64 b (a+3) fun x4=>K x1 x2 x3 x4:=by
 refine Eg (ss:=s4) h rfl hi hn fun b o hc=>?_
 exact AV (hc 0 (by decide)) (AV (hc 1 (by decide)) (AV (hc 2 (by decide)) (AV (hc 3 (by decide)) (hk _ (Xn hn)))))
theorem Abr {A:aA} {n:Nat} {xs:List Qd} {i:Int} {K:Int->Prop} (h:RdS s4 σ A n xs) (hi:0<=i) (hn:i.toNat<xs.length) (hk:K (qA xs i).1):ix A n i 4 fun b a=>ldI σ .i64 b a K:=by
 refine Eg (ss:=s4) h rfl hi hn fun b o hc=>AV (hc 0 (by decide)) ?_
 rw [Xn hn] at hk
 exact hk
theorem Abh {A:aA} {n:Nat} {xs:List Qd} {i:Int} {K:Int->Prop} (h:RdS s4 σ A n xs) (hi:0<=i) (hn:i.toNat<xs.length) (hk:K (qA xs i).2.1):ix A n i 4 fun b a=>ldI σ .i64 b (a+1) K:=by
 refine Eg (ss:=s4) h rfl hi hn fun b o hc=>AV (hc 1 (by decide)) ?_
 rw [Xn hn] at hk
 exact hk
theorem VW {n lo hi:Int}:Af prog 129 #[aD n,aD lo,aD hi] σ fun v σ'=>v=.bool (Inn n lo hi)/\σ'=σ:=by
 apply M4
 unfold GE
 refine AF (fun h=>Al ⟨?_,rfl⟩) (fun h=>Al ⟨?_,rfl⟩)
 ·simp [Inn,h]
 ·simp [Inn,h]
theorem JE {n lo hi:Int} {K:Bool->Hp->Prop} (h:K (Inn n lo hi) σ):aC 129 #[aD n,aD lo,aD hi] σ fun v σ'=>∃ t:Bool,(v=.bool t/\K t σ'):=clB (aV 129) VW h
theorem ZC {n:Nat} {p:Nat->Bool} (h:∀ j,j<n->p j=true):(List.range n).all p=true:=List.all_eq_true.2 fun j hj=>h j (List.mem_range.1 hj)
theorem XB {n k:Nat} {p:Nat->Bool} (hk:k<n) (h:p k=false):(List.range n).all p=false:=by
 cases e:(List.range n).all p with
 | false=>rfl
 | true=>
  rw [List.all_eq_true.1 e k (List.mem_range.2 hk)] at h
  cases h
theorem W8 {a b c d:Bool} (ha:a=true) (hb:b=true) (hc:c=true):(!(a&&b&&c&&d))=!d:=by subst ha hb hc;rfl
theorem Tf {w:SuW} {S:Sup} (h:SuR σ w S):Af prog 70 #[w.v S] σ fun v σ'=>v=aD S.e/\σ'=σ:=by
 apply Oh
 unfold HO
 have hbn:=h.bn
 have hln:=h.ln
 have hbni:(w.b.n:Int)=S.B.length:=by rw [hbn]
 refine Ah fun J3 h3=>?_
 have k3:S.ok1=true->J3 σ:=by
  intro h1
  have h1':=h1
  unfold Sup.ok1 at h1'
  simp only [Bool.and_eq_true,decide_eq_true_eq] at h1'
  rw [h3]
  intro _
  refine Ah fun J6 h6=>?_
  have k6:S.okB=true->J6 σ:=by
   intro h2
   rw [h6]
   intro _
   refine Ah fun J9 h9=>?_
   have k9:S.okL=true->J9 σ:=by
    intro h4
    rw [h9]
    intro _
    refine Al ⟨?_,rfl⟩
    unfold Sup.e Sup.ok
    rw [h1,h2,h4];rfl
   clear h9
   refine ⟨fun m i τ=>∃ k:Nat,m=S.L.length-k/\i=k/\k<=S.L.length/\τ=σ/\∀ j,j<k->P0 S.B.length (qA S.L (j:Nat))=true,⟨_,0,rfl,rfl,by omega,rfl,fun j hj=>by omega⟩,?_⟩
   rintro m i τ ⟨k,rfl,rfl,hk,rfl,hj⟩ _
   refine AF (fun hlt=>?_) (fun hlt=>?_)
   ·have hkl:k<S.L.length:=by omega
    refine Ah fun J17 h17=>Aa5 h.l (by omega) (by omega) fun r hr=>?_
    refine Ah fun J29 h29=>?_
    have k29:∀ t,t=!P0 S.B.length r->J29 t τ:=by
     rintro t rfl
     rw [h29]
     intro _
     refine B5 (fun e=>Al ⟨?_,rfl⟩) (fun e=>?_)
     ·have:S.okL=false:=XB hkl (by rw [hr];exact e)
      unfold Sup.e Sup.ok
      rw [this,Bool.and_false];rfl
     ·rw [h17]
      intro _
      refine AS (by omega) (Be _ (by omega) ⟨k+1,rfl,by omega,by omega,rfl,fun j h1=>?_⟩)
      rcases Nat.lt_or_ge j k with h2 | h2
      ·exact hj j h2
      ·obtain rfl:j=k:=by omega
       rw [hr];exact e
    clear h29 h17
    refine AS (by omega) ?_
    rw [hbni]
    refine JE (B5 (fun e=>k29 _ ?_) (fun e1=>JE (B5 (fun e=>k29 _ ?_) (fun e2=>JE (B5 (fun e=>k29 _ ?_) (fun e3=>JE (k29 _ ?_)))))))
    ·unfold P0;rw [e];rfl
    ·unfold P0;rw [e1,e];rfl
    ·unfold P0;rw [e1,e2,e];rfl
    ·exact (W8 e1 e2 e3).symm
   ·exact k9 (ZC fun j h=>hj j (by omega))
  clear h6
  refine ⟨fun m i τ=>∃ k:Nat,m=S.B.length-k/\i=k/\k<=S.B.length/\τ=σ/\∀ j,j<k->P3 j (qA S.B (j:Nat))=true,⟨_,0,rfl,rfl,by omega,rfl,fun j hj=>by omega⟩,?_⟩
  rintro m i τ ⟨k,rfl,rfl,hk,rfl,hj⟩ _
  refine AF (fun hlt=>?_) (fun hlt=>?_)
  ·have hkl:k<S.B.length:=by omega
   refine Ah fun J17 h17=>Aa5 h.b (by omega) (by omega) fun r hr=>?_
   refine Ah fun J29 h29=>?_
   have k29:∀ t,t=!P3 k r->J29 t τ:=by
    rintro t rfl
    rw [h29]
    intro _
    refine B5 (fun e=>Al ⟨?_,rfl⟩) (fun e=>?_)
    ·have:S.okB=false:=XB hkl (by rw [hr];exact e)
     unfold Sup.e Sup.ok
     rw [this,Bool.and_false];rfl
    ·rw [h17]
     intro _
     refine AS (by omega) (Be _ (by omega) ⟨k+1,rfl,by omega,by omega,rfl,fun j h1=>?_⟩)
     rcases Nat.lt_or_ge j k with h2 | h2
     ·exact hj j h2
     ·obtain rfl:j=k:=by omega
      rw [hr];exact e
   clear h29 h17
   refine AS (by omega) ?_
   refine JE (B5 (fun e=>k29 _ ?_) (fun e1=>JE (B5 (fun e=>k29 _ ?_) (fun e2=>JE (B5 (fun e=>k29 _ ?_) (fun e3=>JE (k29 _ ?_)))))))
   ·unfold P3;rw [e];rfl
   ·unfold P3;rw [e1,e];rfl
   ·unfold P3;rw [e1,e2,e];rfl
   ·exact (W8 e1 e2 e3).symm
  ·exact k6 (ZC fun j h=>hj j (by omega))
 clear h3
 refine Ah fun J80 h80=>?_
 have k80:∀ t,t=!S.ok1->J80 t σ:=by
  rintro t rfl
  rw [h80]
  intro _
  refine B5 (fun e=>Al ⟨?_,rfl⟩) (fun e=>k3 e)
  unfold Sup.e Sup.ok
  rw [e];rfl
 clear h80 k3
 refine AF (fun e=>k80 _ ?_) (fun e1=>AF (fun e=>k80 _ ?_) (fun e2=>JE (B5 (fun e=>k80 _ ?_) (fun e3=>JE (B5 (fun e=>k80 _ ?_) (fun e4=>JE (k80 _ ?_)))))))
 ·have:¬ S.B.length<=10:=by omega
  simp [Sup.ok1,this]
 ·have:¬ S.L.length<=16:=by omega
  simp [Sup.ok1,this]
 ·simp [Sup.ok1,e]
 ·simp [Sup.ok1,e]
 ·have a:S.B.length<=10:=by omega
  have b:S.L.length<=16:=by omega
  simp [Sup.ok1,a,b,e3,e4]
def Sup.eS (S:Sup) (set:Int):Int:=if S.e=0 then if Inn set 0 ((2^S.L.length:Nat)-1:Int) then 0 else 1 else S.e
theorem US {w:SuW} {S:Sup} (h:SuR σ w S) {set:Int}:Af prog 132 #[w.v S,aD set] σ fun v σ'=>v=aD (S.eS set)/\σ'=σ:=by
 apply LW
 unfold E5
 refine clI (aV 70) (Tf h) (BQ (fun e=>Al ⟨?_,rfl⟩) (fun e=>?_))
 ·unfold Sup.eS;rw [if_neg e]
 have hok:=Sup.ok_spec (Sup.e0 e)
 have hln:=h.ln
 have hl:=hok.nl
 have hp:=UW (n:=S.L.length) (by omega)
 have hp0:0<2^S.L.length:=Nat.pow_pos (by omega)
 have hc:Af prog 193 #[w.v S,aD set] σ fun v σ'=>v=.bool (Inn set 0 ((2^S.L.length:Nat)-1:Int))/\σ'=σ:=by
  apply Pp
  unfold Jd
  rw [Vk (n:=w.l.n) (by omega),hln]
  refine ⟨by omega,AS (by omega) (AS (by omega) (JE (Al ⟨rfl,rfl⟩)))⟩
 refine clB (aV 193) hc (B5 (fun e2=>Al ⟨?_,rfl⟩) (fun e2=>Al ⟨?_,rfl⟩))
 ·unfold Sup.eS;rw [if_pos e,e2];rfl
 ·unfold Sup.eS;rw [if_pos e,e2];rfl
end
abbrev T3:=Int×Int×Int
abbrev s3:List Sh:=[.int .i64,.int .i64,.int .i64]
def tc (x:T3) (ph:Int):Int:=if ph=0 then x.1 else if ph=1 then x.2.1 else x.2.2
def tS (x:T3) (ph v:Int):T3:=if ph=0 then (v,x.2.1,x.2.2) else if ph=1 then (x.1,v,x.2.2) else (x.1,x.2.1,v)
def tA (xs:List T3) (i:Int):T3:=xs.getD i.toNat (0,0,0)
theorem W9 {xs:List T3} {i:Int} (h:i.toNat<xs.length):tA xs i=xs[i.toNat]:=by unfold tA;simp [List.getD,h]
def Sf (ph a:Int) (xs:List T3) (i:Int):List T3:=xs.set i.toNat (tS (tA xs i) ph (tc (tA xs i) ph+a))
theorem Qv {ph a:Int} {xs:List T3} {i:Int}:(Sf ph a xs i).length=xs.length:=by simp [Sf]
def N9 (M:Int) (xs:List T3):Prop:=∀ i:Nat,∀ ph,0<=tc (tA xs (i:Nat)) ph/\tc (tA xs (i:Nat)) ph<=M
theorem Abo {x:T3} {ph v ph':Int}:tc (tS x ph v) ph'=if ph=ph'∨(ph≠0/\ph≠1/\ph'≠0/\ph'≠1) then v else tc x ph':=by
 unfold tc tS
 by_cases h0:ph=0<;>by_cases h1:ph=1<;>by_cases g0:ph'=0<;>by_cases g1:ph'=1<;>simp_all<;>omega
theorem N9.add {M a ph:Int} {xs:List T3} (h:N9 M xs) (ha:0<=a/\a<=1000) {i:Int}:N9 (M+1000) (Sf ph a xs i):=by
 intro j ph'
 have hj:=h j ph'
 unfold Sf tA
 by_cases e:j=i.toNat
 ·subst e
  by_cases hl:i.toNat<xs.length
  ·rw [Int.toNat_natCast,List.getD_eq_getElem?_getD,List.getElem?_set_self hl,Option.getD_some,Abo]
   have h1:=h i.toNat ph
   unfold tA at hj h1
   rw [Int.toNat_natCast] at hj h1
   split<;>omega
  ·rw [List.set_eq_of_length_le (by omega)]
   unfold tA at hj
   omega
 ·rw [Int.toNat_natCast,List.getD_eq_getElem?_getD,List.getElem?_set_ne (by omega),← List.getD_eq_getElem?_getD]
  unfold tA at hj
  rw [Int.toNat_natCast] at hj
  omega
theorem N9.up {M M':Int} {xs:List T3} (h:N9 M xs) (hm:M<=M'):N9 M' xs:=fun i ph=>by have:=h i ph;omega
theorem Ak.putX {e:TypeId} {ss:List Sh} {σ σ':Hp} {A:aA} {n c:Nat} {xs:List (TyR ss)} (h:Ak e ss σ A n c xs σ') {i:Nat} (hi:i<xs.length):
  ∃ b off,A=some ⟨b,off,none⟩/\(∃ x,σ' b=some x)/\∀ j v r,setR ss xs[i] j v=some r->σ'.wr ⟨b,off+(i*ss.length+j),none⟩/\Ak e ss σ A n c (xs.set i r) (σ'.put ⟨b,off+(i*ss.length+j),none⟩ v):=by
 rcases h with ⟨h1,h2,h3,rfl,rfl⟩ | ⟨b,off,cells,hA,hn,hnc,hb,rfl,hsz,hr⟩
 ·simp at hi
 ·refine ⟨b,off,hA,⟨_,Hp.ins_same ..⟩,fun j v r hset=>?_⟩
  obtain ⟨hj,_,_⟩:=MW hset
  have hlt:i*ss.length+j<c*ss.length:=Oc (by omega) hj
  refine ⟨⟨cells,e,Hp.ins_same ..,show off+(i*ss.length+j)<cells.size by omega,rfl⟩,?_⟩
  rw [E7 (Hp.ins_same ..),U7]
  exact .inr ⟨b,off,_,hA,by simpa using hn,hnc,hb,rfl,by simpa using hsz,hr.set hi hset (by omega)⟩
section
variable {σ:Hp}
theorem Aam {τ:Hp} {A:aA} {n:Nat} {xs:List T3} {i ph:Int} {K:Int->Prop} (h:RdS s3 τ A n xs) (hi:0<=i) (hn:i.toNat<xs.length) (hp:0<=ph/\ph<=2) (hk:K (tc (tA xs i) ph)):
  ix A n i 3 fun b a=>ix (some ⟨b,a,none⟩) 3 ph 1 fun b' a'=>ldI τ .i64 b' a' K:=by
 refine Eg (ss:=s3) h rfl hi hn fun b o hc=>?_
 rw [W9 hn] at hk
 have h3:ph=0∨ph=1∨ph=2:=by omega
 rcases h3 with rfl | rfl | rfl
 ·exact ⟨by decide,by decide,AV (hc 0 (by decide)) hk⟩
 ·exact ⟨by decide,by decide,AV (hc 1 (by decide)) hk⟩
 ·exact ⟨by decide,by decide,AV (hc 2 (by decide)) hk⟩
theorem Aag {e:TypeId} {σ' τ:Hp} {l:List (Nat×Obj)} {A:aA} {n c:Nat} {xs:List T3} {i ph v:Int} {K:Hp->Prop} (h:Ak e s3 σ A n c xs σ') (hB:Bxs l σ' τ) (hi:0<=i) (hn:i.toNat<xs.length) (hp:0<=ph/\ph<=2)
  (hk:∀ σ2 t',Ak e s3 σ A n c (xs.set i.toNat (tS (tA xs i) ph v)) σ2->Bxs l σ2 t'->K t'):
  ix A n i 3 fun b a=>ix (some ⟨b,a,none⟩) 3 ph 1 fun b' a'=>st τ b' a' (aD v) K:=by
 have hl:n=xs.length:=h.len
 obtain ⟨b,off,rfl,⟨x,hx⟩,hput⟩:=h.putX hn
 rw [W9 hn] at hk
 have key:∀ (j:Nat) (r:T3),(j:Int)=ph->setR s3 xs[i.toNat] j (aD v)=some r->tS xs[i.toNat] ph v=r->j<3->st τ b (off+KU i.toNat 3+KU j 1) (aD v) K:=by
  intro j r hj hr he hj3
  obtain ⟨hw,ho⟩:=hput j (aD v) r hr
  have ea:off+KU i.toNat 3+KU j 1=off+(i.toNat*s3.length+j):=by
   rw [Ce,Ce];show off+i.toNat*3+j*1=off+(i.toNat*3+j);omega
  rw [ea]
  obtain ⟨c',e',h1,h2,h3⟩:=hw
  refine ⟨⟨c',e',hB.sub _ _ h1,h2,h3⟩,hk _ _ ?_ (Ay.put Bxs.port hB hx _)⟩
  rw [he]
  exact ho
 have h3:ph=0∨ph=1∨ph=2:=by omega
 refine ⟨hi,by omega,?_⟩
 rcases h3 with rfl | rfl | rfl
 ·exact ⟨by decide,by decide,key 0 _ rfl rfl rfl (by decide)⟩
 ·exact ⟨by decide,by decide,key 1 _ rfl rfl rfl (by decide)⟩
 ·exact ⟨by decide,by decide,key 2 _ rfl rfl rfl (by decide)⟩
def Sup.par (S:Sup) (b:Int):Int:=(qA S.B b).1
def Sup.pthF (S:Sup):Nat->Int->List Int
 | 0,_=>[]
 | f+1,b=>if 0<=b then b::S.pthF f (S.par b) else []
def Sup.pth (S:Sup) (b:Int):List Int:=S.pthF (b+1).toNat b
theorem Ie.par {S:Sup} (h:Ie S) {b:Int} (h0:0<=b) (h1:b<S.B.length):-1<=S.par b/\S.par b<b:=by
 have:=h.b b.toNat (by omega)
 have e:(b.toNat:Int)=b:=by omega
 rw [e] at this
 exact ⟨this.1,this.2.1⟩
theorem Ie.pthF {S:Sup} (h:Ie S):∀ (f g:Nat) (b:Int),b<S.B.length->(b+1).toNat<=f->(b+1).toNat<=g->S.pthF f b=S.pthF g b
 | 0,0,_,_,_,_=>rfl
 | 0,g+1,b,_,h1,_=>by
  have:¬ 0<=b:=by omega
  simp [Sup.pthF,this]
 | f+1,0,b,_,_,h2=>by
  have:¬ 0<=b:=by omega
  simp [Sup.pthF,this]
 | f+1,g+1,b,hb,h1,h2=>by
  unfold Sup.pthF
  by_cases e:0<=b
  ·rw [if_pos e,if_pos e]
   have:=h.par e hb
   rw [h.pthF f g (S.par b) (by omega) (by omega) (by omega)]
  ·rw [if_neg e,if_neg e]
theorem Ie.pth_cons {S:Sup} (h:Ie S) {b:Int} (h0:0<=b) (h1:b<S.B.length):S.pth b=b::S.pth (S.par b):=by
 have:=h.par h0 h1
 unfold Sup.pth
 have e:(b+1).toNat=b.toNat+1:=by omega
 rw [e,Sup.pthF,if_pos h0,h.pthF b.toNat (S.par b+1).toNat (S.par b) (by omega) (by omega) (by omega)]
theorem Sup.pth_nil {S:Sup} {b:Int} (h:b<0):S.pth b=[]:=by
 unfold Sup.pth
 have e:(b+1).toNat=0:=by omega
 rw [e];rfl
abbrev suO (w:SuW) (S:Sup):Obj:=.cells #[w.b.v,w.l.v,aD S.p,aD S.h,aD S.v] 33 (0,0)
abbrev inO (n:Int):Obj:=.cells #[aD n] 3 (0,0)
theorem AbM {w:SuW} {S:Sup} {b:Int}:Af prog 251 #[w.v S,aD b] σ fun v σ'=>∃ b1 b3,v=.func (.func 277) #[] #[.pointer (some ⟨b1,0,none⟩),.pointer (some ⟨b3,0,none⟩)]/\Bxs [(b1,inO b),(b3,suO w S)] σ σ':=by
 apply Rd
 intro b1 n1 b3 n3
 exact Al ⟨b1,b3,rfl,_,⟨n1,rfl⟩,_,⟨n3,rfl⟩,rfl⟩
theorem Aa3 {y:Value} {b1 b3:Nat} {w:SuW} {S:Sup} {c:Int} {I:Int->Hp->Prop} {Q:Hp->Prop} (hS:Ie S) (hc:-1<=c/\c<S.B.length)
  (hI:∀ (c:Int) τ,I c τ->τ b1=some (inO c,true))
  (hy:∀ (c:Int) τ,0<=c->c<S.B.length->I c τ->B7 prog y #[aD c] τ fun v t'=>v=.bool true/\t' b1=some (inO c,true)/\t' b3=some (suO w S,true)/\SuR t' w S/\I (S.par c) (t'.ins b1 (inO (S.par c))))
  (hz:∀ (c:Int) τ,c<0->I c τ->B7 prog y #[aD (-1)] τ fun v t'=>(∃ t:Bool,v=.bool t)/\Q t')
  (h0:I c σ):Af prog 277 #[y,.pointer (some ⟨b1,0,none⟩),.pointer (some ⟨b3,0,none⟩)] σ fun _ σ'=>Q σ':=by
 apply Pf
 unfold Jr
 refine Ah fun J3 h3=>?_
 refine ⟨fun q τ=>∃ c:Int,q=(c+1).toNat/\-1<=c/\c<S.B.length/\I c τ,⟨_,c,rfl,hc.1,hc.2,h0⟩,?_⟩
 rintro q τ ⟨c,rfl,hc1,hc2,hIc⟩ _
 have g1:=hI _ _ hIc
 refine AG (Bh g1 rfl (AF (fun hlt=>AG (Bh g1 rfl ?_)) (fun hge=>?_)))
 ·refine B7.mono (hy c τ hlt hc2 hIc) ?_
  rintro v t' ⟨rfl,g2,g3,hs,hn⟩
  have hp:=hS.par hlt hc2
  have hbn:=hs.bn
  refine ⟨true,rfl,Abb (AG (Bu g3 rfl (AG (Bh g2 rfl (Abr hs.b hlt (by omega) (AG ⟨KF g2 Nat.zero_lt_one,?_⟩))))))⟩
  rw [E7 g2]
  exact Be _ (by show (S.par c+1).toNat<_;omega) ⟨S.par c,rfl,hp.1,by omega,hn⟩
 ·rw [h3]
  intro _
  refine B7.mono (hz c τ (by omega) hIc) ?_
  rintro v t' ⟨⟨t,rfl⟩,hq⟩
  exact ⟨t,rfl,Al hq⟩
def Sup.put1 (S:Sup) (xs:List T3) (r:Qd) (c:Int):List T3:=Sf r.2.1 r.2.2.1 ((S.pth c).foldl (Sf r.2.1 r.2.2.1) xs) S.B.length
def Sup.cur (S:Sup) (m:Nat):Nat->List T3
 | 0=>List.replicate (S.B.length+1) (0,0,0)
 | k+1=>if m.testBit k then S.put1 (S.cur m k) (qA S.L (k:Nat)) (qA S.L (k:Nat)).1 else S.cur m k
theorem Rh {ph a:Int}:∀ (l:List Int) (xs:List T3),(l.foldl (Sf ph a) xs).length=xs.length
 | [],_=>rfl
 | x::l,xs=>by rw [List.foldl_cons,Rh l,Qv]
theorem Sup.put1_len {S:Sup} {xs:List T3} {r:Qd} {c:Int}:(S.put1 xs r c).length=xs.length:=by unfold Sup.put1;rw [Qv,Rh]
theorem Sup.cur_len {S:Sup} {m:Nat}:∀ k,(S.cur m k).length=S.B.length+1
 | 0=>by simp [Sup.cur]
 | k+1=>by
  unfold Sup.cur
  split
  ·rw [Sup.put1_len,Sup.cur_len k]
  ·exact Sup.cur_len k
end
theorem Sup.pthF_len {S:Sup}:∀ (f:Nat) (b:Int),(S.pthF f b).length<=f
 | 0,_=>Nat.le_refl _
 | f+1,b=>by
  unfold Sup.pthF
  split
  ·rw [List.length_cons];have:=Sup.pthF_len (S:=S) f (S.par b);omega
  ·exact Nat.zero_le _
theorem N9.fold {ph a:Int} (ha:0<=a/\a<=1000):∀ (l:List Int) {M:Int} {xs:List T3},N9 M xs->N9 (M+1000*l.length) (l.foldl (Sf ph a) xs)
 | [],M,xs,h=>by simpa using h
 | x::l,M,xs,h=>by
  rw [List.foldl_cons]
  refine (N9.fold ha l (h.add ha)).up ?_
  rw [List.length_cons]
  omega
theorem Ie.cur_bnd {S:Sup} (h:Ie S) {m:Nat}:∀ k,k<=S.L.length->N9 (20000*k) (S.cur m k)
 | 0,_=>fun i ph=>by
  have e:tA (S.cur m 0) (i:Nat)=(0,0,0):=by
   unfold Sup.cur tA
   rw [List.getD_eq_getElem?_getD,List.getElem?_replicate]
   split<;>rfl
  rw [e]
  have:tc (0,0,0) ph=0:=by
   unfold tc
   split
   ·rfl
   ·split<;>rfl
  rw [this]
  omega
 | k+1,hk=>by
  have ih:=h.cur_bnd (m:=m) k (by omega)
  have hl:=h.l k (by omega)
  have hnb:=h.nb
  unfold Sup.cur
  split
  ·unfold Sup.put1
   refine ((ih.fold ⟨by omega,hl.2.2.2⟩ _).add ⟨by omega,hl.2.2.2⟩).up ?_
   have:=Sup.pthF_len (S:=S) ((qA S.L (k:Nat)).1+1).toNat (qA S.L (k:Nat)).1
   unfold Sup.pth
   omega
  ·exact ih.up (by omega)
theorem Abq {n lo hi:Int} (h:Inn n lo hi=true):lo<=n/\n<=hi:=of_decide_eq_true h
section
variable {σ:Hp} {w:SuW} {S:Sup}
abbrev slO (s:SL):Obj:=.cells #[s.v] 263 (0,0)
abbrev loO (r:Qd):Obj:=.cells #[aD r.1,aD r.2.1,aD r.2.2.1,aD r.2.2.2] 140 (0,0)
theorem SN {b17 b1 b3 b45 lb:Nat} {s:SL} {o1 o3 ol:Obj} {r:Qd} {s1 σ2 τ:Hp} {xs:List T3} {q:Int} {K:Hp->Prop} (hq:0<=q) (hq2:q.toNat<xs.length) (hr:0<=r.2.1/\r.2.1<=2) (ha:0<=r.2.2.1/\r.2.2.1<=1000) (hb:N9 400000 xs)
  (ho:Ak 266 s3 s1 s.A s.n s.c xs σ2) (hB:Bxs [(b17,slO s),(b1,o1),(b3,o3),(b45,loO r),(lb,ol)] σ2 τ)
  (hk:∀ s2' t',Ak 266 s3 s1 s.A s.n s.c (Sf r.2.1 r.2.2.1 xs q) s2'->Bxs [(b17,slO s),(b1,o1),(b3,o3),(b45,loO r),(lb,ol)] s2' t'->K t'):
  dr (some ⟨b17,0,none⟩) fun b61 o62=>ldS τ b61 o62 fun A63 l63 _=>ldI τ .i64 b45 1 fun n64=>ix A63 l63 q 3 fun b65 a66=>ix (some ⟨b65,a66,none⟩) 3 n64 1 fun b67 a68=>
   ldI τ .i64 b67 a68 fun n69=>ldI τ .i64 b45 2 fun n70=>wk .i64 (n69+n70) fun n71=>ix A63 l63 q 3 fun b72 a73=>ix (some ⟨b72,a73,none⟩) 3 n64 1 fun b74 a75=>st τ b74 a75 (aD n71) K:=by
 refine AG (Bu (hB.at (k:=0) rfl) rfl (Bh (hB.at (k:=3) rfl) rfl (Aam (ho.rd.sub hB.sub) hq hq2 hr (Bh (hB.at (k:=3) rfl) rfl (AS ?_ (Aag ho hB hq hq2 hr hk))))))
 have:=hb q.toNat r.2.1
 rw [show (q.toNat:Int)=q by omega] at this
 omega
theorem Uk {m:Nat} (h:SuR σ w S) (hS:Ie S) (hm:m<2^62):Af prog 194 #[w.v S,aD (m:Nat)] σ (ZF 266 s3 σ (S.cur m S.L.length)):=by
 apply LP
 unfold Fd
 have hbn:=h.bn
 have hln:=h.ln
 have hnb:=hS.nb
 have hnl:=hS.nl
 refine AS (by omega) ⟨by omega,by omega,by omega,Ah fun J4 h4=>?_⟩
 refine ⟨fun q p19 p20 i τ=>∃ (k b13 b17:Nat) (s:SL) (s1 σ2:Hp),q=S.L.length-k/\i=k/\k<=S.L.length/\p19=some ⟨b13,0,none⟩/\p20=some ⟨b17,0,none⟩/\Blk b13 (suO w S) σ s1/\Ak 266 s3 s1 s.A s.n s.c (S.cur m k) σ2/\Bxs [(b17,slO s)] σ2 τ,⟨S.L.length,?_⟩,?_⟩
 ·intro b13 n13 A n c s16 ho b17 n17
  refine ⟨0,b13,b17,⟨A,n,c⟩,_,_,rfl,rfl,by omega,rfl,rfl,⟨n13,rfl⟩,?_,_,⟨n17,rfl⟩,rfl⟩
  have e:S.cur m 0=List.replicate ((w.b.n:Int)+1).toNat (0,0,0):=by
   unfold Sup.cur
   congr 1
   omega
  rw [e]
  exact ho
 rintro q p19 p20 i τ ⟨k,b13,b17,s,s1,σ2,rfl,rfl,hk,rfl,rfl,hb13,ho,hB⟩ _
 have hs1:Hp.Sub σ τ:=hb13.nin.trans (ho.sub.trans hB.sub)
 refine AF (fun hlt=>?_) (fun hlt=>?_)
 ·have hkl:k<S.L.length:=by omega
  refine Ah fun J24 h24=>Aa5 (h.sub hs1).l (by omega) (by omega) fun r hr=>?_
  have k24:∀ s2' l' t',Ak 266 s3 s1 s.A s.n s.c (S.cur m (k+1)) s2'->Bxs ([(b17,slO s)]++l') s2' t'->J24 t':=by
   intro s2' l' t' ho' hB'
   rw [h24]
   intro _
   obtain ⟨t,h1,h2⟩:=Bxs.cut hB'
   exact AS (by omega) (Un (S.L.length-(k+1)) (by omega) h2.sub ⟨k+1,b13,b17,s,s1,_,rfl,by omega,by omega,rfl,rfl,hb13,ho',h1⟩)
  clear h24
  have hrl:=hS.l k hkl
  have hbd:=hS.cur_bnd (m:=m) k (by omega)
  rw [hr] at hrl
  have ecur:S.cur m (k+1)=if m.testBit k then S.put1 (S.cur m k) r r.1 else S.cur m k:=by rw [Sup.cur,hr]
  rw [ecur] at k24
  refine ⟨by omega,?_⟩
  rw [Z7 hm]
  refine AS (by split<;>omega) (AF (fun e=>k24 σ2 [] τ ?_ hB) (fun e=>?_))
  ·have:m.testBit k=false:=by
    cases hc:m.testBit k with
    | false=>rfl
    | true=>rw [hc] at e;cases e
   rw [this];exact ho
  have htb:m.testBit k=true:=by
   cases hc:m.testBit k with
   | true=>rfl
   | false=>rw [hc] at e;exact absurd rfl e
  rw [if_pos htb] at k24
  clear e ecur htb
  have g13:∀ {xs σ2 l τ},Ak 266 s3 s1 s.A s.n s.c xs σ2->Bxs l σ2 τ->τ b13=some (suO w S,true):=fun h1 h2=>h2.sub _ _ (h1.sub _ _ hb13.get)
  have g:=g13 ho hB
  refine AG (Bu g rfl (Bu g rfl (Bh g rfl (Bh g rfl (Bh g rfl ?_)))))
  refine AW (aV 251) AbM ?_
  rintro v s43 ⟨b1,b3,rfl,hBu⟩
  refine ⟨_,rfl,?_⟩
  intro b45 n45 lb Rec nlb hcall
  have hB0:Bxs [(b17,slO s),(b1,inO r.1),(b3,suO w S),(b45,loO r),(lb,Rec .ready none)] σ2 _:=((hB.app hBu).ins n45 (loO r)).ins nlb (Rec .ready none)
  have hlen:(S.cur m k).length=S.B.length+1:=Sup.cur_len k
  refine UZ.nf (aV 277) (Af.mono (Aa3 (w:=w) (S:=S) (y:=.func (.yield lb) #[] #[]) (b1:=b1) (b3:=b3) (c:=r.1)
   (I:=fun c τ=>∃ (σ2:Hp) (xs:List T3) (i:Nat),(i:Int)+c<=9/\-1<=c/\xs.length=S.B.length+1/\N9 (20000*k+1000*i) xs/\S.put1 xs r c=S.put1 (S.cur m k) r r.1/\Ak 266 s3 s1 s.A s.n s.c xs σ2/\Bxs [(b17,slO s),(b1,inO c),(b3,suO w S),(b45,loO r),(lb,Rec .ready none)] σ2 τ)
   (Q:=fun τ=>∃ (σ2:Hp) (c:Int),Ak 266 s3 s1 s.A s.n s.c (S.put1 (S.cur m k) r r.1) σ2/\Bxs [(b17,slO s),(b1,inO c),(b3,suO w S),(b45,loO r),(lb,Rec .ready none)] σ2 τ)
   hS (by omega) (fun c τ hh=>?_) (fun c τ hc0 hc1 hh=>?_) (fun c τ hc hh=>?_) ⟨σ2,S.cur m k,0,by omega,by omega,hlen,hbd.up (by omega),rfl,ho,hB0⟩) ?_)
  ·obtain ⟨σ2,xs,i,_,_,_,_,_,_,hB⟩:=hh
   exact hB.at (k:=1) rfl
  ·obtain ⟨σ2,xs,i,hi,_,hxl,hxb,hfin,ho,hB⟩:=hh
   have glb:=hB.at (k:=4) rfl
   refine hcall _ _ _ glb ⟨_,rfl,fun _=>⟨glb,?_⟩⟩
   have hB:Bxs [(b17,slO s),(b1,inO c),(b3,suO w S),(b45,loO r),(lb,Rec .busy none)] σ2 _:=hB.set (k:=4) rfl (Rec .busy none)
   generalize τ.ins lb (Rec .busy none)=t1 at hB ⊢
   refine Ah fun J59 h59=>AF (fun e=>absurd e (by omega)) (fun _=>?_)
   rw [h59]
   intro _
   refine SN hc0 (by omega) hrl.2.1 (by omega) (hxb.up (by omega)) ho hB fun s2' t' ho' hB'=>?_
   have hp:=hS.par hc0 hc1
   refine ⟨hB'.at (k:=4) rfl,rfl,?_⟩
   have hB2:Bxs [(b17,slO s),(b1,inO c),(b3,suO w S),(b45,loO r),(lb,Rec .ready none)] s2' _:=hB'.set (k:=4) rfl (Rec .ready none)
   refine ⟨hB2.at (k:=1) rfl,hB2.at (k:=2) rfl,h.sub (hb13.nin.trans (ho'.sub.trans hB2.sub)),s2',_,i+1,by omega,hp.1,by rw [Qv];exact hxl,(hxb.add (by omega)).up (by omega),?_,ho',?_⟩
   ·rw [← hfin]
    unfold Sup.put1
    rw [hS.pth_cons hc0 hc1,List.foldl_cons]
   ·exact hB2.set (k:=1) rfl (inO (S.par c))
  ·obtain ⟨σ2,xs,i,hi,_,hxl,hxb,hfin,ho,hB⟩:=hh
   have glb:=hB.at (k:=4) rfl
   refine hcall _ _ _ glb ⟨_,rfl,fun _=>⟨glb,?_⟩⟩
   have hB:Bxs [(b17,slO s),(b1,inO c),(b3,suO w S),(b45,loO r),(lb,Rec .busy none)] σ2 _:=hB.set (k:=4) rfl (Rec .busy none)
   generalize τ.ins lb (Rec .busy none)=t1 at hB ⊢
   refine Ah fun J59 h59=>AF (fun _=>AG (Bu (g13 ho hB) rfl ?_)) (fun e=>absurd rfl e)
   rw [h59]
   intro _
   refine SN (by omega) (by omega) hrl.2.1 (by omega) (hxb.up (by omega)) ho hB fun s2' t' ho' hB'=>?_
   refine ⟨hB'.at (k:=4) rfl,⟨true,rfl⟩,s2',c,?_,hB'.set (k:=4) rfl (Rec .ready none)⟩
   rw [← hfin]
   unfold Sup.put1
   rw [Sup.pth_nil hc]
   rw [hbn] at ho'
   exact ho'
  ·rintro v t' ⟨σ2,c,ho,hB⟩
   refine ⟨.ready,none,hB.at (k:=4) rfl,rfl,?_⟩
   exact k24 σ2 _ _ ho (hB.set (k:=4) rfl (Rec .exhausted none))
 ·obtain rfl:k=S.L.length:=by omega
  rw [h4]
  intro _
  refine AG (Bu (hB.at (k:=0) rfl) rfl ?_)
  obtain ⟨σ4,h6,h7⟩:=Ay.own.less (R:=fun a c'=>Ak 266 s3 a s.A s.n s.c (S.cur m S.L.length) c') ho hb13.nin
  exact Bm (h7.trans hB.sub) ⟨_,_,_,rfl,h6⟩
def m3 (x:T3):Int:=if x.2.2>(if x.2.1>x.1 then x.2.1 else x.1) then x.2.2 else (if x.2.1>x.1 then x.2.1 else x.1)
def Sup.bigB (S:Sup) (m b:Nat):Bool:=decide ((qA S.B (b:Nat)).2.1<m3 (tA (S.cur m S.L.length) (b:Nat)))
def Sup.bigG (S:Sup) (m:Nat):Bool:=decide (S.p<m3 (tA (S.cur m S.L.length) (S.B.length:Nat)))
def Sup.ovr (S:Sup) (m:Nat):Int×Bool:=if S.bigG m then (-1,true) else if 0<=fxN (S.bigB m) (List.range S.B.length) then (fxN (S.bigB m) (List.range S.B.length),true) else (0,false)
theorem Xu {x:T3}:Af prog 195 #[.agg #[aD x.1,aD x.2.1,aD x.2.2]] σ fun v σ'=>v=aD (m3 x)/\σ'=σ:=by
 apply K7
 unfold EE
 exact ⟨by decide,by decide,by decide,by decide,by decide,by decide,Al ⟨rfl,rfl⟩⟩
theorem ZU (h:SuR σ w S) (_:Ie S) {b:Nat} (hb:b<S.B.length):Af prog 196 #[w.v S,aD (b:Nat)] σ fun v σ'=>v=aD (qA S.B (b:Nat)).2.1/\σ'=σ:=by
 apply OM
 unfold HG
 have hbn:=h.bn
 refine Ah fun J3 h3=>Ah fun J9 h9=>AF (fun e=>absurd e (by omega)) (fun _=>?_)
 rw [h9]
 intro _
 refine AF (fun e=>absurd e (by omega)) (fun _=>?_)
 rw [h3]
 intro _
 exact Abh h.b (by omega) (by omega) (Al ⟨rfl,rfl⟩)
theorem ZX {τ:Hp} {A:aA} {n:Nat} {xs:List T3} {i:Int} {K:Int->Int->Int->Prop} (h:RdS s3 τ A n xs) (hi:0<=i) (hn:i.toNat<xs.length) (hk:K (tA xs i).1 (tA xs i).2.1 (tA xs i).2.2):
  ix A n i 3 fun b a=>ldI τ .i64 b a fun x1=>ldI τ .i64 b (a+1) fun x2=>ldI τ .i64 b (a+2) fun x3=>K x1 x2 x3:=by
 refine Eg (ss:=s3) h rfl hi hn fun b o hc=>?_
 rw [W9 hn] at hk
 exact AV (hc 0 (by decide)) (AV (hc 1 (by decide)) (AV (hc 2 (by decide)) hk))
theorem Aa1 {m:Nat} (h:SuR σ w S) (hS:Ie S) (hm:m<2^62):Af prog 133 #[w.v S,aD (m:Nat)] σ fun v σ'=>v=.tuple #[aD (S.ovr m).1,.bool (S.ovr m).2]/\σ'=σ:=by
 apply PF
 unfold ID
 have hbn:=h.bn
 have hnb:=hS.nb
 refine AW (aV 194) (Uk h hS hm) ?_
 rintro v σ2 ⟨A,n,c,rfl,ho⟩
 have hs:=ho.sub
 have hrd:=ho.rd
 have hcl:(S.cur m S.L.length).length=S.B.length+1:=Sup.cur_len _
 have hn:n=S.B.length+1:=by rw [← hcl];exact ho.len
 clear ho
 refine ⟨_,_,_,rfl,ZX hrd (by omega) (by omega) (AbB (aV 195) Xu ?_)⟩
 have hg:S.bigG m=decide (S.p<m3 (tA (S.cur m S.L.length) (w.b.n:Int))):=by rw [hbn];rfl
 refine AF (fun e=>Bm hs ⟨?_,rfl⟩) (fun e=>Ah fun J14 h14=>?_)
 ·unfold Sup.ovr;rw [hg,decide_eq_true e];rfl
 have eo:S.ovr m=if 0<=fxN (S.bigB m) (List.range S.B.length) then (fxN (S.bigB m) (List.range S.B.length),true) else (0,false):=by
  unfold Sup.ovr;rw [hg,decide_eq_false e];rfl
 rw [eo]
 refine ⟨fun q i τ=>∃ k:Nat,q=S.B.length-k/\i=k/\k<=S.B.length/\τ=σ2/\∀ j,(hj:j<(List.range S.B.length).length)->j<k->S.bigB m (List.range S.B.length)[j]=false,⟨_,0,rfl,rfl,by omega,rfl,fun j _ hj=>by omega⟩,?_⟩
 rintro q i τ ⟨k,rfl,rfl,hk,rfl,hj⟩ _
 refine AF (fun hlt=>?_) (fun hlt=>?_)
 ·have hkl:k<S.B.length:=by omega
  refine ZX hrd (by omega) (by omega) (AbB (aV 195) Xu (clI (aV 196) (ZU (h.sub hs) hS hkl) (AF (fun e2=>Bm hs ⟨?_,rfl⟩) (fun e2=>AS (by omega) (Be _ (by omega) ⟨k+1,rfl,by omega,by omega,rfl,fun j h1 h2=>?_⟩)))))
  ·have:fxN (S.bigB m) (List.range S.B.length)=k:=OV (by simpa using hkl) (by simp [Sup.bigB,e2]) hj
   rw [this,if_pos (by omega)]
  ·rcases Nat.lt_or_ge j k with h3 | h3
   ·exact hj j h1 h3
   ·obtain rfl:j=k:=by omega
    simp only [List.getElem_range]
    exact decide_eq_false e2
 ·obtain rfl:k=S.B.length:=by omega
  rw [h14]
  intro _
  refine Bm hs ⟨?_,rfl⟩
  rw [eo,Iq fun j h1=>hj j h1 (by simpa using h1)]
  rfl
def Sup.fits (S:Sup) (set:Int):Int×Bool×Int:=if S.eS set=0 then ((S.ovr set.toNat).1,!(S.ovr set.toNat).2,0) else (0,false,S.eS set)
theorem Sup.eS0 {S:Sup} {set:Int} (h:S.eS set=0):S.ok=true/\0<=set/\set.toNat<2^S.L.length:=by
 unfold Sup.eS at h
 split at h
 ·rename_i e
  split at h
  ·rename_i e2
   have:=Abq e2
   refine ⟨Sup.e0 e,this.1,?_⟩
   have hp:0<2^S.L.length:=Nat.pow_pos (by omega)
   omega
  ·cases h
 ·rename_i e
  exact absurd h e
theorem Z8 (h:SuR σ w S) {set:Int}:Af prog 75 #[w.v S,aD set] σ fun v σ'=>v=.tuple #[aD (S.fits set).1,.bool (S.fits set).2.1,aD (S.fits set).2.2]/\σ'=σ:=by
 apply PG
 unfold IY
 refine clI (aV 132) (US h) (BQ (fun e=>Al ⟨?_,rfl⟩) (fun e=>?_))
 ·unfold Sup.fits;rw [if_neg e]
 obtain ⟨hok,h0,hlt⟩:=Sup.eS0 e
 have hS:=Sup.ok_spec hok
 have hnl:=hS.nl
 have he:(set.toNat:Int)=set:=by omega
 have h62:set.toNat<2^62:=Nat.lt_of_lt_of_le hlt (Nat.pow_le_pow_right (by omega) (by omega))
 have hc:=Aa1 (m:=set.toNat) h hS h62
 rw [he] at hc
 refine AW (aV 133) hc ?_
 rintro v σ' ⟨rfl,rfl⟩
 refine ⟨_,_,rfl,Al ⟨?_,rfl⟩⟩
 unfold Sup.fits;rw [if_pos e]
end
end Go.Proofs.YtoelhdjloaknbaaGreat
