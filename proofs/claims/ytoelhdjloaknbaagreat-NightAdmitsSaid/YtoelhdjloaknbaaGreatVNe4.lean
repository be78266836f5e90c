/- What this claim rests on. -/
import Derived.Test.YtoelhdjloaknbaaGreatVNb1
import Derived.Test.YtoelhdjloaknbaaGreatVR4
namespace Go.Proofs.YtoelhdjloaknbaaGreat
set_option maxRecDepth 100000
open Go.RowKit Go.Proofs.Tryz
def Sup.crr (S:Sup) (m:Nat) (b ph:Int):Nat->Int
 | 0=>0
 | i+1=>if m.testBit i=true/\(qA S.L (i:Nat)).2.1=ph/\(b<0∨b∈S.pth (qA S.L (i:Nat)).1) then S.crr m b ph i+(qA S.L (i:Nat)).2.2.1 else S.crr m b ph i
theorem Cw.pth_le {S:Sup} (h:Cw S):∀ (f:Nat) (c:Int),c<S.B.length->(c+1).toNat<=f->∀ x∈S.pth c,0<=x/\x<=c
 | 0,c,hc,hf,x,hx=>by
  rw [Sup.pth_nil (by omega)] at hx
  cases hx
 | f+1,c,hc,hf,x,hx=>by
  rcases (by omega:c<0∨0<=c) with h0 | h0
  ·rw [Sup.pth_nil h0] at hx
   cases hx
  ·rw [h.pth_cons h0 hc] at hx
   have hp:=h.par h0 hc
   rcases List.mem_cons.1 hx with rfl | hx
   ·omega
   ·have:=h.pth_le f (S.par c) (by omega) (by omega) x hx
    omega
theorem Cw.pth_mem {S:Sup} (h:Cw S) {c x:Int} (hc:c<S.B.length) (hx:x∈S.pth c):0<=x/\x<=c:=h.pth_le _ c hc (Nat.le_refl _) x hx
theorem Cw.pth_nodup {S:Sup} (h:Cw S):∀ (f:Nat) (c:Int),c<S.B.length->(c+1).toNat<=f->(S.pth c).Nodup
 | 0,c,hc,hf=>by
  rw [Sup.pth_nil (by omega)]
  exact List.nodup_nil
 | f+1,c,hc,hf=>by
  rcases (by omega:c<0∨0<=c) with h0 | h0
  ·rw [Sup.pth_nil h0]
   exact List.nodup_nil
  ·rw [h.pth_cons h0 hc]
   have hp:=h.par h0 hc
   refine List.nodup_cons.2 ⟨fun hx=>?_,h.pth_nodup f (S.par c) (by omega) (by omega)⟩
   have:=h.pth_mem (by omega) hx
   omega
theorem AdW {ph a:Int} {xs:List T3} {i j:Int} (hi:0<=i) (hil:i<xs.length) (hj:0<=j):tA (SV ph a xs i) j=if i=j then tS (tA xs i) ph (tc (tA xs i) ph+a) else tA xs j:=by
 show (xs.set i.toNat _).getD j.toNat _=_
 rw [List.getD_eq_getElem?_getD]
 by_cases e:i=j
 ·subst e
  rw [if_pos rfl,List.getElem?_set_self (by omega)]
  rfl
 ·rw [if_neg e,List.getElem?_set_ne (by omega),← List.getD_eq_getElem?_getD]
  rfl
theorem Aao {ph a ph':Int} {xs:List T3} {i j:Int} (hp:0<=ph/\ph<=2) (hp':0<=ph'/\ph'<=2) (hi:0<=i) (hil:i<xs.length) (hj:0<=j):tc (tA (SV ph a xs i) j) ph'=tc (tA xs j) ph'+if i=j/\ph=ph' then a else 0:=by
 rw [AdW hi hil hj]
 by_cases e:i=j
 ·subst e
  rw [if_pos rfl,AeN]
  by_cases e2:ph=ph'
  ·subst e2
   rw [if_pos (.inl rfl),if_pos ⟨rfl,rfl⟩]
  ·rw [if_neg (by omega),if_neg (fun h=>e2 h.2)]
   omega
 ·rw [if_neg e,if_neg (fun h=>e h.1)]
  omega
theorem ZZ {ph a ph':Int} (hp:0<=ph/\ph<=2) (hp':0<=ph'/\ph'<=2) {j:Int} (hj:0<=j):∀ (l:List Int) (xs:List T3),(∀ x∈l,0<=x/\x<xs.length)->l.Nodup->tc (tA (l.foldl (SV ph a) xs) j) ph'=tc (tA xs j) ph'+if j∈l/\ph=ph' then a else 0
 | [],xs,_,_=>by simp
 | x::l,xs,hx,hn=>by
  rw [List.nodup_cons] at hn
  have hx0:=hx x (by simp)
  rw [List.foldl_cons,ZZ hp hp' hj l _ (fun y hy=>by rw [Q4];exact hx y (by simp [hy])) hn.2,Aao hp hp' hx0.1 hx0.2 hj]
  by_cases e:x=j
  ·subst e
   rw [if_neg (c:=x∈l/\ph=ph') (fun h=>hn.1 h.1)]
   by_cases e2:ph=ph'
   ·rw [if_pos (c:=x=x/\ph=ph') ⟨rfl,e2⟩,if_pos ⟨by simp,e2⟩];omega
   ·rw [if_neg (c:=x=x/\ph=ph') (fun h=>e2 h.2),if_neg (fun h=>e2 h.2)];omega
  ·rw [if_neg (c:=x=j/\ph=ph') (fun h=>e h.1)]
   by_cases e2:j∈l/\ph=ph'
   ·rw [if_pos e2,if_pos ⟨List.mem_cons_of_mem _ e2.1,e2.2⟩];omega
   ·rw [if_neg e2,if_neg (fun h=>e2 ⟨(List.mem_cons.1 h.1).resolve_left (fun g=>e g.symm),h.2⟩)];omega
def Sup.slot (S:Sup) (b:Int):Int:=if b<0 then S.B.length else b
theorem Cw.cur_crr {S:Sup} (h:Cw S) {m:Nat} {b ph:Int} (hb:-1<=b/\b<S.B.length) (hp:0<=ph/\ph<=2):∀ k,k<=S.L.length->tc (tA (S.cur m k) (S.slot b)) ph=S.crr m b ph k
 | 0,_=>by
  have e:tA (S.cur m 0) (S.slot b)=(0,0,0):=by
   unfold Sup.cur tA
   rw [List.getD_eq_getElem?_getD,List.getElem?_replicate]
   split<;>rfl
  rw [e]
  show tc (0,0,0) ph=0
  unfold tc
  split
  ·rfl
  ·split<;>rfl
 | k+1,hk=>by
  have ih:=h.cur_crr (m:=m) hb hp k (by omega)
  have hl:=h.l k (by omega)
  have hcl:(S.cur m k).length=S.B.length+1:=Sup.cur_len k
  have hs:0<=S.slot b/\S.slot b<=S.B.length:=by unfold Sup.slot;split<;>omega
  unfold Sup.cur Sup.crr
  by_cases ht:m.testBit k=true
  ·rw [if_pos ht]
   unfold Sup.put1
   rw [Aao hl.2.1 hp (by omega) (by rw [RC,hcl];omega) hs.1,ZZ hl.2.1 hp hs.1 _ _ (fun x hx=>by have:=h.pth_mem hl.1.2 hx;omega) (h.pth_nodup _ _ hl.1.2 (Nat.le_refl _)),ih]
   generalize (qA S.L (k:Nat))=r at *
   by_cases e2:r.2.1=ph
   ·rcases (by omega:b<0∨0<=b) with h0 | h0
    ·have es':S.slot b=S.B.length:=if_pos h0
     rw [es',if_pos (c:=m.testBit k=true/\r.2.1=ph/\(b<0∨b∈S.pth r.1)) ⟨ht,e2,.inl h0⟩,if_pos (c:=(S.B.length:Int)=(S.B.length:Int)/\r.2.1=ph) ⟨rfl,e2⟩,if_neg (c:=(S.B.length:Int)∈S.pth r.1/\r.2.1=ph) (fun hh=>by have:=h.pth_mem hl.1.2 hh.1;omega)]
     omega
    ·have es':S.slot b=b:=if_neg (by omega)
     rw [es',if_neg (c:=(S.B.length:Int)=b/\r.2.1=ph) (fun hh=>by omega)]
     by_cases e3:b∈S.pth r.1
     ·rw [if_pos (c:=b∈S.pth r.1/\r.2.1=ph) ⟨e3,e2⟩,if_pos (c:=m.testBit k=true/\r.2.1=ph/\(b<0∨b∈S.pth r.1)) ⟨ht,e2,.inr e3⟩];omega
     ·rw [if_neg (c:=b∈S.pth r.1/\r.2.1=ph) (fun hh=>e3 hh.1),if_neg (c:=m.testBit k=true/\r.2.1=ph/\(b<0∨b∈S.pth r.1)) (fun hh=>hh.2.2.elim (fun g=>by omega) e3)];omega
   ·rw [if_neg (c:=S.slot b∈S.pth r.1/\r.2.1=ph) (fun hh=>e2 hh.2),if_neg (c:=(S.B.length:Int)=S.slot b/\r.2.1=ph) (fun hh=>e2 hh.2),if_neg (c:=m.testBit k=true/\r.2.1=ph/\(b<0∨b∈S.pth r.1)) (fun hh=>e2 hh.2.1)];omega
  ·rw [if_neg ht,if_neg (fun hh=>ht hh.1)]
   exact ih
def Sup.brs (S:Sup) (b:Int):Int:=if b<0 then S.p else (qA S.B b).2.1
def Sup.ovB (S:Sup) (m:Nat) (b:Int):Bool:=decide (S.brs b<S.crr m b 0 S.L.length)||decide (S.brs b<S.crr m b 1 S.L.length)||decide (S.brs b<S.crr m b 2 S.L.length)
theorem AeK {x:T3} {n:Int}:decide (n<m3 x)=(decide (n<tc x 0)||decide (n<tc x 1)||decide (n<tc x 2)):=by
 have h0:tc x 0=x.1:=rfl
 have h1:tc x 1=x.2.1:=rfl
 have h2:tc x 2=x.2.2:=rfl
 rw [h0,h1,h2,← Bool.decide_or,← Bool.decide_or]
 refine decide_eq_decide.2 ?_
 unfold m3
 split<;>split<;>omega
theorem Cw.bigG {S:Sup} (h:Cw S) {m:Nat}:S.bigG m=S.ovB m (-1):=by
 unfold Sup.bigG Sup.ovB
 rw [AeK]
 have e:∀ ph,0<=ph/\ph<=2->tc (tA (S.cur m S.L.length) (S.B.length:Nat)) ph=S.crr m (-1) ph S.L.length:=fun ph hp=>h.cur_crr (b:=-1) (by omega) hp _ (Nat.le_refl _)
 rw [e 0 (by omega),e 1 (by omega),e 2 (by omega)]
 rfl
theorem Cw.bigB {S:Sup} (h:Cw S) {m b:Nat} (hb:b<S.B.length):S.bigB m b=S.ovB m (b:Nat):=by
 unfold Sup.bigB Sup.ovB
 rw [AeK]
 have e:∀ ph,0<=ph/\ph<=2->tc (tA (S.cur m S.L.length) (b:Nat)) ph=S.crr m (b:Nat) ph S.L.length:=fun ph hp=>by
  have:=h.cur_crr (m:=m) (b:=(b:Nat)) (by omega) hp S.L.length (Nat.le_refl _)
  have es':S.slot (b:Nat)=(b:Nat):=if_neg (by omega)
  rwa [es'] at this
 rw [e 0 (by omega),e 1 (by omega),e 2 (by omega)]
 have eb:S.brs (b:Nat)=(qA S.B (b:Nat)).2.1:=if_neg (by omega)
 rw [eb]
theorem Agk {e:Int} (h:0<=e/\e<=18446744073709551615):IntKind.u64.wrap e=e:=by
 have h1:IntKind.u64.wrap e=e%18446744073709551616:=by
  unfold IntKind.wrap
  simp [IntKind.signed,IntKind.bits]
 rw [h1]
 omega
theorem V4 {e:Int} {K:Int->Prop} (h:0<=e/\e<=18446744073709551615) (hk:K e):wk .u64 e K:=by
 unfold wk
 rw [Agk h]
 exact hk
section
variable {σ:Hp} {w:SuW} {S:Sup}
theorem AaS {n lo hi:Int}:Af prog 139 #[aD n,aD lo,aD hi] σ fun v σ'=>v=.bool (Inn n lo hi)/\σ'=σ:=by
 apply Qw
 unfold HV
 refine Az (fun h=>Ai ⟨?_,rfl⟩) (fun h=>Ai ⟨?_,rfl⟩)
 ·simp [Inn,h]
 ·simp [Inn,h]
theorem Lr {n lo hi:Int} {K:Bool->Hp->Prop} (h:K (Inn n lo hi) σ):aC 139 #[aD n,aD lo,aD hi] σ fun v σ'=>∃ t:Bool,(v=.bool t/\K t σ'):=clB (aW 139) AaS h
theorem W5 (h:SuR σ w S):Af prog 79 #[w.v S] σ fun v σ'=>v=aD S.e/\σ'=σ:=by
 apply Se
 unfold Jl
 have hbn:=h.bn
 have hln:=h.ln
 have hbni:(w.b.n:Int)=S.B.length:=by rw [hbn]
 refine Ad fun J3 h3=>?_
 have k3:S.ok1=true->J3 σ:=by
  intro h1
  have h1':=h1
  unfold Sup.ok1 at h1'
  simp only [Bool.and_eq_true,decide_eq_true_eq] at h1'
  rw [h3]
  intro _
  refine Ad fun J6 h6=>?_
  have k6:S.okB=true->J6 σ:=by
   intro h2
   rw [h6]
   intro _
   refine Ad fun J9 h9=>?_
   have k9:S.okL=true->J9 σ:=by
    intro h4
    rw [h9]
    intro _
    refine Ai ⟨?_,rfl⟩
    unfold Sup.e Sup.ok
    rw [h1,h2,h4];rfl
   clear h9
   refine ⟨fun m i τ=>∃ k:Nat,m=S.L.length-k/\i=k/\k<=S.L.length/\τ=σ/\∀ j,j<k->Lm S.B.length (qA S.L (j:Nat))=true,⟨_,0,rfl,rfl,by omega,rfl,fun j hj=>by omega⟩,?_⟩
   rintro m i τ ⟨k,rfl,rfl,hk,rfl,hj⟩ _
   refine Az (fun hlt=>?_) (fun hlt=>?_)
   ·have hkl:k<S.L.length:=by omega
    refine Ad fun J17 h17=>Abd h.l (by omega) (by omega) fun r hr=>?_
    refine Ad fun J29 h29=>?_
    have k29:∀ t,t=!Lm S.B.length r->J29 t τ:=by
     rintro t rfl
     rw [h29]
     intro _
     refine Bp (fun e=>Ai ⟨?_,rfl⟩) (fun e=>?_)
     ·have:S.okL=false:=Wl hkl (by rw [hr];exact e)
      unfold Sup.e Sup.ok
      rw [this,Bool.and_false];rfl
     ·rw [h17]
      intro _
      refine AQ (by omega) (AX _ (by omega) ⟨k+1,rfl,by omega,by omega,rfl,fun j h1=>?_⟩)
      rcases Nat.lt_or_ge j k with h2 | h2
      ·exact hj j h2
      ·obtain rfl:j=k:=by omega
       rw [hr];exact e
    clear h29 h17
    refine AQ (by omega) ?_
    rw [hbni]
    refine Lr (Bp (fun e=>k29 _ ?_) (fun e1=>Lr (Bp (fun e=>k29 _ ?_) (fun e2=>Lr (Bp (fun e=>k29 _ ?_) (fun e3=>Lr (k29 _ ?_)))))))
    ·unfold Lm;rw [e];rfl
    ·unfold Lm;rw [e1,e];rfl
    ·unfold Lm;rw [e1,e2,e];rfl
    ·exact (WO e1 e2 e3).symm
   ·exact k9 (AaC fun j h=>hj j (by omega))
  clear h6
  refine ⟨fun m i τ=>∃ k:Nat,m=S.B.length-k/\i=k/\k<=S.B.length/\τ=σ/\∀ j,j<k->Ls j (qA S.B (j:Nat))=true,⟨_,0,rfl,rfl,by omega,rfl,fun j hj=>by omega⟩,?_⟩
  rintro m i τ ⟨k,rfl,rfl,hk,rfl,hj⟩ _
  refine Az (fun hlt=>?_) (fun hlt=>?_)
  ·have hkl:k<S.B.length:=by omega
   refine Ad fun J17 h17=>Abd h.b (by omega) (by omega) fun r hr=>?_
   refine Ad fun J29 h29=>?_
   have k29:∀ t,t=!Ls k r->J29 t τ:=by
    rintro t rfl
    rw [h29]
    intro _
    refine Bp (fun e=>Ai ⟨?_,rfl⟩) (fun e=>?_)
    ·have:S.okB=false:=Wl hkl (by rw [hr];exact e)
     unfold Sup.e Sup.ok
     rw [this,Bool.and_false];rfl
    ·rw [h17]
     intro _
     refine AQ (by omega) (AX _ (by omega) ⟨k+1,rfl,by omega,by omega,rfl,fun j h1=>?_⟩)
     rcases Nat.lt_or_ge j k with h2 | h2
     ·exact hj j h2
     ·obtain rfl:j=k:=by omega
      rw [hr];exact e
   clear h29 h17
   refine AQ (by omega) ?_
   refine Lr (Bp (fun e=>k29 _ ?_) (fun e1=>Lr (Bp (fun e=>k29 _ ?_) (fun e2=>Lr (Bp (fun e=>k29 _ ?_) (fun e3=>Lr (k29 _ ?_)))))))
   ·unfold Ls;rw [e];rfl
   ·unfold Ls;rw [e1,e];rfl
   ·unfold Ls;rw [e1,e2,e];rfl
   ·exact (WO e1 e2 e3).symm
  ·exact k6 (AaC fun j h=>hj j (by omega))
 clear h3
 refine Ad fun J80 h80=>?_
 have k80:∀ t,t=!S.ok1->J80 t σ:=by
  rintro t rfl
  rw [h80]
  intro _
  refine Bp (fun e=>Ai ⟨?_,rfl⟩) (fun e=>k3 e)
  unfold Sup.e Sup.ok
  rw [e];rfl
 clear h80 k3
 refine Az (fun e=>k80 _ ?_) (fun e1=>Az (fun e=>k80 _ ?_) (fun e2=>Lr (Bp (fun e=>k80 _ ?_) (fun e3=>Lr (Bp (fun e=>k80 _ ?_) (fun e4=>Lr (k80 _ ?_)))))))
 ·have:¬ S.B.length<=10:=by omega
  simp [Sup.ok1,this]
 ·have:¬ S.L.length<=16:=by omega
  simp [Sup.ok1,this]
 ·simp [Sup.ok1,e]
 ·simp [Sup.ok1,e]
 ·have a:S.B.length<=10:=by omega
  have b:S.L.length<=16:=by omega
  simp [Sup.ok1,a,b,e3,e4]
theorem Af7 {m:Nat} (hm:m<2^62) {i:Nat} (hi:i<=60):Af prog 278 #[aD (m:Nat),aD (i:Nat)] σ fun v σ'=>v=.bool (m.testBit i)/\σ'=σ:=by
 refine UY _ _ _ _ ?_
 unfold PG
 refine V4 (by omega) ⟨by omega,?_⟩
 rw [AbM hm]
 refine AQ (by split<;>omega) (Ai ⟨?_,rfl⟩)
 cases m.testBit i<;>rfl
theorem Acp (h:SuR σ w S) (hS:Cw S) {c t:Int} (hc:-1<=c/\c<S.B.length) (ht:0<=t):Af prog 279 #[w.v S,aD c,aD t] σ fun v σ'=>v=.bool (decide (t∈S.pth c))/\σ'=σ:=by
 apply Rh
 unfold Jf
 have hbn:=h.bn
 refine Ad fun J3 h3=>?_
 refine ⟨fun q x τ=>q=(x+1).toNat/\τ=σ/\-1<=x/\x<S.B.length/\(t∈S.pth x↔t∈S.pth c),⟨_,rfl,rfl,hc.1,hc.2,Iff.rfl⟩,?_⟩
 rintro q x τ ⟨rfl,rfl,hx0,hx1,hxt⟩ _
 refine Az (fun hlt=>?_) (fun hge=>?_)
 ·have hp:=hS.par (b:=x) (by omega) hx1
  refine AeJ h.b (by omega) (by omega) (AX _ (by show (S.par x+1).toNat<_;omega) ⟨rfl,rfl,hp.1,by show S.par x<_;omega,?_⟩)
  rw [← hxt,hS.pth_cons (b:=x) (by omega) hx1,List.mem_cons]
  exact ⟨.inr,fun h=>h.resolve_left (by omega)⟩
 ·rw [h3]
  intro _
  refine Ai ⟨congrArg Value.bool (decide_eq_decide.2 ?_),rfl⟩
  rw [← hxt]
  constructor
  ·rintro rfl
   rw [hS.pth_cons ht hx1]
   exact List.mem_cons_self
  ·intro hm
   have:=hS.pth_mem hx1 hm
   omega
theorem Sup.crr_bnd (hS:Cw S) {m:Nat} {b ph:Int}:∀ k,k<=S.L.length->0<=S.crr m b ph k/\S.crr m b ph k<=1000*k
 | 0,_=>by unfold Sup.crr;omega
 | k+1,hk=>by
  have ih:=Sup.crr_bnd hS (m:=m) (b:=b) (ph:=ph) k (by omega)
  have:=hS.l k (by omega)
  unfold Sup.crr
  split<;>omega
theorem YI {m:Nat} (h:SuR σ w S) (hS:Cw S) (hm:m<2^62) {b ph:Int}:Af prog 252 #[w.v S,aD (m:Nat),aD b,aD ph] σ fun v σ'=>v=aD (S.crr m b ph S.L.length)/\σ'=σ:=by
 apply O5
 unfold GH
 have hln:=h.ln
 have hnl:=hS.nl
 refine Ad fun J3 h3=>?_
 refine ⟨fun q s i τ=>∃ k:Nat,q=S.L.length-k/\i=k/\k<=S.L.length/\τ=σ/\s=S.crr m b ph k,⟨_,0,rfl,rfl,by omega,rfl,rfl⟩,?_⟩
 rintro q s i τ ⟨k,rfl,rfl,hk,rfl,rfl⟩ _
 refine Az (fun hlt=>?_) (fun hlt=>?_)
 ·have hkl:k<S.L.length:=by omega
  refine Ad fun J13 h13=>Abd h.l (by omega) (by omega) fun r hr=>?_
  have k13:J13 (S.crr m b ph (k+1)) τ:=by
   rw [h13]
   intro _
   exact AQ (by omega) (AX _ (by omega) ⟨k+1,rfl,by omega,by omega,rfl,rfl⟩)
  have e1:S.crr m b ph (k+1)=if m.testBit k=true/\r.2.1=ph/\(b<0∨b∈S.pth r.1) then S.crr m b ph k+r.2.2.1 else S.crr m b ph k:=by rw [Sup.crr,hr]
  rw [e1] at k13
  have hrl:=hS.l k hkl
  rw [hr] at hrl
  have hbd:=Sup.crr_bnd hS (m:=m) (b:=b) (ph:=ph) k (by omega)
  refine Ad fun J26 h26=>?_
  have k26:∀ t,t=decide (m.testBit k=true/\r.2.1=ph/\(b<0∨b∈S.pth r.1))->J26 t τ:=by
   rintro t rfl
   rw [h26]
   intro _
   refine Az (fun e=>AQ (by omega) ?_) (fun e=>?_)
   ·rw [if_pos e] at k13;exact k13
   ·rw [if_neg e] at k13;exact k13
  refine clB (aW 278) (Af7 hm (by omega)) (BO (fun e=>Az (fun e2=>Az (fun e3=>k26 _ ?_) (fun e3=>?_)) (fun e2=>k26 _ ?_)) (fun e=>k26 _ ?_))
  ·simp [e,e2,e3]
  ·refine clB (aW 279) (Acp h hS (by omega) (by omega)) (k26 _ ?_)
   simp [e,e2,e3]
  ·simp [e2]
  ·simp [e]
 ·obtain rfl:k=S.L.length:=by omega
  rw [h3]
  intro _
  exact Ai ⟨rfl,rfl⟩
theorem Acu (h:SuR σ w S) {b:Int} (hb:b<S.B.length):Af prog 253 #[w.v S,aD b] σ fun v σ'=>v=aD (S.brs b)/\σ'=σ:=by
 apply RJ
 unfold IG
 have hbn:=h.bn
 refine Az (fun e=>Ai ⟨?_,rfl⟩) (fun e=>AeE h.b (by omega) (by omega) (Ai ⟨?_,rfl⟩))
 ·unfold Sup.brs;rw [if_pos e]
 ·unfold Sup.brs;rw [if_neg e]
theorem Ad6 {m:Nat} (h:SuR σ w S) (hS:Cw S) (hm:m<2^62) {b:Int} (hb:b<S.B.length):Af prog 201 #[w.v S,aD (m:Nat),aD b] σ fun v σ'=>v=.bool (S.ovB m b)/\σ'=σ:=by
 apply Tx
 unfold Kw
 refine Ad fun J3 h3=>?_
 refine ⟨fun q i τ=>∃ k:Nat,q=3-k/\i=k/\k<=3/\τ=σ/\∀ j:Nat,j<k->¬ S.brs b<S.crr m b (j:Nat) S.L.length,⟨_,0,rfl,rfl,by omega,rfl,fun j hj=>by omega⟩,?_⟩
 rintro q i τ ⟨k,rfl,rfl,hk,rfl,hj⟩ _
 refine Az (fun hlt=>?_) (fun hlt=>?_)
 ·refine Afd (aW 252) (YI h hS hm) (clI (aW 253) (Acu h hb) (Az (fun e=>Ai ⟨?_,rfl⟩) (fun e=>AQ (by omega) (AX _ (by omega) ⟨k+1,rfl,by omega,by omega,rfl,fun j h1=>?_⟩))))
  ·have:k=0∨k=1∨k=2:=by omega
   unfold Sup.ovB
   rcases this with rfl | rfl | rfl
   ·have e:S.brs b<S.crr m b 0 S.L.length:=e
    rw [decide_eq_true e];rfl
   ·have e:S.brs b<S.crr m b 1 S.L.length:=e
    rw [decide_eq_true e];simp
   ·have e:S.brs b<S.crr m b 2 S.L.length:=e
    rw [decide_eq_true e];simp
  ·rcases Nat.lt_or_ge j k with h2 | h2
   ·exact hj j h2
   ·obtain rfl:j=k:=by omega
    exact e
 ·obtain rfl:k=3:=by omega
  rw [h3]
  intro _
  refine Ai ⟨?_,rfl⟩
  have e0:=hj 0 (by omega)
  have e1:=hj 1 (by omega)
  have e2:=hj 2 (by omega)
  have e0:¬ S.brs b<S.crr m b 0 S.L.length:=e0
  have e1:¬ S.brs b<S.crr m b 1 S.L.length:=e1
  have e2:¬ S.brs b<S.crr m b 2 S.L.length:=e2
  unfold Sup.ovB
  rw [decide_eq_false e0,decide_eq_false e1,decide_eq_false e2];rfl
theorem Aeq {m:Nat} (h:SuR σ w S) (hS:Cw S) (hm:m<2^62):Af prog 144 #[w.v S,aD (m:Nat)] σ fun v σ'=>v=.tuple #[aD (S.ovr m).1,.bool (S.ovr m).2]/\σ'=σ:=by
 apply Tw
 unfold Lg
 have hbn:=h.bn
 have hnb:=hS.nb
 refine Ad fun J3 h3=>?_
 refine ⟨fun q i τ=>∃ k:Nat,q=S.B.length+1-k/\i=(k:Int)-1/\k<=S.B.length+1/\τ=σ/\∀ j:Nat,j<k->S.ovB m ((j:Int)-1)=false,⟨_,0,rfl,rfl,by omega,rfl,fun j hj=>by omega⟩,?_⟩
 rintro q i τ ⟨k,rfl,rfl,hk,rfl,hj⟩ _
 have hG:0<k->S.bigG m=false:=fun h0=>by rw [hS.bigG];exact hj 0 h0
 have hB:∀ j,j+1<k->S.bigB m j=false:=fun j h0=>by
  rw [hS.bigB (by omega)]
  have:=hj (j+1) h0
  have e:((j+1:Nat):Int)-1=(j:Nat):=by omega
  rwa [e] at this
 refine Az (fun hlt=>?_) (fun hlt=>?_)
 ·refine clB (aW 201) (Ad6 h hS hm (by omega)) (BO (fun e=>Ai ⟨?_,rfl⟩) (fun e=>AQ (by omega) (AX _ (by omega) ⟨k+1,rfl,by omega,by omega,rfl,fun j h1=>?_⟩)))
  ·cases k with
   | zero=>
    have e:S.ovB m (-1)=true:=e
    unfold Sup.ovr
    rw [hS.bigG,e];rfl
   | succ k=>
    have e2:((k+1:Nat):Int)-1=(k:Nat):=by omega
    rw [e2] at e ⊢
    rw [← hS.bigB (by omega)] at e
    have e3:fxN (S.bigB m) (List.range S.B.length)=k:=OR (by simp;omega) (by simpa using e) fun j h1 h2=>by
     simp only [List.getElem_range]
     exact hB j (by omega)
    unfold Sup.ovr
    rw [hG (by omega),e3,if_neg (by decide),if_pos (by omega)]
  ·rcases Nat.lt_or_ge j k with h2 | h2
   ·exact hj j h2
   ·obtain rfl:j=k:=by omega
    exact e
 ·obtain rfl:k=S.B.length+1:=by omega
  rw [h3]
  intro _
  refine Ai ⟨?_,rfl⟩
  have e3:fxN (S.bigB m) (List.range S.B.length)=-1:=HS fun j h1=>by
   simp only [List.getElem_range]
   exact hB j (by simp at h1;omega)
  unfold Sup.ovr
  rw [hG (by omega),e3,if_neg (by decide),if_neg (by omega)]
theorem Xu (h:SuR σ w S) {set:Int}:Af prog 143 #[w.v S,aD set] σ fun v σ'=>v=aD (S.eS set)/\σ'=σ:=by
 apply NR
 unfold FU
 refine clI (aW 79) (W5 h) (Bs (fun e=>Ai ⟨?_,rfl⟩) (fun e=>?_))
 ·unfold Sup.eS;rw [if_neg e]
 have hok:=Sup.ok_spec (Sup.e0 e)
 have hln:=h.ln
 have hl:=hok.nl
 have hp:=RH (n:=S.L.length) (by omega)
 have hp0:0<2^S.L.length:=Nat.pow_pos (by omega)
 refine V4 (by omega) ⟨by omega,?_⟩
 rw [TQ (n:=w.l.n) (by omega),hln]
 refine AQ (by omega) (AQ (by omega) (Lr (Bp (fun e2=>Ai ⟨?_,rfl⟩) (fun e2=>Ai ⟨?_,rfl⟩))))
 ·unfold Sup.eS;rw [if_pos e,e2];rfl
 ·unfold Sup.eS;rw [if_pos e,e2];rfl
theorem AdF (h:SuR σ w S) {set:Int}:Af prog 81 #[w.v S,aD set] σ fun v σ'=>v=.tuple #[aD (S.fits set).1,.bool (S.fits set).2.1,aD (S.fits set).2.2]/\σ'=σ:=by
 apply SR
 unfold KR
 refine clI (aW 143) (Xu h) (Bs (fun e=>Ai ⟨?_,rfl⟩) (fun e=>?_))
 ·unfold Sup.fits;rw [if_neg e]
 obtain ⟨hok,h0,hlt⟩:=Sup.eS0 e
 have hS:=Sup.ok_spec hok
 have hnl:=hS.nl
 have he:(set.toNat:Int)=set:=by omega
 have h62:set.toNat<2^62:=Nat.lt_of_lt_of_le hlt (Nat.pow_le_pow_right (by omega) (by omega))
 have hc:=Aeq (m:=set.toNat) h hS h62
 rw [he] at hc
 refine Bd (aW 144) hc ?_
 rintro v σ' ⟨rfl,rfl⟩
 refine ⟨_,_,rfl,Ai ⟨?_,rfl⟩⟩
 unfold Sup.fits;rw [if_pos e]
end
end Go.Proofs.YtoelhdjloaknbaaGreat
