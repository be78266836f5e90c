/- Trimmed by wip/trim.py to what this claim rests on. -/
import Derived.Test.YthhadkggldcolaaGreatYB17
import Derived.Test.YthhadkggldcolaaGreatYB18
import Derived.Test.YthhadkggldcolaaGreatYNo1
import Derived.Test.YthhadkggldcolaaGreatYNe5
namespace Go.Proofs.YthhadkggldcolaaGreat
set_option maxRecDepth 100000
open Go.RowKit
def Vis.want (v:Vis):Int:=v.2.1
def Vis.ride (v:Vis):Int:=v.2.2.1
def Vis.on (v:Vis):Bool:=v.2.2.2.1
def Vis.came (v:Vis):Int:=v.2.2.2.2.1
def hv (V:List Vis) (g:Int):List Vis:=V.filter fun v=>decide (v.1=g)
theorem YK {V:List Vis} {v:Vis} {g:Int} (h:v.1=g):hv (V++[v]) g=hv V g++[v]:=by simp [hv,List.filter_append,h]
theorem AaJ {V:List Vis} {v:Vis} {g:Int} (h:v.1≠g):hv (V++[v]) g=hv V g:=by simp [hv,List.filter_append,h]
def Uu (B:List BthG) (v:Vis):Int:=v.left+if v.on=true then (bd B v.ride).cycle else 0
def Gl (B:List BthG) (c:Int) (L:List Vis):Int:=L.foldl (fun _ v=>Uu B v) c
theorem P0 {B:List BthG} {c:Int} {L:List Vis} {v:Vis}:Gl B c (L++[v])=Uu B v:=by simp [Gl,List.foldl_append]
structure Chn (B:List BthG) (w c:Int) (L:List Vis):Prop where
 c:∀ j,(h:j<L.length)->L[j].want=j/\L[j].came=Gl B c (L.take j)+w
theorem Chn.nil {B:List BthG} {w c:Int}:Chn B w c []:=⟨fun j h=>absurd h (by simp)⟩
theorem Chn.snoc {B:List BthG} {w c:Int} {L:List Vis} {v:Vis} (h:Chn B w c L) (h1:v.want=L.length) (h2:v.came=Gl B c L+w):Chn B w c (L++[v]):=by
 refine ⟨fun j hj=>?_⟩
 rw [List.length_append,List.length_singleton] at hj
 rcases Nat.lt_or_ge j L.length with hl | hl
 ·rw [List.getElem_append_left hl,List.take_append_of_le_length (by omega)]
  exact h.c j hl
 ·have:j=L.length:=by omega
  subst this
  rw [List.getElem_append_right (Nat.le_refl _),List.take_append_of_le_length (Nat.le_refl _),List.take_length]
  simp only [Nat.sub_self,List.getElem_cons_zero]
  exact ⟨h1,h2⟩
structure GH (w:Int) (B:List BthG) (q:Grp) (x:Gs) (h:Int) (L:List Vis):Prop where
 ch:Chn B w q.came L
 s0:x.st=0->L=[]/\x.want=-1
 s1:x.st=1->x.want=L.length/\x.since=Gl B q.came L
 s2:x.st=2->x.want=L.length/\x.since=Gl B q.came L+w
 s3:x.st=3->x.want+1=L.length/\Gl B q.came L=x.since+(bd B (gt q.wants x.want)).cycle/\∃ v∈L,v.on=true/\v.ride=gt q.wants x.want/\v.left=x.since
 s4:x.st=4->L.length=q.wants.length/\h=Gl B q.came L
 hm:x.st≠4->h=-1
structure TG (S:Pl) (g:Int) (p:Nat) (fx:Int):Prop where
 t0:(S.gu g).st=0->S.now+(if 2<=p then 1 else 0)<=(S.gr g).came
 t1:(S.gu g).st=1->S.walk≠0/\S.now+(if 2<=p then 1 else 0)<=(S.gu g).since+S.walk
 t2:(S.gu g).st=2->(S.gu g).since<=S.now/\S.now-(S.gu g).since<=(S.gr g).patience+(if 3<=p then 0 else 1)
 t3:(S.gu g).st=3->gt (S.gr g).wants (S.gu g).want=fx->(S.gu g).since=S.now
 t4:(S.gu g).st=3->gt (S.gr g).wants (S.gu g).want≠fx ->
  (gt S.began (gt (S.gr g).wants (S.gu g).want)=(S.gu g).since/\(S.gu g).since<=S.now/\S.now+1<=(S.gu g).since+(bd S.B (gt (S.gr g).wants (S.gu g).want)).cycle/\(p=0->gt S.ended (gt (S.gr g).wants (S.gu g).want)≠S.now)) ∨
  (p=0/\gt S.ended (gt (S.gr g).wants (S.gu g).want)=S.now/\(S.gu g).since+(bd S.B (gt (S.gr g).wants (S.gu g).want)).cycle=S.now)
def ld (G:List Grp) (V:List Vis) (r t:Int):Int:=B7 (V.map fun v=>if v.on=true/\v.ride=r/\v.left=t then (gd G v.1).size else 0)
theorem Yh {G:List Grp} {V:List Vis} {r t:Int} {v:Vis}:ld G (V++[v]) r t=ld G V r t+if v.on=true/\v.ride=r/\v.left=t then (gd G v.1).size else 0:=by
 unfold ld
 rw [List.map_append,Qj]
 simp [B7]
structure RI (S:Pl) (r fx lf:Int):Prop where
 a:r≠fx->0<=gt S.began r->∀ v∈S.visits,v.on=true->v.ride=r->v.left=gt S.began r∨v.left+(bd S.B r).cycle<=gt S.began r
 b:r≠fx->gt S.began r<0->∀ v∈S.visits,v.on=true->v.ride=r->v.left+(bd S.B r).cycle<=S.now
 c:r=fx->∀ v∈S.visits,v.on=true->v.ride=r->v.left=S.now∨v.left+(bd S.B r).cycle<=S.now
 bn:gt S.began r<=S.now
 en:gt S.ended r<=S.now
 l:∀ t,ld S.G S.visits r t<=(bd S.B r).seats
 lf:r=fx->ld S.G S.visits r S.now=(bd S.B r).seats-lf
 w:∀ v∈S.visits,∀ u∈S.visits,v.on=true->v.ride=r->u.on=true->u.ride=r->u.left<=v.left->v.left<u.left+(bd S.B r).cycle->u.left=v.left
 qs:(S.qu r).Pairwise fun a b=>(S.gu a).since<=(S.gu b).since
 f1:(bd S.B r).fill=false->∀ v∈S.visits,v.on=true->v.ride=r->∀ g∈S.qu r,v.came<=(S.gu g).since
 f2:(bd S.B r).fill=false->∀ v∈S.visits,v.on=true->v.ride=r->∀ u∈S.visits,u.ride=r->u.came<v.came->u.left<=v.left
structure VI (S:Pl) (v:Vis):Prop where
 g:0<=v.1/\v.1<S.G.length
 w:0<=v.want/\v.want<(S.gr v.1).wants.length
 r:v.ride=gt (S.gr v.1).wants v.want
 t:v.came<=v.left
 o:v.on=true->v.left-v.came<=(S.gr v.1).patience
 p:v.left-v.came<=(S.gr v.1).patience+1
 n:v.left<=S.now
structure Hy (S:Pl) (ex:Int) (p:Int->Nat) (fx lf:Int):Prop where
 gh:∀ g:Int,0<=g->g<S.G.length->g≠ex->GH S.walk S.B (S.gr g) (S.gu g) (gt S.homes g) (hv S.visits g)
 tg:∀ g:Int,0<=g->g<S.G.length->g≠ex->TG S g (p g) fx
 ri:∀ r:Int,0<=r->r<S.B.length->RI S r fx lf
 vi:∀ v∈S.visits,VI S v
 qm:∀ g:Int,0<=g->g<S.G.length->g≠ex->(S.gu g).st=2->g∈S.qu (gt (S.gr g).wants (S.gu g).want)
def pln (p:Int->Nat) (g:Int) (q:Nat):Int->Nat:=fun k=>if k=g then q else p k
section
variable {S:Pl} {ex:Int} {p:Int->Nat} {fx lf:Int} {c:Nat} {g:Int}
theorem TG.congr {S':Pl} {q:Nat} (h:TG S g q fx) (sm:S.Sm S') (e:S'.gu g=S.gu g) (eb:S'.began=S.began) (ee:S'.ended=S.ended):TG S' g q fx:=by
 refine ⟨?_,?_,?_,?_,?_⟩
 ·rw [e,sm.n,sm.gr];exact h.t0
 ·rw [e,sm.n,sm.w];exact h.t1
 ·rw [e,sm.n,sm.gr];exact h.t2
 ·rw [e,sm.n,sm.gr];exact h.t3
 ·rw [e,sm.n,sm.gr,eb,ee,sm.b];exact h.t4
theorem VI.congr {S':Pl} {v:Vis} (h:VI S v) (sm:S.Sm S'):VI S' v:=by
 obtain ⟨a1,a2,a3,a4,a5,a6,a7⟩:=h
 refine ⟨?_,?_,?_,a4,?_,?_,?_⟩
 ·rw [sm.g];exact a1
 ·rw [sm.gr];exact a2
 ·rw [sm.gr];exact a3
 ·rw [sm.gr];exact a5
 ·rw [sm.gr];exact a6
 ·rw [sm.n];exact a7
theorem Hy.pc (h:Hy S ex p fx lf) {p':Int->Nat} (hp:∀ g:Int,0<=g->g<S.G.length->p' g=p g):Hy S ex p' fx lf:={ h with tg:=fun g g0 g1 g2=>by rw [hp g g0 g1];exact h.tg g g0 g1 g2 }
theorem Hy.open_ (h:Hy S (-1) p fx lf) (g:Int):Hy S g p fx lf:={ h with gh:=fun k k0 k1 _=>h.gh k k0 k1 (by omega),tg:=fun k k0 k1 _=>h.tg k k0 k1 (by omega),qm:=fun k k0 k1 _=>h.qm k k0 k1 (by omega) }
theorem Hy.close (h:Hy S g p fx lf) {q:Nat} (hg:GH S.walk S.B (S.gr g) (S.gu g) (gt S.homes g) (hv S.visits g)) (ht:TG S g q fx) (hq:(S.gu g).st=2->g∈S.qu (gt (S.gr g).wants (S.gu g).want)):Hy S (-1) (pln p g q) fx lf:=by
 refine { h with gh:=fun k k0 k1 _=>?_,tg:=fun k k0 k1 _=>?_,qm:=fun k k0 k1 _=>?_ }
 ·by_cases e:k=g
  ·subst e;exact hg
  ·exact h.gh k k0 k1 e
 ·unfold pln
  by_cases e:k=g
  ·subst e;rw [if_pos rfl];exact ht
  ·rw [if_neg e];exact h.tg k k0 k1 e
 ·by_cases e:k=g
  ·subst e;exact hq
  ·exact h.qm k k0 k1 e
theorem Hy.tl (h:Hy S ex p fx lf) (ts ls:List Int):Hy { S with takes:=ts,lines:=ls } ex p fx lf:=by
 refine ⟨h.gh,fun g g0 g1 g2=>?_,fun r r0 r1=>?_,fun v hv=>(h.vi v hv).congr ⟨rfl,rfl,rfl,rfl⟩,h.qm⟩
 ·exact (h.tg g g0 g1 g2).congr ⟨rfl,rfl,rfl,rfl⟩ rfl rfl rfl
 ·obtain ⟨a,b,c,bn,en,l,lf,w,qs,f1,f2⟩:=h.ri r r0 r1
  exact ⟨a,b,c,bn,en,l,lf,w,qs,f1,f2⟩
theorem Hy.setG (h:Hy S g p fx lf) (g0:0<=g) (hf:S.free g) (hqr:∀ r:Int,0<=r->r<S.B.length->∀ k∈S.qu r,0<=k) (x:Gs):Hy (S.setG g x) g p fx lf:=by
 have hne:∀ k:Int,0<=k->k≠g->(S.setG g x).gu k=S.gu k:=fun k k0 hk=>Pl.gu_setG_ne fun e=>hk (by rwa [AR k0 g0] at e)
 refine ⟨fun k k0 k1 k2=>?_,fun k k0 k1 k2=>?_,fun r r0 r1=>?_,fun v hv=>(h.vi v hv).congr ⟨rfl,rfl,rfl,rfl⟩,fun k k0 k1 k2=>by rw [hne k k0 k2];exact h.qm k k0 k1 k2⟩
 ·rw [hne k k0 k2]
  exact h.gh k k0 k1 k2
 ·exact (h.tg k k0 k1 k2).congr ⟨rfl,rfl,rfl,rfl⟩ (hne k k0 k2) rfl rfl
 ·obtain ⟨a,b,c,bn,en,l,lf,w,qs,f1,f2⟩:=h.ri r r0 r1
  have hm:∀ k∈S.qu r,(S.setG g x).gu k=S.gu k:=fun k hk=>hne k (hqr r r0 r1 k hk) fun e=>hf r r0 r1 (by rw [← e];exact hk)
  refine ⟨a,b,c,bn,en,l,lf,w,?_,fun e v hv e1 e2 k hk=>?_,f2⟩
  ·refine List.Pairwise.imp_of_mem (fun {i j} hi hj h=>?_) qs
   rw [hm i hi,hm j hj]
   exact h
  ·rw [hm k hk]
   exact f1 e v hv e1 e2 k hk
theorem Rk {xs:List Int} {i k v:Int} (hi:0<=i) (hk:0<=k) (h:k≠i):gt (xs.set i.toNat v) k=gt xs k:=by
 have:k.toNat≠i.toNat:=fun e=>h (by rwa [AR hk hi] at e)
 unfold gt
 simp only [List.getD,List.getElem?_set]
 rw [if_neg fun h'=>this h'.symm]
theorem OO {xs:List Int} {i v:Int} (h:i.toNat<xs.length):gt (xs.set i.toNat v) i=v:=by
 unfold gt
 simp [List.getD,h]
theorem Hy.setH (h:Hy S g p fx lf) (g0:0<=g) (t:Int):Hy (S.setH g t) g p fx lf:=by
 refine ⟨fun k k0 k1 k2=>?_,fun k k0 k1 k2=>(h.tg k k0 k1 k2).congr ⟨rfl,rfl,rfl,rfl⟩ rfl rfl rfl,fun r r0 r1=>?_,fun v hv=>(h.vi v hv).congr ⟨rfl,rfl,rfl,rfl⟩,h.qm⟩
 ·have:gt (S.setH g t).homes k=gt S.homes k:=Rk g0 k0 k2
  rw [this]
  exact h.gh k k0 k1 k2
 ·obtain ⟨a,b,c,bn,en,l,lf,w,qs,f1,f2⟩:=h.ri r r0 r1
  exact ⟨a,b,c,bn,en,l,lf,w,qs,f1,f2⟩
theorem Hy.addQ (h:Hy S g p fx lf) {r:Int} (r0:0<=r) (hrl:r.toNat<S.queues.length) (hq:∀ k∈S.qu r,(S.gu k).since<=S.now) (hs:(S.gu g).since=S.now):Hy (S.setQ r (S.qu r++[g])) g p fx lf:=by
 refine ⟨h.gh,fun k k0 k1 k2=>(h.tg k k0 k1 k2).congr ⟨rfl,rfl,rfl,rfl⟩ rfl rfl rfl,fun i i0 i1=>?_,fun v hv=>(h.vi v hv).congr ⟨rfl,rfl,rfl,rfl⟩,fun k k0 k1 k2 k3=>?_⟩
 rotate_left
 ·have:=h.qm k k0 k1 k2 k3
  rw [Pl.qu_setQ S hrl]
  split
  ·rename_i e
   refine List.mem_append_left _ ?_
   unfold Pl.qu
   rw [← e]
   exact this
  ·exact this
 obtain ⟨a,b,c,bn,en,l,lf,w,qs,f1,f2⟩:=h.ri i i0 i1
 have hqu:=Pl.qu_setQ S (i:=i) (q:=S.qu r++[g]) hrl
 refine ⟨a,b,c,bn,en,l,lf,w,?_,fun e v hv e1 e2 k hk=>?_,f2⟩
 ·rw [hqu]
  split
  ·rename_i e
   rw [AR i0 r0] at e
   subst e
   refine List.pairwise_append.2 ⟨qs,by simp,fun k hk j hj=>?_⟩
   rw [List.mem_singleton] at hj
   subst hj
   show (S.gu k).since<=(S.gu j).since
   rw [hs]
   exact hq k hk
  ·exact qs
 ·rw [hqu] at hk
  show v.came<=(S.gu k).since
  split at hk
  ·rename_i e'
   rw [AR i0 r0] at e'
   subst e'
   rcases List.mem_append.1 hk with hk | hk
   ·exact f1 e v hv e1 e2 k hk
   ·rw [List.mem_singleton] at hk
    subst hk
    rw [hs]
    exact Int.le_trans (h.vi v hv).t (h.vi v hv).n
  ·exact f1 e v hv e1 e2 k hk
structure OnP (S:Pl) (g k t:Int):Prop where
 ch:Chn S.B S.walk (S.gr g).came (hv S.visits g)
 n:((hv S.visits g).length:Int)=k
 t:Gl S.B (S.gr g).came (hv S.visits g)=t
 h:gt S.homes g=-1
theorem Pl.Ok.since_le (ok:S.Ok c) (h:Hy S g p fx lf) (hf:S.free g) {r:Int} (r0:0<=r) (r1:r<S.B.length):∀ k∈S.qu r,(S.gu k).since<=S.now:=fun k hk=>by
 obtain ⟨k0,k1,k2,_⟩:=ok.qs r r0 r1 k hk
 exact ((h.tg k k0 k1 fun e=>hf r r0 r1 (by rw [← e];exact hk)).t2 k2).1
theorem Hy.stand (ok:S.Ok c) (h:Hy S g p fx lf) (g0:0<=g) (g1:g<S.G.length) (hf:S.free g) (hw0:0<=(S.gu g).want) (hw1:(S.gu g).want<(S.gr g).wants.length) (hp:OnP S g (S.gu g).want (S.now-S.walk)) (q:Nat):Hy (S.stand g) (-1) (pln p g q) fx lf:=by
 obtain ⟨q0,q1⟩:=ok.want hw0 hw1
 have hgl:g.toNat<S.guests.length:=by rw [ok.lg];omega
 have hrl:(gt (S.gr g).wants (S.gu g).want).toNat<S.queues.length:=by rw [ok.lq];omega
 have hpat:=(ok.v.gr g0 g1).2.2.2.2
 have hqr:∀ r:Int,0<=r->r<S.B.length->∀ k∈S.qu r,0<=k:=fun r r0 r1 k hk=>(ok.qs r r0 r1 k hk).1
 have h1:=h.setG g0 hf hqr { S.gu g with st:=2,since:=S.now }
 have hgu:(S.setG g { S.gu g with st:=2,since:=S.now }).gu g={ S.gu g with st:=2,since:=S.now }:=Pl.gu_same hgl
 have h2:Hy (S.stand g) g p fx lf:=by
  refine h1.addQ q0 hrl (fun k hk=>?_) (by rw [hgu];rfl)
  have hk:k∈S.qu (gt (S.gr g).wants (S.gu g).want):=hk
  have hkg:k≠g:=fun e=>hf _ q0 q1 (e▸hk)
  rw [Pl.gu_setG_ne fun e=>hkg (by rwa [AR (hqr _ q0 q1 k hk) g0] at e)]
  exact ok.since_le h hf q0 q1 k hk
 have hgs:(S.stand g).gu g={ S.gu g with st:=2,since:=S.now }:=hgu
 have hn:=hp.n
 have ht:=hp.t
 refine h2.close ⟨hp.ch,?_,?_,?_,?_,?_,fun _=>hp.h⟩ ⟨?_,?_,?_,?_,?_⟩ ?_
 all_goals rw [hgs]
 ·exact fun e=>absurd (show (2:Int)=0 from e) (by decide)
 ·exact fun e=>absurd (show (2:Int)=1 from e) (by decide)
 ·refine fun _=>⟨hn.symm,?_⟩
  show S.now=Gl S.B (S.gr g).came (hv S.visits g)+S.walk
  omega
 ·exact fun e=>absurd (show (2:Int)=3 from e) (by decide)
 ·exact fun e=>absurd (show (2:Int)=4 from e) (by decide)
 ·exact fun e=>absurd (show (2:Int)=0 from e) (by decide)
 ·exact fun e=>absurd (show (2:Int)=1 from e) (by decide)
 ·refine fun _=>⟨Int.le_refl _,?_⟩
  show S.now-S.now<=(gd S.G g).patience+_
  split<;>omega
 ·exact fun e=>absurd (show (2:Int)=3 from e) (by decide)
 ·exact fun e=>absurd (show (2:Int)=3 from e) (by decide)
 ·intro _
  show g∈(S.setQ (gt (S.gr g).wants (S.gu g).want) (S.qu (gt (S.gr g).wants (S.gu g).want)++[g])).qu (gt (S.gr g).wants (S.gu g).want)
  rw [Pl.qu_setQ S hrl,if_pos rfl]
  exact List.mem_append_right _ (List.mem_singleton.2 rfl)
theorem Hy.on (ok:S.Ok c) (h:Hy S g p fx lf) (g0:0<=g) (g1:g<S.G.length) (hf:S.free g) (hw1:(S.gu g).want<(S.gr g).wants.length) (hp:OnP S g ((S.gu g).want+1) S.now) (q:Nat):Hy (S.on g) (-1) (pln p g q) fx lf:=by
 have hgl:g.toNat<S.guests.length:=by rw [ok.lg];omega
 have hhl:g.toNat<S.homes.length:=by rw [ok.lh];omega
 have hw:=ok.v.w
 have hqr:∀ r:Int,0<=r->r<S.B.length->∀ k∈S.qu r,0<=k:=fun r r0 r1 k hk=>(ok.qs r r0 r1 k hk).1
 have hn:=hp.n
 have ht:=hp.t
 unfold Pl.on
 split
 ·rename_i hle
  have h2:=(h.setG g0 hf hqr { S.gu g with want:=(S.gu g).want+1,since:=S.now,st:=4 }).setH g0 S.now
  have hgs:((S.setG g { S.gu g with want:=(S.gu g).want+1,since:=S.now,st:=4 }).setH g S.now).gu g={ S.gu g with want:=(S.gu g).want+1,since:=S.now,st:=4 }:=Pl.gu_same hgl
  have hh:gt ((S.setG g { S.gu g with want:=(S.gu g).want+1,since:=S.now,st:=4 }).setH g S.now).homes g=S.now:=OO hhl
  refine h2.close ⟨hp.ch,?_,?_,?_,?_,?_,?_⟩ ⟨?_,?_,?_,?_,?_⟩ (by rw [hgs];exact fun e=>absurd (show (4:Int)=2 from e) (by decide))
  all_goals rw [hgs]
  ·exact fun e=>absurd (show (4:Int)=0 from e) (by decide)
  ·exact fun e=>absurd (show (4:Int)=1 from e) (by decide)
  ·exact fun e=>absurd (show (4:Int)=2 from e) (by decide)
  ·exact fun e=>absurd (show (4:Int)=3 from e) (by decide)
  ·rw [hh]
   refine fun _=>⟨?_,ht.symm⟩
   show (hv S.visits g).length=(S.gr g).wants.length
   omega
  ·exact fun e=>absurd rfl e
  ·exact fun e=>absurd (show (4:Int)=0 from e) (by decide)
  ·exact fun e=>absurd (show (4:Int)=1 from e) (by decide)
  ·exact fun e=>absurd (show (4:Int)=2 from e) (by decide)
  ·exact fun e=>absurd (show (4:Int)=3 from e) (by decide)
  ·exact fun e=>absurd (show (4:Int)=3 from e) (by decide)
 ·rename_i hle
  have h1:=h.setG g0 hf hqr { S.gu g with want:=(S.gu g).want+1,since:=S.now,st:=1 }
  have ok1:=ok.on1 g0 g1 hf hw1 hle
  have hgs:(S.setG g { S.gu g with want:=(S.gu g).want+1,since:=S.now,st:=1 }).gu g={ S.gu g with want:=(S.gu g).want+1,since:=S.now,st:=1 }:=Pl.gu_same hgl
  have hwm:=(ok.gs g g0 g1).w0
  split
  ·rename_i ew
   refine Hy.stand ok1 h1 g0 g1 hf ?_ ?_ ⟨hp.ch,?_,?_,hp.h⟩ q
   ·rw [hgs];show 0<=(S.gu g).want+1;omega
   ·rw [hgs];show (S.gu g).want+1<((S.gr g).wants.length:Int);omega
   ·rw [hgs];exact hn
   ·show Gl S.B (S.gr g).came (hv S.visits g)=S.now-S.walk
    omega
  ·rename_i ew
   refine h1.close ⟨hp.ch,?_,?_,?_,?_,?_,fun _=>hp.h⟩ ⟨?_,?_,?_,?_,?_⟩ (by rw [hgs];exact fun e=>absurd (show (1:Int)=2 from e) (by decide))
   all_goals rw [hgs]
   ·exact fun e=>absurd (show (1:Int)=0 from e) (by decide)
   ·exact fun _=>⟨hn.symm,ht.symm⟩
   ·exact fun e=>absurd (show (1:Int)=2 from e) (by decide)
   ·exact fun e=>absurd (show (1:Int)=3 from e) (by decide)
   ·exact fun e=>absurd (show (1:Int)=4 from e) (by decide)
   ·exact fun e=>absurd (show (1:Int)=0 from e) (by decide)
   ·refine fun _=>⟨ew,?_⟩
    show S.now+_<=S.now+S.walk
    split<;>omega
   ·exact fun e=>absurd (show (1:Int)=2 from e) (by decide)
   ·exact fun e=>absurd (show (1:Int)=3 from e) (by decide)
   ·exact fun e=>absurd (show (1:Int)=3 from e) (by decide)
end
end Go.Proofs.YthhadkggldcolaaGreat
namespace Go.Proofs.YthhadkggldcolaaGreat
open Go.RowKit
section
variable {S:Pl} {ex:Int} {p:Int->Nat} {fx lf:Int} {c:Nat} {g:Int}
theorem Hy.unq (ok:S.Ok c) (h:Hy S (-1) p fx lf) (g0:0<=g) (g1:g<S.G.length) (hs:(S.gu g).st=2) {b:Bool}
  (hb:b=true->gt (S.gr g).wants (S.gu g).want=fx/\3<=p g/\(gd S.G g).size<=lf/\((bd S.B fx).fill=false->∀ k∈S.qu fx,(S.gu g).since<=(S.gu k).since)):
  Hy (S.unq g b) g p fx (lf-if b=true then (gd S.G g).size else 0):=by
 have hg:=ok.gs g g0 g1
 have hw:=hg.w3 (by omega)
 have hw1:=hg.w2 (by omega)
 obtain ⟨q0,q1⟩:=ok.want hw hw1
 have hrl:(gt (S.gr g).wants (S.gu g).want).toNat<S.queues.length:=by rw [ok.lq];omega
 have hsz:1<=(gd S.G g).size:=(ok.v.gr g0 g1).2.1.1
 have htg:=h.tg g g0 g1 (by omega)
 have t2:=htg.t2 hs
 have hqm:=h.qm g g0 g1 (by omega) hs
 have sm:=Pl.Sm.unq S g b
 obtain ⟨v,hv⟩:∃ v:Vis,v=(g,(S.gu g).want,gt (S.gr g).wants (S.gu g).want,b,(S.gu g).since,S.now):=⟨_,rfl⟩
 have hV:(S.unq g b).visits=S.visits++[v]:=by rw [hv];rfl
 have v1:v.1=g:=by rw [hv]
 have vw:v.want=(S.gu g).want:=by rw [hv];rfl
 have vr:v.ride=gt (S.gr g).wants (S.gu g).want:=by rw [hv];rfl
 have vo:v.on=b:=by rw [hv];rfl
 have vc:v.came=(S.gu g).since:=by rw [hv];rfl
 have vl:v.left=S.now:=by rw [hv];rfl
 have hqu:∀ i,(S.unq g b).qu i=if i.toNat=(gt (S.gr g).wants (S.gu g).want).toNat then (S.qu (gt (S.gr g).wants (S.gu g).want)).filter (fun k=>decide (k≠g)) else S.qu i:=fun i=>Pl.qu_setQ S hrl
 have hsub:∀ i:Int,0<=i->((S.unq g b).qu i).Sublist (S.qu i):=fun i i0=>by
  rw [hqu]
  split
  ·rename_i e
   rw [AR i0 q0] at e
   rw [e]
   exact List.filter_sublist
  ·exact List.Sublist.refl _
 have hmem:∀ {P:Vis->Prop},(∀ u∈S.visits,P u)->P v->∀ u∈(S.unq g b).visits,P u:=fun {P} ha hb u hu=>by
  rw [hV] at hu
  rcases List.mem_append.1 hu with hu | hu
  ·exact ha u hu
  ·rw [List.mem_singleton] at hu
   rw [hu];exact hb
 refine ⟨fun k k0 k1 k2=>?_,fun k k0 k1 k2=>?_,fun i i0 i1=>?_,?_,fun k k0 k1 k2 k3=>?_⟩
 ·rw [hV,AaJ (by rw [v1];exact fun e=>k2 e.symm)]
  exact h.gh k k0 k1 (by omega)
 ·exact (h.tg k k0 k1 (by omega)).congr sm rfl rfl rfl
 ·obtain ⟨a,b',c',bn,en,l,lf',w,qs,f1,f2⟩:=h.ri i i0 i1
  have hfx:v.on=true->v.ride=i->i=fx:=fun e1 e2=>by
   rw [vo] at e1
   rw [vr,(hb e1).1] at e2
   exact e2.symm
  have hI:∀ t,ld S.G (S.visits++[v]) i t=ld S.G S.visits i t+if v.on=true/\v.ride=i/\S.now=t then (gd S.G g).size else 0:=fun t=>by
   rw [Yh,v1,vl]
  refine ⟨fun e=>?_,fun e=>?_,fun e=>?_,bn,en,fun t=>?_,fun e=>?_,?_,?_,fun e=>?_,fun e=>?_⟩
  ·exact fun e0=>hmem (a e e0) fun e1 e2=>absurd (hfx e1 e2) e
  ·exact fun e0=>hmem (b' e e0) fun e1 e2=>absurd (hfx e1 e2) e
  ·exact hmem (c' e) fun _ _=>.inl vl
  ·rw [hV]
   show ld S.G (S.visits++[v]) i t<=_
   rw [hI]
   split
   ·rename_i h3
    have e:=hfx h3.1 h3.2.1
    have:=lf' e
    rw [vo] at h3
    have hb3:=(hb h3.1).2.2.1
    rw [← h3.2.2,this]
    show _<=(bd S.B i).seats
    omega
   ·have:=l t
    show _<=(bd S.B i).seats
    omega
  ·rw [hV]
   show ld S.G (S.visits++[v]) i S.now=(bd S.B i).seats-_
   rw [hI,lf' e]
   by_cases hbt:b=true
   ·rw [if_pos ⟨by rw [vo];exact hbt,by rw [vr,(hb hbt).1,e],rfl⟩,if_pos hbt]
    omega
   ·rw [if_neg (fun h=>hbt (by rw [← vo];exact h.1)),if_neg hbt]
    omega
  ·refine hmem (fun u hu=>hmem (fun u' hu'=>w u hu u' hu') ?_) (hmem (fun u' hu'=>?_) ?_)
   ·intro e1 e2 e3 e4 e5 e6
    have:=(h.vi u hu).n
    rw [vl] at e5 ⊢
    omega
   ·intro e1 e2 e3 e4 e5 e6
    have h6:v.left<u'.left+(bd S.B i).cycle:=e6
    rw [vl] at h6 ⊢
    rcases c' (hfx e1 e2) u' hu' e3 e4 with h7 | h7
    ·exact h7
    ·omega
   ·intros;rfl
  ·exact List.Pairwise.sublist (hsub i i0) qs
  ·intro u hu e1 e2 k hk
   have hk':=(hsub i i0).subset hk
   refine hmem (P:=fun u=>u.on=true->u.ride=i->u.came<=(S.gu k).since) (fun u hu e1 e2=>f1 e u hu e1 e2 k hk') (fun e1 e2=>?_) u hu e1 e2
   have e3:=hfx e1 e2
   rw [vo] at e1
   rw [vc]
   refine (hb e1).2.2.2 (by rw [← e3];exact e) k ?_
   rw [← e3]
   exact hk'
  ·refine hmem (fun u hu e1 e2=>hmem (fun u' hu'=>f2 e u hu e1 e2 u' hu') (fun e3 e4=>?_)) (fun e1 e2=>hmem (fun u' hu' _ _=>?_) (fun _ h=>?_))
   ·rw [vc] at e4
    rw [vr] at e3
    have:=f1 e u hu e1 e2 g (by rw [← e3];exact hqm)
    omega
   ·rw [vl];exact (h.vi u' hu').n
   ·omega
 ·refine hmem (fun u hu=>(h.vi u hu).congr sm) ⟨?_,?_,?_,?_,?_,?_,?_⟩
  ·rw [v1];exact ⟨g0,g1⟩
  ·rw [v1,vw,sm.gr];exact ⟨hw,hw1⟩
  ·rw [v1,vr,vw,sm.gr]
  ·rw [vc,vl];exact t2.1
  ·intro e
   rw [vo] at e
   rw [vc,vl,v1,sm.gr]
   have:=t2.2
   rw [if_pos (hb e).2.1] at this
   omega
  ·rw [vc,vl,v1,sm.gr]
   have:=t2.2
   split at this<;>omega
  ·rw [vl];exact Int.le_refl _
 ·have hk:=h.qm k k0 k1 (by omega) k3
  show k∈(S.unq g b).qu (gt (S.gr k).wants (S.gu k).want)
  rw [hqu]
  split
  ·rename_i e
   refine List.mem_filter.2 ⟨?_,by simpa using k2⟩
   unfold Pl.qu
   rw [← e]
   exact hk
  ·exact hk
theorem Hy.unq_on (_ok:S.Ok c) (h:Hy S (-1) p fx lf) (g0:0<=g) (g1:g<S.G.length) (hs:(S.gu g).st=2) (b:Bool):
  Chn S.B S.walk (S.gr g).came (hv (S.unq g b).visits g)/\((hv (S.unq g b).visits g).length:Int)=(S.gu g).want+1 /\
  Gl S.B (S.gr g).came (hv (S.unq g b).visits g)=S.now+(if b=true then (bd S.B (gt (S.gr g).wants (S.gu g).want)).cycle else 0)/\gt S.homes g=-1 /\
  ∃ v∈hv (S.unq g b).visits g,v.on=b/\v.ride=gt (S.gr g).wants (S.gu g).want/\v.left=S.now:=by
 have hg:=h.gh g g0 g1 (by omega)
 obtain ⟨s1,s2⟩:=hg.s2 hs
 have e:hv (S.unq g b).visits g=hv S.visits g++[(g,(S.gu g).want,gt (S.gr g).wants (S.gu g).want,b,(S.gu g).since,S.now)]:=YK (V:=S.visits) (v:=(g,(S.gu g).want,gt (S.gr g).wants (S.gu g).want,b,(S.gu g).since,S.now)) rfl
 rw [e]
 refine ⟨hg.ch.snoc s1 s2,?_,?_,hg.hm (by omega),_,List.mem_append_right _ (List.mem_singleton.2 rfl),rfl,rfl,rfl⟩
 ·rw [List.length_append,List.length_singleton]
  omega
 ·rw [P0]
  rfl
theorem Hy.leave_no (ok:S.Ok c) (h:Hy S (-1) p fx lf) (g0:0<=g) (g1:g<S.G.length) (hs:(S.gu g).st=2) (q:Nat):Hy (S.leave g false) (-1) (pln p g q) fx lf:=by
 have h1:=Hy.unq (b:=false) ok h g0 g1 hs fun e=>by cases e
 rw [if_neg (by simp),Int.sub_zero] at h1
 obtain ⟨u1,u2⟩:=ok.unq g0 g1 hs false
 obtain ⟨a1,a2,a3,a4,_⟩:=h.unq_on ok g0 g1 hs false
 rw [if_neg (by simp),Int.add_zero] at a3
 have:=h1.on u1 g0 g1 u2 ((ok.gs g g0 g1).w2 (by omega)) ⟨a1,a2,a3,a4⟩ q
 rw [Pl.leave,if_neg (by simp)]
 exact this
theorem Hy.close3 {x:Gs} (h:Hy S g p fx lf) (e:S.gu g=x) (hst:x.st=3) (hch:Chn S.B S.walk (S.gr g).came (hv S.visits g)) (hn:x.want+1=(hv S.visits g).length)
  (ht:Gl S.B (S.gr g).came (hv S.visits g)=x.since+(bd S.B (gt (S.gr g).wants x.want)).cycle) (hx:∃ v∈hv S.visits g,v.on=true/\v.ride=gt (S.gr g).wants x.want/\v.left=x.since) (hh:gt S.homes g=-1)
  (hfx:gt (S.gr g).wants x.want=fx) (hsi:x.since=S.now) (q:Nat):Hy S (-1) (pln p g q) fx lf:=by
 have no:∀ {n:Int} {P:Prop},3≠n->x.st=n->P:=fun hne e'=>absurd (hst.symm.trans e') hne
 refine h.close ⟨hch,?_,?_,?_,?_,?_,fun _=>hh⟩ ⟨?_,?_,?_,?_,?_⟩ ?_
 all_goals rw [e]
 ·exact no (by decide)
 ·exact no (by decide)
 ·exact no (by decide)
 ·exact fun _=>⟨hn,ht,hx⟩
 ·exact no (by decide)
 ·exact no (by decide)
 ·exact no (by decide)
 ·exact no (by decide)
 ·exact fun _ _=>hsi
 ·exact fun _ e'=>absurd hfx e'
 ·exact no (by decide)
theorem Hy.leave_yes (ok:S.Ok c) (h:Hy S (-1) p fx lf) (g0:0<=g) (g1:g<S.G.length) (hs:(S.gu g).st=2)
  (hb:gt (S.gr g).wants (S.gu g).want=fx/\3<=p g/\(gd S.G g).size<=lf/\((bd S.B fx).fill=false->∀ k∈S.qu fx,(S.gu g).since<=(S.gu k).since)) (q:Nat):Hy (S.leave g true) (-1) (pln p g q) fx (lf-(gd S.G g).size):=by
 have h1:=Hy.unq (b:=true) ok h g0 g1 hs fun _=>hb
 rw [if_pos rfl] at h1
 obtain ⟨u1,u2⟩:=ok.unq g0 g1 hs true
 obtain ⟨a1,a2,a3,a4,a5⟩:=h.unq_on ok g0 g1 hs true
 rw [if_pos rfl] at a3
 have hgl:g.toNat<(S.unq g true).guests.length:=by rw [u1.lg];show g.toNat<S.G.length;omega
 have h2:=(h1.setG g0 u2 (fun r r0 r1 k hk=>(u1.qs r r0 r1 k hk).1) { S.gu g with st:=3,since:=S.now,tokens:=(S.gu g).tokens-S.price g }).tl (S.takes.set (gt (S.gr g).wants (S.gu g).want).toNat (gt S.takes (gt (S.gr g).wants (S.gu g).want)+S.price g)) S.lines
 rw [Pl.leave,if_pos rfl]
 have hgs:((S.unq g true).setG g { S.gu g with st:=3,since:=S.now,tokens:=(S.gu g).tokens-S.price g }).gu g={ S.gu g with st:=3,since:=S.now,tokens:=(S.gu g).tokens-S.price g }:=Pl.gu_same hgl
 exact Hy.close3 (S:=((S.unq g true).setG g { S.gu g with st:=3,since:=S.now,tokens:=(S.gu g).tokens-S.price g }).setT (gt (S.gr g).wants (S.gu g).want) (gt S.takes (gt (S.gr g).wants (S.gu g).want)+S.price g)) (x:={ S.gu g with st:=3,since:=S.now,tokens:=(S.gu g).tokens-S.price g }) h2 hgs rfl a1 a2.symm a3 a5 a4 hb.1 rfl q
theorem Aao (ok:S.Ok c) (g0:0<=g) (hw1:¬ ((S.gr g).wants.length:Int)<=(S.gu g).want+1->0<=gt (S.gr g).wants ((S.gu g).want+1)/\gt (S.gr g).wants ((S.gu g).want+1)<S.B.length) (g1:g<S.G.length) (r:Int):∃ new,(S.on g).qu r=S.qu r++new:=by
 have hgl:g.toNat<S.guests.length:=by rw [ok.lg];omega
 unfold Pl.on
 split
 ·exact ⟨[],by rw [List.append_nil];rfl⟩
 ·rename_i hle
  split
  ·obtain ⟨q0,q1⟩:=hw1 hle
   have hgs:(S.setG g { S.gu g with want:=(S.gu g).want+1,since:=S.now,st:=1 }).gu g={ S.gu g with want:=(S.gu g).want+1,since:=S.now,st:=1 }:=Pl.gu_same hgl
   have hrl:(gt (S.gr g).wants ((S.gu g).want+1)).toNat<S.queues.length:=by rw [ok.lq];omega
   unfold Pl.stand
   rw [hgs]
   have:∀ T:Pl,T.queues=S.queues->∀ X,(T.setQ (gt (S.gr g).wants ((S.gu g).want+1)) (S.qu (gt (S.gr g).wants ((S.gu g).want+1))++X)).qu r=S.qu r++(if r.toNat=(gt (S.gr g).wants ((S.gu g).want+1)).toNat then X else []):=fun T hT X=>by
    rw [Pl.qu_setQ T (by rw [hT];exact hrl)]
    split
    ·rename_i e
     have:S.qu r=S.qu (gt (S.gr g).wants ((S.gu g).want+1)):=by unfold Pl.qu;rw [e]
     rw [this]
    ·rw [List.append_nil];unfold Pl.qu;rw [hT]
   exact ⟨_,this _ rfl [g]⟩
  ·exact ⟨[],by rw [List.append_nil];rfl⟩
theorem S4 {q:List Int} (h:(g::q).Nodup):(g::q).filter (fun k=>decide (k≠g))=q:=by
 obtain ⟨h1,_⟩:=List.nodup_cons.1 h
 rw [List.filter_cons,if_neg (by simp),List.filter_eq_self]
 intro k hk
 simpa using fun e:k=g=>h1 (e▸hk)
theorem Se (ok:S.Ok c) (g0:0<=g) (g1:g<S.G.length) (hs:(S.gu g).st=2) {r:Int} (r0:0<=r) (r1:r<S.B.length) (hr:gt (S.gr g).wants (S.gu g).want=r) {q new:List Int} (hq:S.qu r=g::q++new) (b:Bool):∃ new',(S.leave g b).qu r=q++new':=by
 have hg:=ok.gs g g0 g1
 have hw:=hg.w3 (by omega)
 have hw1:=hg.w2 (by omega)
 have hrl:r.toNat<S.queues.length:=by rw [ok.lq];omega
 have hn:=ok.qn r r0 r1
 rw [hq] at hn
 have hu:∀ b,(S.unq g b).qu r=q++new:=fun b=>by
  show (S.setQ (gt (S.gr g).wants (S.gu g).want) _).qu r=_
  rw [hr,Pl.qu_setQ S hrl,if_pos rfl,hq]
  exact S4 (q:=q++new) hn
 unfold Pl.leave
 split
 ·exact ⟨new,hu true⟩
 ·obtain ⟨u1,u2⟩:=ok.unq g0 g1 hs false
  obtain ⟨n2,h2⟩:=Aao u1 g0 (fun hle=>u1.v.want (by show 0<=(S.gu g).want+1;omega) (by show (S.gu g).want+1<((S.gr g).wants.length:Int);have:¬ ((S.gr g).wants.length:Int)<=(S.gu g).want+1:=hle;omega)) g1 r
  exact ⟨new++n2,by rw [h2,hu false,List.append_assoc]⟩
theorem Hy.c3 (h:Hy S ex (pln (fun _=>3) g 3) fx lf):Hy S ex (fun _=>3) fx lf:=h.pc fun k _ _=>by
 unfold pln
 split<;>rfl
theorem Hy.fill {r:Int} (r0:0<=r) (q:List Int):∀ (left:Int) (T:Pl) (c:Nat),r<T.B.length->O1 T r q c->Hy T (-1) (fun _=>3) r left->((bd T.B r).fill=false->∃ new,T.qu r=q++new)->Hy (BK r q left T).1 (-1) (fun _=>3) r (BK r q left T).2:=by
 induction q with
 | nil=>exact fun left T c _ _ h _=>h
 | cons g q ih=>
  intro left T c r1 fo h hq
  obtain ⟨g0,g1,gs,gw⟩:=fo.el g (List.mem_cons_self ..)
  rw [Qh]
  split
  ·have sm:=Pl.Sm.leave T g false
   refine ih left _ (c+1) (by rw [sm.b];exact r1) (fo.leave fun e=>by cases e) (Hy.leave_no fo.ok h g0 g1 gs 3).c3 fun e=>?_
   rw [sm.b] at e
   obtain ⟨new,hn⟩:=hq e
   exact Se fo.ok g0 g1 gs r0 r1 gw hn false
  ·rename_i hbad
   split
   ·rename_i hsz
    have sm:=Pl.Sm.leave T g true
    have hh:(bd T.B r).fill=false->∀ k∈T.qu r,(T.gu g).since<=(T.gu k).since:=fun e k hk=>by
     obtain ⟨new,hn⟩:=hq e
     have hs:=(h.ri r r0 r1).qs
     rw [hn] at hs hk
     rcases List.mem_cons.1 (show k∈g::(q++new) from hk) with rfl | hk
     ·exact Int.le_refl _
     ·exact (List.pairwise_cons.1 (show (g::(q++new)).Pairwise _ from hs)).1 k hk
    refine ih (left-(T.gr g).size) _ (c+1) (by rw [sm.b];exact r1) (fo.leave fun _=>by simpa using hbad) (Hy.leave_yes fo.ok h g0 g1 gs ⟨gw,Nat.le_refl _,hsz,hh⟩ 3).c3 fun e=>?_
    rw [sm.b] at e
    obtain ⟨new,hn⟩:=hq e
    exact Se fo.ok g0 g1 gs r0 r1 gw hn true
   ·split
    ·rename_i hf
     refine ih left T (c+1) r1 fo.skip h fun e=>?_
     have hf:(bd T.B r).fill=true:=hf
     rw [hf] at e
     cases e
    ·exact h
end
end Go.Proofs.YthhadkggldcolaaGreat
namespace Go.Proofs.YthhadkggldcolaaGreat
open Go.RowKit
theorem UP {G:List Grp} {r t:Int}:∀ {V:List Vis},(∀ v∈V,v.on=true->v.ride=r->v.left≠t)->ld G V r t=0
 | [],_=>rfl
 | v::V,h=>by
  have ih:=UP (G:=G) (r:=r) (t:=t) (V:=V) fun u hu=>h u (List.mem_cons_of_mem _ hu)
  unfold ld at ih ⊢
  rw [List.map_cons,B7,ih,if_neg fun e=>h v (List.mem_cons_self ..) e.1 e.2.1 e.2.2]
  rfl
theorem W5 {G:List Grp} {r t:Int}:∀ {V:List Vis},(∀ v∈V,1<=(gd G v.1).size)->0<=ld G V r t/\((∃ v∈V,v.on=true/\v.ride=r/\v.left=t)->1<=ld G V r t)
 | [],_=>⟨Int.le_refl _,fun ⟨v,hv,_⟩=>by simp at hv⟩
 | v::V,h=>by
  obtain ⟨i1,i2⟩:=W5 (G:=G) (r:=r) (t:=t) (V:=V) fun u hu=>h u (List.mem_cons_of_mem _ hu)
  have hv:=h v (List.mem_cons_self ..)
  unfold ld at i1 i2 ⊢
  rw [List.map_cons,B7]
  refine ⟨by split<;>omega,fun ⟨u,hu,e⟩=>?_⟩
  rcases List.mem_cons.1 hu with rfl | hu
  ·rw [if_pos e];omega
  ·have:=i2 ⟨u,hu,e⟩
   split<;>omega
theorem IQ (S:Pl) (g:Int) (b:Bool):(S.leave g b).began=S.began/\(S.leave g b).ended=S.ended:=by
 unfold Pl.leave
 split
 ·exact ⟨rfl,rfl⟩
 ·obtain ⟨_,_,_,h1,h2,_⟩:=(S.unq g false).on_same g
  exact ⟨h2,h1⟩
theorem KZ {r:Int}:∀ (q:List Int) (left:Int) (T:Pl),(BK r q left T).1.began=T.began/\(BK r q left T).1.ended=T.ended
 | [],_,_=>⟨rfl,rfl⟩
 | g::q,left,T=>by
  rw [Qh]
  split
  ·obtain ⟨h1,h2⟩:=KZ (r:=r) q left (T.leave g false)
   exact ⟨h1.trans (IQ T g false).1,h2.trans (IQ T g false).2⟩
  ·split
   ·obtain ⟨h1,h2⟩:=KZ (r:=r) q (left-(T.gr g).size) (T.leave g true)
    exact ⟨h1.trans (IQ T g true).1,h2.trans (IQ T g true).2⟩
   ·split
    ·exact KZ q left T
    ·exact ⟨rfl,rfl⟩
section
variable {S:Pl} {ex:Int} {p:Int->Nat} {fx lf:Int} {c:Nat} {g:Int}
theorem Hy.size1 (ok:S.Ok c) (h:Hy S ex p fx lf):∀ v∈S.visits,1<=(gd S.G v.1).size:=fun v hv=>(ok.v.gr (h.vi v hv).g.1 (h.vi v hv).g.2).2.1.1
theorem Pl.Ok.rideOf (ok:S.Ok c) (g0:0<=g) (g1:g<S.G.length) (h:(S.gu g).st=3):0<=gt (S.gr g).wants (S.gu g).want/\gt (S.gr g).wants (S.gu g).want<S.B.length:=by
 have hg:=ok.gs g g0 g1
 exact ok.want (hg.w3 (by omega)) (hg.w2 (by omega))
theorem Hy.begin (ok:S.Ok c) (h:Hy S (-1) (fun _=>3) (-1) 0) {r:Int} (r0:0<=r) (r1:r<S.B.length):Hy (S.begin r) (-1) (fun _=>3) (-1) 0:=by
 unfold Pl.begin
 split
 ·exact h
 rename_i hgo
 have hbn:gt S.began r<0:=by
  unfold Pl.goesOn at hgo
  simp only [Bool.or_eq_true,decide_eq_true_eq,not_or] at hgo
  omega
 have hcy:=(ok.v.bt r0 r1).2.2.1
 have h1:Hy S (-1) (fun _=>3) r (bd S.B r).seats:=by
  refine { h with tg:=fun k k0 k1 k2=>?_,ri:=fun i i0 i1=>?_ }
  ·have t:=h.tg k k0 k1 k2
   refine ⟨t.t0,t.t1,t.t2,fun e1 e2=>?_,fun e1 e2=>?_⟩
   ·exfalso
    have hs:=(ok.gs k k0 k1).s
    rcases t.t4 e1 (by omega) with h | h
    ·rw [e2] at h;omega
    ·omega
   ·exact t.t4 e1 (by have:=ok.rideOf k0 k1 e1;omega)
  ·have q:=h.ri i i0 i1
   refine ⟨fun _=>q.a (by omega),fun _=>q.b (by omega),fun e=>?_,q.bn,q.en,q.l,fun e=>?_,q.w,q.qs,q.f1,q.f2⟩
   ·subst e
    exact fun v hv e1 e2=>.inr (q.b (by omega) hbn v hv e1 e2)
   ·subst e
    rw [UP fun v hv e1 e2 e3=>?_]
    ·omega
    ·have:=q.b (by omega) hbn v hv e1 e2
     omega
 have fo:=O1.of ok r0 r1
 obtain ⟨f1,sm⟩:=ML (S.qu r) (bd S.B r).seats S c fo
 obtain ⟨e1,e2⟩:=KZ (r:=r) (S.qu r) (bd S.B r).seats S
 have h2:=Hy.fill r0 (S.qu r) (bd S.B r).seats S c r1 fo h1 fun _=>⟨[],by rw [List.append_nil]⟩
 show Hy (if (BK r (S.qu r) (bd S.B r).seats S).2<(bd S.B r).seats then (BK r (S.qu r) (bd S.B r).seats S).1.setB r S.now else (BK r (S.qu r) (bd S.B r).seats S).1) _ _ _ _
 generalize BK r (S.qu r) (bd S.B r).seats S=F at *
 obtain ⟨T,left⟩:=F
 have f1:T.Ok (c+(S.qu r).length):=f1
 have sm:S.Sm T:=sm
 have e1:T.began=S.began:=e1
 have h2:Hy T (-1) (fun _=>3) r left:=h2
 have r1T:r<T.B.length:=by rw [sm.b];exact r1
 have hcT:1<=(bd T.B r).cycle:=by rw [sm.b];exact hcy.1
 have hrl:r.toNat<T.began.length:=by rw [f1.lb];omega
 have hnw:=f1.nw
 show Hy (if left<(bd S.B r).seats then T.setB r S.now else T) _ _ _ _
 split
 ·rw [← sm.n]
  have hbr:gt (T.setB r T.now).began r=T.now:=OO hrl
  have hbi:∀ i:Int,0<=i->i≠r->gt (T.setB r T.now).began i=gt T.began i:=fun i i0 hi=>Rk r0 i0 hi
  refine ⟨h2.gh,fun k k0 k1 k2=>?_,fun i i0 i1=>?_,fun v hv=>(h2.vi v hv).congr ⟨rfl,rfl,rfl,rfl⟩,h2.qm⟩
  ·have t:=h2.tg k k0 k1 k2
   refine ⟨t.t0,t.t1,t.t2,fun e1 e2=>?_,fun e1 e2=>?_⟩
   ·have:=f1.rideOf k0 k1 e1
    have e2:gt (T.gr k).wants (T.gu k).want=-1:=e2
    omega
   ·have e1:(T.gu k).st=3:=e1
    have q:=f1.rideOf k0 k1 e1
    by_cases er:gt (T.gr k).wants (T.gu k).want=r
    ·have:=t.t3 e1 er
     refine .inl ?_
     show gt (T.setB r T.now).began (gt (T.gr k).wants (T.gu k).want)=(T.gu k).since/\(T.gu k).since<=T.now/\T.now+1<=(T.gu k).since+(bd T.B (gt (T.gr k).wants (T.gu k).want)).cycle/\_
     rw [er,hbr,this]
     exact ⟨rfl,by omega,by omega,fun h=>by cases h⟩
    ·have:=t.t4 e1 er
     show (gt (T.setB r T.now).began (gt (T.gr k).wants (T.gu k).want)=(T.gu k).since/\_)∨_
     rw [hbi _ q.1 er]
     exact this
  ·have q:=h2.ri i i0 i1
   by_cases er:i=r
   ·subst er
    have hcc:=q.c rfl
    refine ⟨fun _ _ v hv a b=>?_,fun _ hb=>?_,fun e=>by omega,?_,q.en,q.l,fun e=>by omega,q.w,q.qs,q.f1,q.f2⟩
    ·rw [hbr]
     exact hcc v hv a b
    ·rw [hbr] at hb
     omega
    ·rw [hbr]
     exact Int.le_refl T.now
   ·have hb:=hbi i i0 er
    refine ⟨?_,?_,fun e=>by omega,?_,q.en,q.l,fun e=>by omega,q.w,q.qs,q.f1,q.f2⟩
    ·rw [hb];exact fun _=>q.a er
    ·rw [hb];exact fun _=>q.b er
    ·rw [hb];exact q.bn
 ·rename_i hnl
  have hno:¬ ∃ v∈T.visits,v.on=true/\v.ride=r/\v.left=T.now:=fun hx=>by
   have h3:=(W5 (G:=T.G) (r:=r) (t:=T.now) (h2.size1 f1)).2 hx
   rw [(h2.ri r r0 r1T).lf rfl,sm.b] at h3
   omega
  refine { h2 with tg:=fun k k0 k1 k2=>?_,ri:=fun i i0 i1=>?_ }
  ·have t:=h2.tg k k0 k1 k2
   refine ⟨t.t0,t.t1,t.t2,fun e1 e2=>?_,fun e1 e2=>?_⟩
   ·have:=f1.rideOf k0 k1 e1
    omega
   ·by_cases er:gt (T.gr k).wants (T.gu k).want=r
    ·exfalso
     have t3:=t.t3 e1 er
     obtain ⟨_,_,v,hv,a1,a2,a3⟩:=(h2.gh k k0 k1 k2).s3 e1
     exact hno ⟨v,(List.mem_filter.1 hv).1,a1,a2.trans er,a3.trans t3⟩
    ·exact t.t4 e1 er
  ·have q:=h2.ri i i0 i1
   by_cases er:i=r
   ·subst er
    refine ⟨fun _ hb=>?_,fun _ _ v hv a b=>?_,fun e=>by omega,q.bn,q.en,q.l,fun e=>by omega,q.w,q.qs,q.f1,q.f2⟩
    ·rw [e1] at hb;omega
    ·rcases q.c rfl v hv a b with h | h
     ·exact absurd ⟨v,hv,a,b,h⟩ hno
     ·exact h
   ·exact ⟨fun _=>q.a er,fun _=>q.b er,fun e=>by omega,q.bn,q.en,q.l,fun e=>by omega,q.w,q.qs,q.f1,q.f2⟩
theorem Hy.begins (ok:S.Ok c) (h:Hy S (-1) (fun _=>3) (-1) 0):∀ n:Nat,n<=S.B.length->Hy (S.begins n) (-1) (fun _=>3) (-1) 0
 | 0,_=>h
 | n+1,hn=>by
  obtain ⟨h1,h2⟩:=ok.beginF n (by omega)
  rw [Pl.begins_succ]
  exact Hy.begin h1 (h.begins ok n (by omega)) (by omega) (by rw [h2.b];omega)
def pst (a n:Nat):Int->Nat:=fun g=>if g<(n:Int) then a+1 else a
theorem Qi {a n:Nat}:pln (pst a n) n (a+1)=pst a (n+1):=by
 funext g
 unfold pln pst
 by_cases e:g=n
 ·subst e
  rw [if_pos rfl,if_pos (by omega)]
 ·rw [if_neg e]
  by_cases e2:g<n
  ·rw [if_pos e2,if_pos (by omega)]
  ·rw [if_neg e2,if_neg (by omega)]
theorem Hy.st0 (h:Hy S (-1) (fun _=>p 0) fx lf) {a:Nat} (ha:p 0=a):Hy S (-1) (pst a 0) fx lf:=h.pc fun g g0 _=>by
 unfold pst
 rw [if_neg (by omega),ha]
theorem Hy.stn {a n:Nat} (h:Hy S (-1) (pst a n) fx lf) (hn:S.G.length<=n):Hy S (-1) (fun _=>a+1) fx lf:=h.pc fun g _ g1=>by
 unfold pst
 rw [if_pos (by omega)]
theorem Un {a n:Nat}:pst a n n=a:=if_neg (by omega)
theorem Hy.offF (ok:S.Ok c) (h:Hy S (-1) (pst 0 0) (-1) 0):∀ n:Nat,n<=S.G.length->Hy ((Bi n).foldl Pl.off1 S) (-1) (pst 0 n) (-1) 0
 | 0,_=>h
 | n+1,hn=>by
  have ih:=h.offF ok n (by omega)
  obtain ⟨okT,sm⟩:((Bi n).foldl Pl.off1 S).Ok c/\S.Sm ((Bi n).foldl Pl.off1 S):=by
   have:=NC (f:=Pl.off1) (d:=0) ok n fun T' c' t1 t2 j hj=>t1.off2 (by omega) (by rw [t2.g];omega)
   simpa using this
  rw [Oz]
  generalize (Bi n).foldl Pl.off1 S=T at *
  have g1:((n:Nat):Int)<(T.G.length:Int):=by rw [sm.g];omega
  have gh:=ih.gh n (by omega) g1 (by omega)
  have tg:=ih.tg n (by omega) g1 (by omega)
  rw [Un] at tg
  rw [← Qi]
  unfold Pl.off1
  split
  ·rename_i ho
   unfold Pl.off at ho
   simp only [Bool.and_eq_true,decide_eq_true_eq] at ho
   have hr:=okT.rideOf (by omega) g1 ho.1
   obtain ⟨a1,a2,_⟩:=gh.s3 ho.1
   refine Hy.on okT (ih.open_ n) (by omega) g1 (okT.free (by omega)) ((okT.gs n (by omega) g1).w2 (by omega)) ⟨gh.ch,a1.symm,?_,gh.hm (by omega)⟩ _
   rcases tg.t4 ho.1 (by omega) with h | h
   ·exact absurd ho.2 (h.2.2.2 rfl)
   ·omega
  ·rename_i ho
   refine (ih.open_ n).close gh ⟨tg.t0,tg.t1,tg.t2,tg.t3,fun e1 e2=>.inl ?_⟩ (ih.qm n (by omega) g1 (by omega))
   rcases tg.t4 e1 e2 with h | h
   ·exact ⟨h.1,h.2.1,h.2.2.1,fun h=>by cases h⟩
   ·exfalso
    apply ho
    unfold Pl.off
    rw [decide_eq_true e1,decide_eq_true h.2.1]
    rfl
theorem Hy.comeF (ok:S.Ok c) (h:Hy S (-1) (pst 1 0) (-1) 0):∀ n:Nat,n<=S.G.length->Hy ((Bi n).foldl Pl.come1 S) (-1) (pst 1 n) (-1) 0
 | 0,_=>h
 | n+1,hn=>by
  have ih:=h.comeF ok n (by omega)
  obtain ⟨okT,sm⟩:=ok.comeF (n:=n) (by omega)
  rw [Oz]
  generalize (Bi n).foldl Pl.come1 S=T at *
  have g1:((n:Nat):Int)<(T.G.length:Int):=by rw [sm.g];omega
  have gh:=ih.gh n (by omega) g1 (by omega)
  have tg:=ih.tg n (by omega) g1 (by omega)
  have gs:=okT.gs n (by omega) g1
  rw [Un] at tg
  rw [← Qi]
  unfold Pl.come1
  split
  ·rename_i ho
   unfold Pl.comeA at ho
   simp only [Bool.and_eq_true,decide_eq_true_eq] at ho
   obtain ⟨a1,a2⟩:=gh.s0 ho.1
   refine Hy.on okT (ih.open_ n) (by omega) g1 (okT.free (by omega)) (gs.w2 (by omega)) ⟨gh.ch,?_,?_,gh.hm (by omega)⟩ _
   ·rw [a1,a2];rfl
   ·rw [a1];exact ho.2
  ·rename_i hA
   split
   ·rename_i ho
    unfold Pl.comeB at ho
    simp only [Bool.and_eq_true,decide_eq_true_eq] at ho
    obtain ⟨a1,a2⟩:=gh.s1 ho.1
    refine Hy.stand okT (ih.open_ n) (by omega) g1 (okT.free (by omega)) (gs.w3 (by omega)) (gs.w2 (by omega)) ⟨gh.ch,a1.symm,?_,gh.hm (by omega)⟩ _
    omega
   ·rename_i hB
    refine (ih.open_ n).close gh ⟨fun e=>?_,fun e=>?_,tg.t2,tg.t3,fun e1 e2=>.inl ?_⟩ (ih.qm n (by omega) g1 (by omega))
    ·have h1:=tg.t0 e
     have:(T.gr n).came≠T.now:=fun e'=>hA (by unfold Pl.comeA;rw [decide_eq_true e,decide_eq_true e'];rfl)
     rw [if_neg (by omega)] at h1
     rw [if_pos (by omega)]
     omega
    ·obtain ⟨h1,h2⟩:=tg.t1 e
     have:T.now-(T.gu n).since≠T.walk:=fun e'=>hB (by unfold Pl.comeB;rw [decide_eq_true e,decide_eq_true e'];rfl)
     rw [if_neg (by omega)] at h2
     rw [if_pos (by omega)]
     exact ⟨h1,by omega⟩
    ·rcases tg.t4 e1 e2 with h | h
     ·exact ⟨h.1,h.2.1,h.2.2.1,fun h=>by cases h⟩
     ·exact absurd h.1 (by decide)
theorem Hy.quitF (ok:S.Ok c) (h:Hy S (-1) (pst 2 0) (-1) 0):∀ n:Nat,n<=S.G.length->Hy ((Bi n).foldl Pl.quit1 S) (-1) (pst 2 n) (-1) 0
 | 0,_=>h
 | n+1,hn=>by
  have ih:=h.quitF ok n (by omega)
  obtain ⟨okT,sm⟩:=ok.quitF (n:=n) (by omega)
  rw [Oz]
  generalize (Bi n).foldl Pl.quit1 S=T at *
  have g1:((n:Nat):Int)<(T.G.length:Int):=by rw [sm.g];omega
  have gh:=ih.gh n (by omega) g1 (by omega)
  have tg:=ih.tg n (by omega) g1 (by omega)
  rw [Un] at tg
  rw [← Qi]
  unfold Pl.quit1
  split
  ·rename_i ho
   unfold Pl.quits at ho
   simp only [Bool.and_eq_true,decide_eq_true_eq] at ho
   exact Hy.leave_no okT ih (by omega) g1 ho.1 _
  ·rename_i hA
   refine (ih.open_ n).close gh ⟨tg.t0,tg.t1,fun e=>?_,tg.t3,fun e1 e2=>.inl ?_⟩ (ih.qm n (by omega) g1 (by omega))
   ·obtain ⟨h1,h2⟩:=tg.t2 e
    refine ⟨h1,?_⟩
    have:¬ (T.gr n).patience<T.now-(T.gu n).since:=fun e'=>hA (by unfold Pl.quits;rw [decide_eq_true e,decide_eq_true e'];rfl)
    rw [if_pos (by omega)]
    omega
   ·rcases tg.t4 e1 e2 with h | h
    ·exact ⟨h.1,h.2.1,h.2.2.1,fun h=>by cases h⟩
    ·exact absurd h.1 (by decide)
theorem Hy.endK (ok:S.Ok c) (h:Hy (S.later (S.now-1)) (-1) (fun _=>3) (-1) 0):Hy (S.endK S.B.length) (-1) (pst 0 0) (-1) 0:=by
 have hb:∀ r:Int,0<=r->r<S.B.length->gt (S.endK S.B.length).began r=if S.ends r=true then -1 else gt S.began r:=fun r r0 r1=>by
  show gt ((List.range _).map _) r=_
  rw [Gc r0 (by rw [ok.lb];exact r1)]
  have e:((r.toNat:Nat):Int)=r:=by omega
  rw [e]
  have:r.toNat<S.B.length:=by omega
  simp only [this,true_and]
 have he:∀ r:Int,0<=r->r<S.B.length->gt (S.endK S.B.length).ended r=if S.ends r=true then S.now else gt S.ended r:=fun r r0 r1=>by
  show gt ((List.range _).map _) r=_
  rw [Gc r0 (by rw [ok.le];exact r1)]
  have e:((r.toNat:Nat):Int)=r:=by omega
  rw [e]
  have:r.toNat<S.B.length:=by omega
  simp only [this,true_and]
 have hnw:=ok.nw
 refine ⟨h.gh,fun k k0 k1 k2=>?_,fun i i0 i1=>?_,fun v hv=>?_,h.qm⟩
 ·have t:=h.tg k k0 k1 k2
  have ep:pst 0 0 k=0:=if_neg (by omega)
  rw [ep]
  refine ⟨fun e=>?_,fun e=>?_,fun e=>?_,fun e1 e2=>?_,fun e1 e2=>?_⟩
  ·have:=t.t0 e
   have h1:S.now-1+1<=(S.gr k).came:=this
   show S.now+_<=(S.gr k).came
   rw [if_neg (by omega)]
   omega
  ·obtain ⟨h0,h1⟩:=t.t1 e
   have h1:S.now-1+1<=(S.gu k).since+S.walk:=h1
   refine ⟨h0,?_⟩
   show S.now+_<=(S.gu k).since+S.walk
   rw [if_neg (by omega)]
   omega
  ·obtain ⟨h0,h1⟩:=t.t2 e
   have h0:(S.gu k).since<=S.now-1:=h0
   have h1:S.now-1-(S.gu k).since<=(S.gr k).patience+0:=h1
   refine ⟨?_,?_⟩
   ·show (S.gu k).since<=S.now
    omega
   ·show S.now-(S.gu k).since<=(S.gr k).patience+_
    rw [if_neg (by omega)]
    omega
  ·have e2:gt (S.gr k).wants (S.gu k).want=-1:=e2
   have:=ok.rideOf k0 k1 e1
   omega
  ·have q:=ok.rideOf k0 k1 e1
   have en:=(h.ri _ q.1 q.2).en
   rcases t.t4 e1 (by show gt (S.gr k).wants (S.gu k).want≠-1;omega) with h | h
   ·obtain ⟨h1,h2,h3,_⟩:=h
    have h1:gt S.began (gt (S.gr k).wants (S.gu k).want)=(S.gu k).since:=h1
    have h2:(S.gu k).since<=S.now-1:=h2
    have h3:S.now-1+1<=(S.gu k).since+(bd S.B (gt (S.gr k).wants (S.gu k).want)).cycle:=h3
    have en:gt S.ended (gt (S.gr k).wants (S.gu k).want)<=S.now-1:=en
    have hs:=(ok.gs k k0 k1).s
    show (gt (S.endK S.B.length).began (gt (S.gr k).wants (S.gu k).want)=(S.gu k).since/\(S.gu k).since<=S.now/\S.now+1<=(S.gu k).since+(bd S.B (gt (S.gr k).wants (S.gu k).want)).cycle/\(0=0->gt (S.endK S.B.length).ended (gt (S.gr k).wants (S.gu k).want)≠S.now))∨(0=0/\gt (S.endK S.B.length).ended (gt (S.gr k).wants (S.gu k).want)=S.now/\(S.gu k).since+(bd S.B (gt (S.gr k).wants (S.gu k).want)).cycle=S.now)
    rw [hb _ q.1 q.2,he _ q.1 q.2]
    by_cases hends:S.ends (gt (S.gr k).wants (S.gu k).want)=true
    ·rw [if_pos hends,if_pos hends]
     have hx:=hends
     unfold Pl.ends at hx
     simp only [Bool.and_eq_true,decide_eq_true_eq] at hx
     have hx2:S.now-gt S.began (gt (S.gr k).wants (S.gu k).want)=(bd S.B (gt (S.gr k).wants (S.gu k).want)).cycle:=hx.2
     exact .inr ⟨rfl,rfl,by omega⟩
    ·rw [if_neg hends,if_neg hends]
     have hx2:S.now-gt S.began (gt (S.gr k).wants (S.gu k).want)≠(bd S.B (gt (S.gr k).wants (S.gu k).want)).cycle:=fun e=>hends (by
      unfold Pl.ends
      rw [decide_eq_true (by omega),decide_eq_true (show S.now-gt S.began (gt (S.gr k).wants (S.gu k).want)=(S.bt (gt (S.gr k).wants (S.gu k).want)).cycle from e)]
      rfl)
     exact .inl ⟨h1,by omega,by omega,fun _=>by omega⟩
   ·exact absurd h.1 (by decide)
 ·have q:=h.ri i i0 i1
  have bn:gt S.began i<=S.now-1:=q.bn
  have en:gt S.ended i<=S.now-1:=q.en
  have hbi:=hb i i0 i1
  have hei:=he i i0 i1
  have ni:i≠-1:=by omega
  have qa:0<=gt S.began i->∀ v∈S.visits,v.on=true->v.ride=i->v.left=gt S.began i∨v.left+(bd S.B i).cycle<=gt S.began i:=q.a ni
  have qb:gt S.began i<0->∀ v∈S.visits,v.on=true->v.ride=i->v.left+(bd S.B i).cycle<=S.now-1:=q.b ni
  refine ⟨fun _ h0 v hv e1 e2=>?_,fun _ h0 v hv e1 e2=>?_,fun e=>by omega,?_,?_,q.l,fun e=>by omega,q.w,q.qs,q.f1,q.f2⟩
  ·rw [hbi] at h0 ⊢
   by_cases hends:S.ends i=true
   ·rw [if_pos hends] at h0;omega
   ·rw [if_neg hends] at h0 ⊢
    exact qa h0 v hv e1 e2
  ·show v.left+(bd S.B i).cycle<=S.now
   rw [hbi] at h0
   by_cases hends:S.ends i=true
   ·have hx:=hends
    unfold Pl.ends at hx
    simp only [Bool.and_eq_true,decide_eq_true_eq] at hx
    have hx2:S.now-gt S.began i=(bd S.B i).cycle:=hx.2
    rcases qa hx.1 v hv e1 e2 with h | h<;>omega
   ·rw [if_neg hends] at h0
    have:=qb h0 v hv e1 e2
    omega
  ·rw [hbi]
   show _<=S.now
   split<;>omega
  ·rw [hei]
   show _<=S.now
   split<;>omega
 ·obtain ⟨a1,a2,a3,a4,a5,a6,a7⟩:=h.vi v hv
  have a7:v.left<=S.now-1:=a7
  exact ⟨a1,a2,a3,a4,a5,a6,show v.left<=S.now by omega⟩
theorem Hy.tick (ok:S.Ok c) (h:Hy (S.later (S.now-1)) (-1) (fun _=>3) (-1) 0):Hy S.tick (-1) (fun _=>3) (-1) 0:=by
 have h1:=Hy.endK ok h
 obtain ⟨ok5,sm5⟩:S.end_.Ok c/\S.Sm S.end_:=ok.endF (Nat.le_refl _)
 have h2:Hy S.end_ (-1) (fun _=>1) (-1) 0:=(Hy.offF (ok.endK S.B.length) h1 S.G.length (Nat.le_refl _)).stn (by rw [← Pl.end_eq,sm5.g];exact Nat.le_refl _)
 obtain ⟨ok8,sm8⟩:=ok5.comeF (Nat.le_refl _)
 have h3:Hy S.end_.come (-1) (fun _=>2) (-1) 0:=(Hy.comeF ok5 (h2.st0 (p:=fun _=>1) rfl) S.end_.G.length (Nat.le_refl _)).stn (by rw [sm8.g];exact Nat.le_refl _)
 obtain ⟨ok11,sm11⟩:=Pl.Ok.quitF (S:=S.end_.come) ok8 (Nat.le_refl _)
 have h4:Hy S.rest (-1) (fun _=>3) (-1) 0:=(Hy.quitF (S:=S.end_.come) ok8 (h3.st0 (p:=fun _=>2) rfl) S.end_.come.G.length (Nat.le_refl _)).stn (by rw [sm11.g];exact Nat.le_refl _)
 obtain ⟨okr,smr⟩:=ok.rest
 have h5:=Hy.begins okr h4 S.B.length (by rw [smr.b];exact Nat.le_refl _)
 exact h5.tl _ _
end
section
variable {w:Int} {B:List BthG} {G:List Grp}
theorem YU (hv:Val w B G):Hy ((Pl.init w B G).later (-1)) (-1) (fun _=>3) (-1) 0:=by
 have hz:∀ (n:Nat) (x r:Int),0<=r->r<n->gt (List.replicate n x) r=x:=fun n x r r0 r1=>by
  have:r.toNat<n:=by omega
  unfold gt
  simp [List.getD,this]
 have hq:∀ r:Int,((Pl.init w B G).later (-1)).qu r=[]:=fun r=>by
  show (List.replicate B.length ([]:List Int)).getD r.toNat []=[]
  simp only [List.getD,List.getElem?_replicate]
  split<;>rfl
 have hgu:∀ g:Int,0<=g->g<G.length->((Pl.init w B G).later (-1)).gu g=⟨0,-1,0,(gd G g).tokens⟩:=fun g g0 g1=>by
  have hg:g.toNat<G.length:=by omega
  show (G.map _).getD g.toNat Gs.d=_
  unfold gd
  simp [List.getD,hg]
 refine ⟨fun g g0 g1 _=>?_,fun g g0 g1 _=>?_,fun r r0 r1=>?_,fun v h=>?_,fun g g0 g1 _ e=>?_⟩
 ·rw [hgu g g0 g1]
  refine ⟨Chn.nil,fun _=>⟨rfl,rfl⟩,fun e=>?_,fun e=>?_,fun e=>?_,fun e=>?_,fun _=>hz G.length (-1) g g0 g1⟩
  ·exact absurd (show (0:Int)=1 from e) (by decide)
  ·exact absurd (show (0:Int)=2 from e) (by decide)
  ·exact absurd (show (0:Int)=3 from e) (by decide)
  ·exact absurd (show (0:Int)=4 from e) (by decide)
 ·have hc:=(hv.gr g0 g1).1
  refine ⟨fun _=>?_,?_,?_,?_,?_⟩
  ·show (-1:Int)+1<=(gd G g).came
   omega
  all_goals rw [hgu g g0 g1]
  ·exact fun e=>absurd (show (0:Int)=1 from e) (by decide)
  ·exact fun e=>absurd (show (0:Int)=2 from e) (by decide)
  ·exact fun e=>absurd (show (0:Int)=3 from e) (by decide)
  ·exact fun e=>absurd (show (0:Int)=3 from e) (by decide)
 ·have r1:r<B.length:=r1
  have hs:=(hv.bt r0 r1).1
  have hb:gt ((Pl.init w B G).later (-1)).began r=-1:=hz B.length (-1) r r0 r1
  have he:gt ((Pl.init w B G).later (-1)).ended r=-1:=hz B.length (-1) r r0 r1
  refine ⟨fun _ h0=>?_,fun _ _ v h=>(by cases h),fun _ v h=>(by cases h),?_,?_,fun t=>?_,fun e=>(by omega),fun v h=>(by cases h),?_,fun _ v h=>(by cases h),fun _ v h=>(by cases h)⟩
  ·rw [hb] at h0;omega
  ·rw [hb];exact Int.le_refl (-1)
  ·rw [he];exact Int.le_refl (-1)
  ·show (0:Int)<=(bd B r).seats
   omega
  ·rw [hq];exact List.Pairwise.nil
 ·cases h
 ·rw [hgu g g0 g1] at e
  exact absurd (show (0:Int)=2 from e) (by decide)
theorem Yd (hv:Val w B G):∀ k:Nat,k<=4001->Hy ((Pl.run w B G k).later ((Pl.run w B G k).now-1)) (-1) (fun _=>3) (-1) 0
 | 0,_=>YU hv
 | k+1,hk=>by
  obtain ⟨ok,h2,h3,h4⟩:=RV hv k (by omega)
  have ih:=Yd hv k (by omega)
  have h:=Hy.tick ok ih
  have e:(Pl.run w B G (k+1)).later ((Pl.run w B G (k+1)).now-1)=(Pl.run w B G k).tick:=by
   have sm:=(ok.tick).2
   show ((Pl.run w B G k).tick.later ((k:Int)+1)).later ((k:Int)+1-1)=_
   have e2:(k:Int)+1-1=(Pl.run w B G k).tick.now:=by rw [sm.n,h2];omega
   rw [e2]
   rfl
  rw [e]
  exact h
end
end Go.Proofs.YthhadkggldcolaaGreat
namespace Go.Proofs.YthhadkggldcolaaGreat
open Go.RowKit
theorem V5 {L:List Vis} {j:Nat} (h:j<L.length) {B:List BthG} {c:Int}:Gl B c (L.take (j+1))=Uu B L[j]:=by rw [List.take_succ_eq_append_getElem h,P0]
theorem Chn.step {B:List BthG} {w c:Int} {L:List Vis} (hc:Chn B w c L) {j:Nat} (h:j+1<L.length):L[j+1].came=Uu B L[j]+w:=by
 rw [(hc.c (j+1) h).2,V5 (by omega)]
theorem YB {B:List BthG} {v:Vis} (h:0<=(bd B v.ride).cycle):v.left<=Uu B v:=by
 unfold Uu
 split<;>omega
theorem Chn.mono {B:List BthG} {w c:Int} {L:List Vis} (hc:Chn B w c L) (hw:0<=w) (hcy:∀ v∈L,0<=(bd B v.ride).cycle) (ht:∀ v∈L,v.came<=v.left):∀ j,(hj:j<L.length)->∀ i,(hi:i<L.length)->i<=j->L[i].left<=L[j].left
 | 0,hj,i,hi,hij=>by
  have:i=0:=by omega
  subst this
  exact Int.le_refl _
 | j+1,hj,i,hi,hij=>by
  rcases Nat.lt_or_ge i (j+1) with h | h
  ·have h1:=hc.mono hw hcy ht j (by omega) i hi (by omega)
   have h2:=hc.step hj
   have h3:=ht _ (List.getElem_mem hj)
   have h4:=YB (hcy _ (List.getElem_mem (show j<L.length by omega)))
   omega
  ·have:i=j+1:=by omega
   subst this
   exact Int.le_refl _
theorem Y7 {G:List Grp} {r t:Int} {V V':List Vis} (h:V.Perm V'):ld G V r t=ld G V' r t:=by
 unfold ld
 induction h with
 | nil=>rfl
 | cons _ _ ih=>simp only [List.map_cons,B7,ih]
 | swap _ _ _=>simp only [List.map_cons,B7];omega
 | trans _ _ h1 h2=>exact h1.trans h2
structure Dn (w:Int) (B:List BthG) (G:List Grp) (V:List Vis) (hm:List Int):Prop where
 len:V.length<=2200000
 vi:∀ v∈V,(0<=v.1/\v.1<G.length)/\(0<=v.want/\v.want<(gd G v.1).wants.length)/\v.ride=gt (gd G v.1).wants v.want/\v.came<=v.left/\(v.on=true->v.left-v.came<=(gd G v.1).patience)/\v.left-v.came<=(gd G v.1).patience+1/\v.left<=5000/\0<=v.left
 ld:∀ r:Int,0<=r->r<B.length->∀ t,ld G V r t<=(bd B r).seats
 bo:∀ r:Int,0<=r->r<B.length->∀ v∈V,∀ u∈V,v.on=true->v.ride=r->u.on=true->u.ride=r->u.left<=v.left->v.left<u.left+(bd B r).cycle->u.left=v.left
 f:∀ r:Int,0<=r->r<B.length->(bd B r).fill=false->∀ v∈V,v.on=true->v.ride=r->∀ u∈V,u.ride=r->u.came<v.came->u.left<=v.left
 adj:∀ v∈V,∀ u∈V,u.1=v.1->u.want=v.want+1->u.came=Uu B v+w
 ch:∀ g:Int,0<=g->g<G.length->Chn B w (gd G g).came (hv V g)/\(0<=gt hm g->(hv V g).length=(gd G g).wants.length/\gt hm g=Gl B (gd G g).came (hv V g))
 hl:hm.length=G.length
section
variable {σ:Hp} {w:Int} {r l:SL} {B:List BthG} {ws:Nat->SL} {G:List Grp}
theorem Hy.done {S:Pl} {c:Nat} {t:Int} (h:Hy (S.later t) (-1) (fun _=>3) (-1) 0) (ok:S.Ok c) (hc:c<=2200000) (ht:t<=5000) (ew:S.walk=w) (eB:S.B=B) (eG:S.G=G) (hvo:UK S.visits):Dn w B G (LI S.visits) S.homes:=by
 subst ew eB eG
 have hp:(LI S.visits).Perm S.visits:=B4 vle S.visits
 have hm:∀ v:Vis,v∈LI S.visits->v∈S.visits:=fun v hv=>hp.mem_iff.1 hv
 have hvi:∀ v∈S.visits,(0<=v.1/\v.1<S.G.length)/\(0<=v.want/\v.want<(gd S.G v.1).wants.length)/\v.ride=gt (gd S.G v.1).wants v.want/\v.came<=v.left/\(v.on=true->v.left-v.came<=(gd S.G v.1).patience)/\v.left-v.came<=(gd S.G v.1).patience+1/\v.left<=5000/\0<=v.left:=fun v hv=>by
  have q:=h.vi v hv
  have n:v.left<=t:=q.n
  exact ⟨q.g,q.w,q.r,q.t,q.o,q.p,by omega,(hvo.b v hv).1.1⟩
 have hride:∀ v∈S.visits,0<=v.ride/\v.ride<S.B.length:=fun v hv=>by
  obtain ⟨_,a2,a3,_⟩:=hvi v hv
  rw [a3]
  exact ok.v.want a2.1 a2.2
 have hch:∀ g:Int,0<=g->g<S.G.length->hv (LI S.visits) g=hv S.visits g:=fun g g0 g1=>by
  have hgh:Chn S.B S.walk (gd S.G g).came (hv S.visits g):=(h.gh g g0 g1 (by omega)).ch
  refine Ew (R:=fun a b=>vle a b=true) (hp.filter _) ((Eg Q3 QW S.visits).filter _) ?_ fun a ha b hb h1 h2=>?_
  ·rw [List.pairwise_iff_getElem]
   intro i j hi hj hij
   have hmono:=hgh.mono ok.v.w.1 (fun v hv=>by have:=hride v (List.mem_filter.1 hv).1;have:=(ok.v.bt this.1 this.2).2.2.1;show 0<=(bd S.B v.ride).cycle;omega) (fun v hv=>(hvi v (List.mem_filter.1 hv).1).2.2.2.1) j hj i hi (by omega)
   have w1:=(hgh.c i hi).1
   have w2:=(hgh.c j hj).1
   have e1:((hv S.visits g)[i]).1=g:=by have:=(List.mem_filter.1 (List.getElem_mem hi)).2;simpa using this
   have e2:((hv S.visits g)[j]).1=g:=by have:=(List.mem_filter.1 (List.getElem_mem hj)).2;simpa using this
   rw [K2]
   unfold Vis.want at w1 w2
   rw [e1,e2]
   omega
  ·rw [K2] at h1 h2
   exact hvo.u a (hp.mem_iff.1 (List.mem_filter.1 ha).1) b (hp.mem_iff.1 (List.mem_filter.1 hb).1) (by omega) (by omega)
 refine ⟨?_,fun v hv=>hvi v (hm v hv),fun r r0 r1 t=>?_,fun r r0 r1 v hv u hu=>(h.ri r r0 r1).w v (hm v hv) u (hm u hu),fun r r0 r1 hf v hv e1 e2 u hu=>(h.ri r r0 r1).f2 hf v (hm v hv) e1 e2 u (hm u hu),fun v hvm u hu e1 e2=>?_,fun g g0 g1=>?_,ok.lh⟩
 ·rw [hp.length_eq];exact Nat.le_trans ok.vl hc
 ·rw [Y7 hp];exact (h.ri r r0 r1).l t
 ·have a1:=(hvi v (hm v hvm)).1
  have hgh:Chn S.B S.walk (gd S.G v.1).came (hv S.visits v.1):=(h.gh v.1 a1.1 a1.2 (by omega)).ch
  have m1:v∈hv S.visits v.1:=List.mem_filter.2 ⟨hm v hvm,by simp⟩
  have m2:u∈hv S.visits v.1:=List.mem_filter.2 ⟨hm u hu,by simpa using e1⟩
  obtain ⟨i,hi,ei⟩:=List.getElem_of_mem m1
  obtain ⟨j,hj,ej⟩:=List.getElem_of_mem m2
  have w1:=(hgh.c i hi).1
  have w2:=(hgh.c j hj).1
  rw [ei] at w1
  rw [ej] at w2
  have:j=i+1:=by omega
  subst this
  have:=hgh.step hj
  rw [ei,ej] at this
  exact this
 ·rw [hch g g0 g1]
  have q:=h.gh g g0 g1 (by omega)
  refine ⟨q.ch,fun h0=>?_⟩
  by_cases e:(S.gu g).st=4
  ·exact q.s4 e
  ·have:gt S.homes g=-1:=q.hm e
   omega
theorem Sv (hv:Val w B G):Dn w B G (Ngt.played w B G).visits ((Ngt.played w B G).parties.map Pty.home):=by
 obtain ⟨ok,e1,e2,e3⟩:=RV hv 4001 (Nat.le_refl _)
 have h:=Yd hv 4001 (Nat.le_refl _)
 obtain ⟨s1,_,_,_,s5⟩:=Xh hv
 have hvo:=Vi hv
 have ew:(Pl.run w B G 4001).walk=w:=by
  obtain ⟨pl,hr,_⟩:=LN hv 4001 (Nat.le_refl _)
  exact hr.sw
 rw [LE,← s1]
 rw [← s5] at hvo ⊢
 generalize Pl.run w B G 4001=S at *
 exact Hy.done h ok (by omega) (by omega) ew e2 e3 hvo
end
end Go.Proofs.YthhadkggldcolaaGreat
namespace Go.Proofs.YthhadkggldcolaaGreat
open Go.RowKit
def Lt (l:List Int) (k:Nat):Nat:=(l.take k).foldl (fun m r=>Mw m r.toNat) 0
theorem VD {l:List Int} {k:Nat} (h:k<l.length):Lt l (k+1)=Mw (Lt l k) l[k].toNat:=by
 unfold Lt
 rw [List.take_succ_eq_append_getElem h,List.foldl_append]
 rfl
theorem UT {n:Nat}:∀ (l:List Int) (m:Nat),m<2^n->(∀ r∈l,r.toNat<n)->l.foldl (fun m r=>Mw m r.toNat) m<2^n
 | [],_,h,_=>h
 | x::l,m,h,hl=>by
  rw [List.foldl_cons]
  exact UT l _ (Ru h (hl x (by simp))) fun r hr=>hl r (by simp [hr])
theorem SU:∀ (l:List Int) (m j:Nat),(m.testBit j=true∨∃ r∈l,r.toNat=j)->(l.foldl (fun m r=>Mw m r.toNat) m).testBit j=true
 | [],m,j,h=>by
  rcases h with h | ⟨r,hr,_⟩
  ·exact h
  ·simp at hr
 | x::l,m,j,h=>by
  rw [List.foldl_cons]
  refine SU l _ j ?_
  rcases h with h | ⟨r,hr,rfl⟩
  ·left;rw [Tk,h];rfl
  ·rcases List.mem_cons.1 hr with rfl | hr
   ·left;rw [Tk];simp
   ·exact .inr ⟨r,hr,rfl⟩
theorem Vg {S:Sup}:∀ (l:List Int) (s:Nat×List Int),∃ l',(l.foldl (opF S) s).2=s.2++l'/\(l.foldl (opF S) s).1=l'.foldl (fun m r=>Mw m r.toNat) s.1/\(l'=[]∨(S.fits (((l.foldl (opF S) s).1:Nat):Int)).2.1=true)
 | [],s=>⟨[],by simp,rfl,.inl rfl⟩
 | x::l,s=>by
  rw [List.foldl_cons]
  obtain ⟨l',h1,h2,h3⟩:=Vg l (opF S s x)
  generalize hF:(l.foldl (opF S) (opF S s x))=F at *
  unfold opF at h1 h2
  cases e:(S.fits ((Mw s.1 x.toNat:Nat):Int)).2.1 with
  | true=>
   rw [e,if_pos rfl] at h1 h2
   refine ⟨x::l',by rw [h1];simp,by rw [h2];rfl,.inr ?_⟩
   rcases h3 with h3 | h3
   ·subst h3
    rw [h2]
    exact e
   ·exact h3
  | false=>
   rw [e,if_neg (by decide)] at h1 h2
   exact ⟨l',h1,h2,h3⟩
theorem Gal.open_set (g:Gal):(g.opS g.rel.length).1=Lt g.open g.open.length/\(g.open=[]∨(g.S.fits ((Lt g.open g.open.length:Nat):Int)).2.1=true):=by
 obtain ⟨l',h1,h2,h3⟩:=Vg (S:=g.S) (g.rel.take g.rel.length) (0,[])
 have e1:g.open=l':=by
  have:g.open=[]++l':=h1
  rw [this,List.nil_append]
 have e2:(g.opS g.rel.length).1=Lt g.open g.open.length:=by
  unfold Lt
  rw [List.take_length,e1]
  exact h2
 refine ⟨e2,?_⟩
 rw [e1]
 rcases h3 with h3 | h3
 ·exact .inl h3
 ·right
  have e3:((List.take g.rel.length g.rel).foldl (opF g.S) (0,[])).1=Lt l' l'.length:=by
   rw [← e1,← e2]
   rfl
  rw [e3] at h3
  exact h3
theorem Ci.setK_lt {g:Gal} (h:Ci g) (k:Nat):Lt g.open k<2^g.S.L.length:=UT _ 0 (Nat.pow_pos (by omega)) fun r hr=>by
 have:=h.open_in (List.mem_of_mem_take hr)
 rw [h.nL];omega
theorem Ci.set_bit {g:Gal} {r:Int} (hr:r∈g.open):(Lt g.open g.open.length).testBit r.toNat=true:=by
 unfold Lt
 rw [List.take_length]
 exact SU _ _ _ (.inr ⟨r,hr,rfl⟩)
theorem Gal.chkG_0 {g:Gal} {G:List Grp} (h:g.chkG G=0):g.chk=0:=by
 unfold Gal.chkG at h
 split at h
 ·assumption
 ·exact h
theorem Y8 {op ws:List Int} {j:Int} (h0:0<=j) (h1:j<(wis op ws).length):gt (JF op ws) j=gt ws (gt (wis op ws) j)/\gt (wis op ws) j∈wis op ws:=by
 obtain ⟨k,rfl⟩:=Int.eq_ofNat_of_zero_le h0
 have hk:k<(wis op ws).length:=by omega
 have hk':k<(JF op ws).length:=by rw [Kl];exact hk
 rw [CD hk',To hk' hk,CD hk]
 exact ⟨rfl,List.getElem_mem hk⟩
theorem Aas {G:List Grp} {i:Int} (h0:0<=i) (h1:i<G.length):gd G i=G[i.toNat]'(by omega):=by
 unfold gd
 simp [List.getD,show i.toNat<G.length by omega]
theorem ZU {g:Gal} {G:List Grp} {i:Int} (h0:0<=i) (h1:i<G.length):(gd (g.red G) i).wants=JF g.open (wn G i):=by
 rw [Aas h0 (by rw [Gal.red_len];exact h1),Tb h0 h1]
 have:(g.red G)[i.toNat]'(by rw [Gal.red_len];omega)=Ux g.open (G[i.toNat]'(by omega)):=List.getElem_map ..
 rw [this]
 rfl
theorem Xu {g:Gal} {G:List Grp} (h:g.chkG G=0):∀ x∈g.plays G,(0<=x.1/\x.1<G.length)/\(0<=x.2.1/\x.2.1<(wn G x.1).length)/\gt (wn G x.1) x.2.1=x.2.2.1/\x.2.2.1∈g.open:=by
 intro x hx
 have e:g.plays G=g.vis G:=if_pos h
 rw [e] at hx
 obtain ⟨hg,hq⟩:=Gal.chkG_ok h
 unfold Gal.vis at hx
 obtain ⟨v,hv,rfl⟩:=List.mem_map.1 hx
 obtain ⟨⟨a1,a2⟩,⟨b1,b2⟩,b3,_⟩:=(Sv (CT (Gal.red_chk hq))).vi v hv
 rw [Gal.red_len] at a2
 rw [ZU a1 a2] at b2 b3
 rw [Kl] at b2
 obtain ⟨c1,c2⟩:=Y8 b1 b2
 obtain ⟨d1,d2,d3⟩:=Xd c2
 have b3:v.2.2.1=gt (JF g.open (wn G v.1)) v.2.1:=b3
 have c1:gt (JF g.open (wn G v.1)) v.2.1=gt (wn G v.1) (gt (wis g.open (wn G v.1)) v.2.1):=c1
 refine ⟨⟨a1,a2⟩,⟨d1,d2⟩,?_,?_⟩
 ·show gt (wn G v.1) (gt (wis g.open (wn G v.1)) v.2.1)=v.2.2.1
  rw [b3,c1]
 ·show v.2.2.1∈g.open
  rw [b3,c1]
  exact d3
theorem Ci.all_open {g:Gal} (h:Ci g) (ha:¬ g.open.length<g.B.length) {r:Int} (h0:0<=r) (h1:r<g.B.length):r∈g.open:=by
 have e:=congrArg List.length (QF (n:=g.B.length) h.open_sorted fun x hx=>h.open_in hx)
 rw [List.length_map] at e
 have hl:=List.length_filter_le (fun i:Nat=>decide ((i:Int)∈g.open)) (List.range g.B.length)
 have e2:((List.range g.B.length).filter fun i:Nat=>decide ((i:Int)∈g.open)).length=(List.range g.B.length).length:=by
  rw [List.length_range] at hl ⊢
  omega
 have:=List.length_filter_eq_length_iff.1 e2 r.toNat (List.mem_range.2 (by omega))
 have e3:((r.toNat:Nat):Int)=r:=by omega
 rw [e3] at this
 exact of_decide_eq_true this
theorem Vh {op ws:List Int} (h:∀ x∈ws,x∈op):wis op ws=(List.range ws.length).map fun i:Nat=>(i:Int):=by
 unfold wis L7
 rw [List.filter_eq_self.2]
 intro i hi
 rw [List.mem_range] at hi
 exact decide_eq_true (h _ (ZZ hi))
theorem Wz {op ws:List Int} (h:∀ x∈ws,x∈op):JF op ws=ws:=by
 unfold JF
 rw [Vh h]
 apply List.ext_getElem
 ·simp
 ·intro i h1 h2
  simp only [List.getElem_map,List.getElem_range]
  exact CD h2
theorem VL {g:Gal} {G:List Grp} (h:g.chkG G=0) (ha:¬ g.open.length<g.B.length):g.plays G=(Ngt.played g.w g.B G).visits:=by
 obtain ⟨hg,hq⟩:=Gal.chkG_ok h
 have hv:=CT hq
 have hin:∀ y∈G,∀ x∈y.wants,x∈g.open:=fun y hy x hx=>by
  have:=(hv.g y hy).2.2.2.2.2 x hx
  exact hg.all_open ha this.1 this.2
 have er:g.red G=G:=by
  unfold Gal.red
  have:∀ y∈G,Ux g.open y=y:=fun y hy=>by
   unfold Ux
   rw [Wz (hin y hy)]
  exact (List.map_congr_left this).trans (List.map_id _)
 have e:g.plays G=g.vis G:=if_pos h
 rw [e]
 unfold Gal.vis
 rw [er]
 obtain ⟨_,hvi⟩:=UC hv
 have ht:∀ v∈(Ngt.played g.w g.B G).visits,g.tell G v=v:=fun v hm=>by
  obtain ⟨a1,a2,a3,a4⟩:=hvi v hm
  unfold Gal.tell
  have hw:∀ x∈wn G v.1,x∈g.open:=by
   rw [Tb a1 a2]
   exact hin _ (List.getElem_mem _)
  rw [Vh hw]
  obtain ⟨k,hk⟩:=Int.eq_ofNat_of_zero_le a3
  rw [hk,CD (by simp;omega)]
  simp only [List.getElem_map,List.getElem_range]
  rw [← hk]
 exact (List.map_congr_left ht).trans (List.map_id _)
section
variable {σ:Hp} {w:BkW} {E:SL} {b:Bok} {es:List Ent}
theorem Wd (h:LgR σ w E b es) {ride day:Int} (hd:b.dayE es day=0) (hr:0<=ride/\ride<b.I.length):Ae Tryz.prog M4 #[w.v,E.v,.int .i64 ride,.int .i64 day] σ fun v σ'=>Hp.Sub σ σ'/\∃ E':SL,v=.tuple #[lgV w E',.int .i64 0]/\LgR σ' w E' b (Bok.upE es day):=by
 refine KC _ _ _ _ _ _ _ _ _ _ _ _ _ _ _ _ ?_
 unfold Em
 refine AS Eh (Si h) ?_
 rintro v σ2 ⟨hs,w',E',rfl,hh⟩
 obtain ⟨rfl,hl⟩:=hh hd
 obtain ⟨hc,_⟩:=Bok.dayE0 hd
 obtain ⟨hb,_⟩:=Bok.chk_ok hc
 rw [hd]
 refine ⟨_,_,_,_,_,_,_,_,_,_,_,_,_,rfl,Ag fun J10 h10=>Ag fun J17 h17=>AD (fun _=>?_) (fun e=>absurd rfl e)⟩
 refine clB Dh (X7 hl hb) ?_
 have:b.rid ride=true:=decide_eq_true (by omega)
 rw [this,h17]
 intro _
 refine W6 ?_
 rw [h10]
 intro _
 exact Ak ⟨hs,E',rfl,hl⟩
theorem Zr (h:LgR σ w E b es) {ride day:Int} (hd:b.dayE es day=0) (hr:ride∈b.relD es day):Ae Tryz.prog QJ #[w.v,E.v,.int .i64 ride,.int .i64 day] σ fun v σ'=>∃ (A:Option Addr) (c:Nat),v=.tuple #[.slice A 0 c,.int .i64 0]/\Hp.Sub σ σ':=by
 obtain ⟨hc,_⟩:=Bok.dayE0 hd
 obtain ⟨hb,_⟩:=Bok.chk_ok hc
 have he:O5 (Bok.upE es day):=(Bok.chk_es hc).take _
 have e2:b.relD es day=b.rel (Bok.upE es day) day:=if_pos hd
 rw [e2] at hr
 unfold Bok.rel at hr
 rw [List.mem_map] at hr
 obtain ⟨i,hi,rfl⟩:=hr
 rw [List.mem_filter,List.mem_range] at hi
 obtain ⟨hi,hw⟩:=hi
 have hw:=of_decide_eq_true hw
 have hr:(0:Int)<=(i:Nat)/\((i:Nat):Int)<b.I.length:=by omega
 refine NR _ _ _ _ _ _ _ _ _ _ _ _ _ _ _ _ ?_
 unfold HA
 refine AS HO (Wd h hd hr) ?_
 rintro v σ2 ⟨hs,E',rfl,hl⟩
 refine ⟨_,_,_,_,_,_,_,_,_,_,_,_,_,rfl,BA (fun e=>absurd rfl e) (fun _=>?_)⟩
 refine AS DU (Zh hl hb he hr) ?_
 rintro v σ9 ⟨A,n,c,rfl,ho⟩
 have hn:n=(b.why (Bok.upE es day) (i:Nat) day).length:=ho.len
 rw [hw] at hn
 subst hn
 exact ⟨_,_,_,rfl,Ak ⟨A,c,rfl,hs.trans ho.sub⟩⟩
end
end Go.Proofs.YthhadkggldcolaaGreat
