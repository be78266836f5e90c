/- What this claim rests on. -/
import Derived.Test.YtoelhdjloaknbaaGreatUB16
namespace Go.Proofs.YtoelhdjloaknbaaGreat
open Go.RowKit Go.Proofs.Tryz
structure PW where
 pb:Nat
 f:SL
 l:SL
 gu:SL
 q:SL
 be:SL
 en:SL
 ta:SL
 li:SL
 ho:SL
section
variable {W:PW} {σ0 σ:Hp} {S:Pl}
end
structure Abc (q:Grp) (x:Gs):Prop where
 w0:-1<=x.want
 w1:x.want<=q.wants.length
 w2:x.st≠4->x.want<q.wants.length
 w3:x.st≠0->0<=x.want
 s:0<=x.since/\x.since<=5000
 t:0<=x.tokens/\x.tokens<=10000
structure Pl.Ok (S:Pl) (c:Nat):Prop where
 v:Val S.walk S.B S.G
 lg:S.guests.length=S.G.length
 lh:S.homes.length=S.G.length
 lq:S.queues.length=S.B.length
 lb:S.began.length=S.B.length
 le:S.ended.length=S.B.length
 lt:S.takes.length=S.B.length
 ll:S.lines.length=S.B.length
 nw:0<=S.now/\S.now<=5000
 gs:∀ g:Int,0<=g->g<S.G.length->Abc (S.gr g) (S.gu g)
 qn:∀ r:Int,0<=r->r<S.B.length->(S.qu r).Nodup
 qs:∀ r:Int,0<=r->r<S.B.length->∀ g∈S.qu r,0<=g/\g<S.G.length/\(S.gu g).st=2/\gt (S.gr g).wants (S.gu g).want=r
 vl:S.visits.length<=c
 tk:∀ r:Int,0<=r->r<S.B.length->0<=gt S.takes r/\gt S.takes r<=4000*c
 be:∀ r:Int,0<=r->r<S.B.length->-1<=gt S.began r/\gt S.began r<=5000
 en:∀ r:Int,0<=r->r<S.B.length->-1<=gt S.ended r/\gt S.ended r<=5000
def Pl.free (S:Pl) (g:Int):Prop:=∀ r:Int,0<=r->r<S.B.length->g ∉ S.qu r
theorem Val.bt {w:Int} {B:List BthG} {G:List Grp} (h:Val w B G) {r:Int} (r0:0<=r) (r1:r<B.length):(1<=(bd B r).seats/\(bd B r).seats<=40)/\(0<=(bd B r).price/\(bd B r).price<=100)/\(1<=(bd B r).cycle/\(bd B r).cycle<=100)/\(0<=(bd B r).pause/\(bd B r).pause<=100):=by
 have hr:r.toNat<B.length:=by omega
 have e:bd B r=B[r.toNat]:=by unfold bd;simp [List.getD,hr]
 rw [e]
 exact h.b _ (List.getElem_mem hr)
theorem Val.gr {w:Int} {B:List BthG} {G:List Grp} (h:Val w B G) {g:Int} (r0:0<=g) (r1:g<G.length):(0<=(gd G g).came/\(gd G g).came<=2000)/\(1<=(gd G g).size/\(gd G g).size<=40)/\(0<=(gd G g).tokens/\(gd G g).tokens<=10000)/\(gd G g).wants.length<=10/\(0<=(gd G g).patience/\(gd G g).patience<=2000):=by
 have hr:g.toNat<G.length:=by omega
 have e:gd G g=G[g.toNat]:=by unfold gd;simp [List.getD,hr]
 rw [e]
 obtain ⟨a,b,c,d,e,_⟩:=h.g _ (List.getElem_mem hr)
 exact ⟨a,b,c,d,e⟩
section
variable {S:Pl} {c:Nat} {g:Int}
theorem Pl.Ok.mono {c':Nat} (h:S.Ok c) (hc:c<=c'):S.Ok c':={ h with vl:=Nat.le_trans h.vl hc,tk:=fun r r0 r1=>by have:=h.tk r r0 r1;omega }
theorem Pl.Ok.want (h:S.Ok c) (hw:0<=(S.gu g).want) (hw1:(S.gu g).want<(S.gr g).wants.length):0<=gt (S.gr g).wants (S.gu g).want/\gt (S.gr g).wants (S.gu g).want<S.B.length:=h.v.want hw hw1
theorem Pl.Ok.qlen (h:S.Ok c) {r:Int} (r0:0<=r) (r1:r<S.B.length):(S.qu r).length<=60:=
 Nat.le_trans (Cr S.G.length _ (h.qn r r0 r1) fun x hx=>by have:=h.qs r r0 r1 x hx;omega) h.v.n
theorem Pl.Ok.free (h:S.Ok c) (hs:(S.gu g).st≠2):S.free g:=fun r r0 r1 hm=>hs (h.qs r r0 r1 g hm).2.2.1
theorem Pl.Ok.setG (h:S.Ok c) (g0:0<=g) (g1:g<S.G.length) (hf:S.free g) {x:Gs} (hx:Abc (S.gr g) x):(S.setG g x).Ok c:=by
 have hgl:g.toNat<S.guests.length:=by rw [h.lg];omega
 refine { h with lg:=?_,gs:=fun k k0 k1=>?_,qs:=fun r r0 r1 k hk=>?_ }
 ·show (S.guests.set _ _).length=_
  rw [List.length_set];exact h.lg
 ·rw [Pl.gu_setG hgl]
  split
  ·rename_i e
   rw [Bb k0 g0] at e
   subst e
   exact hx
  ·exact h.gs k k0 k1
 ·have hk:k∈S.qu r:=hk
  obtain ⟨a,b,d⟩:=h.qs r r0 r1 k hk
  refine ⟨a,b,?_⟩
  rw [Pl.gu_setG hgl,if_neg fun e=>hf r r0 r1 (by rw [Bb a g0] at e;rw [← e];exact hk)]
  exact d
theorem Pl.qu_setQ (S:Pl) {r i:Int} {q:List Int} (hr:r.toNat<S.queues.length):(S.setQ r q).qu i=if i.toNat=r.toNat then q else S.qu i:=BF hr
theorem Pl.Ok.setQ (h:S.Ok c) {r:Int} (r0:0<=r) (r1:r<S.B.length) {q:List Int} (hn:q.Nodup) (hq:∀ g∈q,0<=g/\g<S.G.length/\(S.gu g).st=2/\gt (S.gr g).wants (S.gu g).want=r):(S.setQ r q).Ok c:=by
 have hrl:r.toNat<S.queues.length:=by rw [h.lq];omega
 refine { h with lq:=?_,qn:=fun i i0 i1=>?_,qs:=fun i i0 i1=>?_ }
 ·show (S.queues.set _ _).length=_
  rw [List.length_set];exact h.lq
 ·rw [Pl.qu_setQ S hrl]
  split
  ·exact hn
  ·exact h.qn i i0 i1
 ·rw [Pl.qu_setQ S hrl]
  split
  ·rename_i e
   rw [Bb i0 r0] at e
   subst e
   exact hq
  ·exact h.qs i i0 i1
theorem Pl.Ok.setH (h:S.Ok c) (t:Int):(S.setH g t).Ok c:={ h with lh:=by show (S.homes.set _ _).length=_;rw [List.length_set];exact h.lh }
theorem Pl.Ok.addV (h:S.Ok c) (x:Vis):(S.addV x).Ok (c+1):={ h with vl:=by show (S.visits++[x]).length<=_;rw [List.length_append];have:=h.vl;exact Nat.add_le_add this (Nat.le_refl 1),tk:=fun r r0 r1=>by have:=h.tk r r0 r1;show 0<=gt S.takes r/\gt S.takes r<=_;omega }
theorem Pl.Ok.stand (h:S.Ok c) (g0:0<=g) (g1:g<S.G.length) (hf:S.free g) (hw:0<=(S.gu g).want) (hw1:(S.gu g).want<(S.gr g).wants.length):(S.stand g).Ok c:=by
 obtain ⟨q0,q1⟩:=h.want hw hw1
 have hg:=h.gs g g0 g1
 have hgl:g.toNat<S.guests.length:=by rw [h.lg];omega
 have h1:=h.setG g0 g1 hf (x:={ S.gu g with st:=2,since:=S.now }) ⟨hg.w0,hg.w1,fun _=>hw1,fun _=>hw,h.nw,hg.t⟩
 refine h1.setQ q0 q1 ?_ ?_
 ·rw [List.nodup_append]
  refine ⟨h.qn _ q0 q1,by simp,fun a ha b hb=>?_⟩
  rw [List.mem_singleton] at hb
  subst hb
  intro e
  subst e
  exact hf _ q0 q1 ha
 ·intro k hk
  rcases List.mem_append.1 hk with hk | hk
  ·exact h1.qs _ q0 q1 k hk
  ·rw [List.mem_singleton] at hk
   subst hk
   rw [Pl.gu_setG hgl,if_pos rfl]
   exact ⟨g0,g1,rfl,rfl⟩
theorem Pl.Ok.on1 (h:S.Ok c) (g0:0<=g) (g1:g<S.G.length) (hf:S.free g) (_hw1:(S.gu g).want<(S.gr g).wants.length) (hw:¬ ((S.gr g).wants.length:Int)<=(S.gu g).want+1):(S.setG g { S.gu g with want:=(S.gu g).want+1,since:=S.now,st:=1 }).Ok c:=by
 have hg:=h.gs g g0 g1
 have:=hg.w0
 exact h.setG g0 g1 hf ⟨by show _<=(S.gu g).want+1;omega,by show (S.gu g).want+1<=_;omega,fun _=>by show (S.gu g).want+1<_;omega,fun _=>by show 0<=(S.gu g).want+1;omega,h.nw,hg.t⟩
theorem Pl.Ok.on (h:S.Ok c) (g0:0<=g) (g1:g<S.G.length) (hf:S.free g) (hw1:(S.gu g).want<(S.gr g).wants.length):(S.on g).Ok c:=by
 have hg:=h.gs g g0 g1
 have hgl:g.toNat<S.guests.length:=by rw [h.lg];omega
 have:=hg.w0
 unfold Pl.on
 split
 ·exact (h.setG g0 g1 hf (x:={ S.gu g with want:=(S.gu g).want+1,since:=S.now,st:=4 }) ⟨by show _<=(S.gu g).want+1;omega,by show (S.gu g).want+1<=_;omega,fun e=>absurd rfl e,fun _=>by show 0<=(S.gu g).want+1;omega,h.nw,hg.t⟩).setH _
 ·rename_i hw
  have h1:=h.on1 g0 g1 hf hw1 hw
  split
  ·refine h1.stand g0 g1 hf ?_ ?_
   ·rw [Pl.gu_setG hgl,if_pos rfl];show 0<=(S.gu g).want+1;omega
   ·rw [Pl.gu_setG hgl,if_pos rfl];show (S.gu g).want+1<((S.gr g).wants.length:Int);omega
  ·exact h1
theorem Pl.Ok.unq (h:S.Ok c) (g0:0<=g) (g1:g<S.G.length) (hs:(S.gu g).st=2) (b:Bool):(S.unq g b).Ok (c+1)/\(S.unq g b).free g:=by
 have hg:=h.gs g g0 g1
 have hw:=hg.w3 (by omega)
 have hw1:=hg.w2 (by omega)
 obtain ⟨q0,q1⟩:=h.want hw hw1
 have hrl:(gt (S.gr g).wants (S.gu g).want).toNat<S.queues.length:=by rw [h.lq];omega
 refine ⟨(h.setQ q0 q1 ((h.qn _ q0 q1).filter _) fun k hk=>h.qs _ q0 q1 k (List.mem_filter.1 hk).1).addV _,?_⟩
 intro r r0 r1 hm
 have hm:g∈(S.setQ (gt (S.gr g).wants (S.gu g).want) ((S.qu (gt (S.gr g).wants (S.gu g).want)).filter fun k=>decide (k≠g))).qu r:=hm
 rw [Pl.qu_setQ S hrl] at hm
 split at hm
 ·have:=(List.mem_filter.1 hm).2
  simp at this
 ·rename_i e
  exact e (by rw [(h.qs r r0 r1 g hm).2.2.2])
theorem Pl.Ok.price (h:S.Ok c) (g0:0<=g) (g1:g<S.G.length) {r:Int} (q0:0<=r) (q1:r<S.B.length):0<=(S.bt r).price*(S.gr g).size/\(S.bt r).price*(S.gr g).size<=4000:=by
 obtain ⟨_,⟨p0,p1⟩,_⟩:=h.v.bt q0 q1
 obtain ⟨_,⟨s0,s1⟩,_⟩:=h.v.gr g0 g1
 refine ⟨Int.mul_nonneg p0 (by show 0<=(gd S.G g).size;omega),?_⟩
 exact Int.le_trans (Int.mul_le_mul p1 s1 (by show 0<=(gd S.G g).size;omega) (by omega)) (by omega)
theorem Pl.Ok.setT (h:S.Ok c) {r t:Int} (r0:0<=r) (r1:r<S.B.length) (h0:0<=t) (h1:t<=4000*c):(S.setT r t).Ok c:=by
 refine { h with lt:=?_,tk:=fun i i0 i1=>?_ }
 ·show (S.takes.set _ _).length=_
  rw [List.length_set];exact h.lt
 ·have hrl:r.toNat<S.takes.length:=by rw [h.lt];omega
  show 0<=gt (S.takes.set r.toNat t) i/\gt (S.takes.set r.toNat t) i<=_
  have e:gt (S.takes.set r.toNat t) i=if i.toNat=r.toNat then t else gt S.takes i:=by unfold gt;exact BF hrl
  rw [e]
  split
  ·exact ⟨h0,h1⟩
  ·exact h.tk i i0 i1
theorem Pl.Ok.leave (h:S.Ok c) (g0:0<=g) (g1:g<S.G.length) (hs:(S.gu g).st=2) {on:Bool} (hp:on=true->S.price g<=(S.gu g).tokens):(S.leave g on).Ok (c+1):=by
 have hg:=h.gs g g0 g1
 have hw:=hg.w3 (by omega)
 have hw1:=hg.w2 (by omega)
 obtain ⟨q0,q1⟩:=h.want hw hw1
 obtain ⟨u1,u2⟩:=h.unq g0 g1 hs on
 obtain ⟨p0,p1⟩:=h.price g0 g1 q0 q1
 have ht:=h.tk _ q0 q1
 unfold Pl.leave
 split
 ·rename_i e
  subst e
  refine (u1.setG g0 g1 u2 (x:={ S.gu g with st:=3,since:=S.now,tokens:=(S.gu g).tokens-S.price g }) ⟨hg.w0,hg.w1,fun _=>hw1,fun _=>hw,h.nw,?_⟩).setT q0 q1 ?_ ?_
  ·have:=hp rfl
   have:=hg.t
   show 0<=(S.gu g).tokens-S.price g/\(S.gu g).tokens-S.price g<=_
   unfold Pl.price at *
   omega
  ·show 0<=gt S.takes _+(S.bt _).price*_
   omega
  ·show gt S.takes _+(S.bt _).price*_<=_
   omega
 ·rename_i e
  have:on=false:=by cases on<;>simp_all
  subst this
  exact u1.on g0 g1 u2 hw1
theorem Pl.Ok.later (h:S.Ok c) {t:Int} (h0:0<=t) (h1:t<=5000):(S.later t).Ok c:={ h with nw:=⟨h0,h1⟩ }
theorem Pl.Ok.setB (h:S.Ok c) {r t:Int} (r0:0<=r) (r1:r<S.B.length) (h0:-1<=t) (h1:t<=5000):(S.setB r t).Ok c:=by
 refine { h with lb:=?_,be:=fun i i0 i1=>?_ }
 ·show (S.began.set _ _).length=_
  rw [List.length_set];exact h.lb
 ·have hrl:r.toNat<S.began.length:=by rw [h.lb];omega
  show -1<=gt (S.began.set r.toNat t) i/\gt (S.began.set r.toNat t) i<=_
  have e:gt (S.began.set r.toNat t) i=if i.toNat=r.toNat then t else gt S.began i:=by unfold gt;exact BF hrl
  rw [e]
  split
  ·exact ⟨h0,h1⟩
  ·exact h.be i i0 i1
theorem Pl.Ok.endK (h:S.Ok c) (k:Nat):(S.endK k).Ok c:=by
 have hb:=h.lb
 have he:=h.le
 have hn:=h.nw
 refine { h with lb:=?_,le:=?_,be:=fun i i0 i1=>?_,en:=fun i i0 i1=>?_ }
 ·show ((List.range _).map _).length=_
  rw [List.length_map,List.length_range];exact hb
 ·show ((List.range _).map _).length=_
  rw [List.length_map,List.length_range];exact he
 ·have i1:i<S.B.length:=i1
  have:=h.be i i0 i1
  show -1<=gt ((List.range _).map _) i/\gt ((List.range _).map _) i<=_
  rw [KB i0 (by omega)]
  have e:(i.toNat:Int)=i:=by omega
  split
  ·omega
  ·rw [e];exact this
 ·have i1:i<S.B.length:=i1
  have:=h.en i i0 i1
  show -1<=gt ((List.range _).map _) i/\gt ((List.range _).map _) i<=_
  rw [KB i0 (by omega)]
  have e:(i.toNat:Int)=i:=by omega
  split
  ·omega
  ·rw [e];exact this
theorem Pl.Ok.lineK (h:S.Ok c) (k:Nat):(S.lineK k).Ok c:={ h with ll:=by show ((List.range _).map _).length=_;rw [List.length_map,List.length_range];exact h.ll }
theorem Pl.Ok.init {w:Int} {B:List BthG} {G:List Grp} (hv:Val w B G):(Pl.init w B G).Ok 0:=by
 have hz:∀ (n:Nat) (x r:Int),0<=r->r<n->gt (List.replicate n x) r=x:=fun n x r r0 r1=>by
  have:r.toNat<n:=by omega
  unfold gt
  simp [List.getD,this]
 have hq:∀ r:Int,(Pl.init w B G).qu r=[]:=fun r=>by
  show (List.replicate B.length ([]:List Int)).getD r.toNat []=[]
  simp only [List.getD,List.getElem?_replicate]
  split<;>rfl
 refine { v:=hv,lg:=by simp [Pl.init],lh:=by simp [Pl.init],lq:=by simp [Pl.init],lb:=by simp [Pl.init],le:=by simp [Pl.init],lt:=by simp [Pl.init],ll:=by simp [Pl.init],nw:=⟨by simp [Pl.init],by simp [Pl.init]⟩,gs:=fun g g0 g1=>?_,qn:=fun r _ _=>by rw [hq];exact List.nodup_nil,qs:=fun r _ _ k hk=>by rw [hq] at hk;simp at hk,vl:=by simp [Pl.init],tk:=fun r r0 r1=>?_,be:=fun r r0 r1=>?_,en:=fun r r0 r1=>?_ }
 ·have g1:g<G.length:=g1
  have hg:g.toNat<G.length:=by omega
  have e:(Pl.init w B G).gu g=⟨0,-1,0,(gd G g).tokens⟩:=by
   show (G.map _).getD g.toNat Gs.d=_
   unfold gd
   simp [List.getD,hg]
  rw [e]
  have:=hv.gr g0 g1
  refine ⟨by show (-1:Int)<=-1;omega,by show (-1:Int)<=_;omega,fun _=>by show (-1:Int)<_;omega,fun h=>absurd rfl h,by show (0:Int)<=0/\(0:Int)<=5000;omega,this.2.2.1⟩
 ·show 0<=gt (List.replicate B.length 0) r/\gt (List.replicate B.length 0) r<=_
  rw [hz B.length 0 r r0 r1];omega
 ·show -1<=gt (List.replicate B.length (-1)) r/\gt (List.replicate B.length (-1)) r<=_
  rw [hz B.length (-1) r r0 r1];omega
 ·show -1<=gt (List.replicate B.length (-1)) r/\gt (List.replicate B.length (-1)) r<=_
  rw [hz B.length (-1) r r0 r1];omega
end
structure Pl.Sm (S S':Pl):Prop where
 g:S'.G=S.G
 b:S'.B=S.B
 n:S'.now=S.now
 w:S'.walk=S.walk
theorem Pl.Sm.refl (S:Pl):S.Sm S:=⟨rfl,rfl,rfl,rfl⟩
theorem Pl.Sm.trans {S T U:Pl} (h:S.Sm T) (h':T.Sm U):S.Sm U:=⟨h'.g.trans h.g,h'.b.trans h.b,h'.n.trans h.n,h'.w.trans h.w⟩
theorem Pl.Sm.on (S:Pl) (g:Int):S.Sm (S.on g):=let ⟨a,b,c,_,_,d⟩:=S.on_same g;⟨a,b,c,d⟩
theorem Pl.Sm.stand (S:Pl) (g:Int):S.Sm (S.stand g):=⟨rfl,rfl,rfl,rfl⟩
theorem Pl.Sm.unq (S:Pl) (g:Int) (b:Bool):S.Sm (S.unq g b):=⟨rfl,rfl,rfl,rfl⟩
theorem Pl.Sm.leave (S:Pl) (g:Int) (b:Bool):S.Sm (S.leave g b):=by
 unfold Pl.leave
 split
 ·exact ⟨rfl,rfl,rfl,rfl⟩
 ·exact (Pl.Sm.unq S g false).trans (Pl.Sm.on _ g)
theorem Pl.Sm.endK (S:Pl) (k:Nat):S.Sm (S.endK k):=⟨rfl,rfl,rfl,rfl⟩
theorem Pl.Sm.setB (S:Pl) (r t:Int):S.Sm (S.setB r t):=⟨rfl,rfl,rfl,rfl⟩
theorem Pl.Sm.lineK (S:Pl) (k:Nat):S.Sm (S.lineK k):=⟨rfl,rfl,rfl,rfl⟩
theorem Pl.Sm.gr {S S':Pl} (h:S.Sm S') (g:Int):S'.gr g=S.gr g:=by unfold Pl.gr;rw [h.g]
theorem Pl.leave_ne {S:Pl} {g k:Int} {b:Bool} (h:k.toNat≠g.toNat):(S.leave g b).gu k=S.gu k:=by
 unfold Pl.leave
 split
 ·show ((S.unq g true).setG g _).gu k=_
  rw [Pl.gu_setG_ne h]
  rfl
 ·exact Pl.quit_ne (S:=S) h
theorem Pl.Ok.off1 {S:Pl} {c:Nat} {g:Int} (h:S.Ok c) (g0:0<=g) (g1:g<S.G.length) (ho:S.off g=true):(S.on g).Ok c:=by
 unfold Pl.off at ho
 simp only [Bool.and_eq_true,decide_eq_true_eq] at ho
 exact h.on g0 g1 (h.free (by omega)) ((h.gs g g0 g1).w2 (by omega))
theorem Pl.Ok.come1 {S:Pl} {c:Nat} {g:Int} (h:S.Ok c) (g0:0<=g) (g1:g<S.G.length):(S.come1 g).Ok c:=by
 have hg:=h.gs g g0 g1
 unfold Pl.come1
 split
 ·rename_i ha
  unfold Pl.comeA at ha
  simp only [Bool.and_eq_true,decide_eq_true_eq] at ha
  exact h.on g0 g1 (h.free (by omega)) (hg.w2 (by omega))
 ·split
  ·rename_i hb
   unfold Pl.comeB at hb
   simp only [Bool.and_eq_true,decide_eq_true_eq] at hb
   exact h.stand g0 g1 (h.free (by omega)) (hg.w3 (by omega)) (hg.w2 (by omega))
  ·exact h
theorem Pl.Sm.come1 (S:Pl) (g:Int):S.Sm (S.come1 g):=by
 unfold Pl.come1
 split
 ·exact Pl.Sm.on S g
 ·split
  ·exact Pl.Sm.stand S g
  ·exact Pl.Sm.refl S
theorem Pl.Ok.quit1 {S:Pl} {c:Nat} {g:Int} (h:S.Ok c) (g0:0<=g) (g1:g<S.G.length) (ho:S.quits g=true):(S.quit g).Ok (c+1):=by
 unfold Pl.quits at ho
 simp only [Bool.and_eq_true,decide_eq_true_eq] at ho
 exact h.leave g0 g1 ho.1 fun e=>by cases e
structure Pr (S:Pl) (r:Int) (q:List Int) (c:Nat):Prop where
 ok:S.Ok c
 nd:q.Nodup
 el:∀ g∈q,0<=g/\g<S.G.length/\(S.gu g).st=2/\gt (S.gr g).wants (S.gu g).want=r
section
variable {S:Pl} {r g:Int} {q:List Int} {c:Nat}
theorem Pr.of (h:S.Ok c) (r0:0<=r) (r1:r<S.B.length):Pr S r (S.qu r) c:=⟨h,h.qn r r0 r1,h.qs r r0 r1⟩
theorem Pr.skip (h:Pr S r (g::q) c):Pr S r q (c+1):=⟨h.ok.mono (by omega),(List.nodup_cons.1 h.nd).2,fun k hk=>h.el k (List.mem_cons_of_mem _ hk)⟩
theorem Pr.leave (h:Pr S r (g::q) c) {b:Bool} (hb:b=true->S.bad r g=false):Pr (S.leave g b) r q (c+1):=by
 obtain ⟨g0,g1,g2,g3⟩:=h.el g (List.mem_cons_self ..)
 obtain ⟨n1,n2⟩:=List.nodup_cons.1 h.nd
 refine ⟨h.ok.leave g0 g1 g2 fun e=>?_,n2,fun k hk=>?_⟩
 ·have hb:=hb e
  unfold Pl.bad at hb
  simp only [Bool.or_eq_false_iff,decide_eq_false_iff_not] at hb
  unfold Pl.price
  rw [g3,Int.mul_comm]
  omega
 ·obtain ⟨k0,k1,k2,k3⟩:=h.el k (List.mem_cons_of_mem _ hk)
  have hne:k.toNat≠g.toNat:=fun e=>n1 (by rw [Bb k0 g0] at e;rw [← e];exact hk)
  have sm:=Pl.Sm.leave S g b
  rw [Pl.leave_ne hne,sm.gr,sm.g]
  exact ⟨k0,k1,k2,k3⟩
end
theorem EvR.gix {σ:Hp} {r l:SL} {B:List BthG} {ws:Nat->SL} {G:List Grp} (h:EvR σ r B l ws G) {g:Int} (g0:0<=g) (g1:g<G.length) {K:Nat->Nat->Prop}
  (hK:∀ b o,σ.cell? ⟨b,o,none⟩=some (aD (gd G g).came)->σ.cell? ⟨b,o+1,none⟩=some (aD (gd G g).size)->σ.cell? ⟨b,o+3,none⟩=some (ws g.toNat).v->σ.cell? ⟨b,o+4,none⟩=some (aD (gd G g).patience)->RdS aM σ (ws g.toNat).A (ws g.toNat).n (gd G g).wants->K b o):ix l.A l.n g 5 K:=by
 obtain ⟨k,rfl⟩:=Int.eq_ofNat_of_zero_le g0
 have hk:k<G.length:=by omega
 have e:gd G (k:Int)=G[k]:=by unfold gd;simp [List.getD,hk]
 rw [e] at hK
 exact h.group hk fun b o c0 c1 _ c3 c4=>hK b o c0 c1 c3 c4 (h.w k hk)
section
variable {W:PW} {σ0 σ:Hp} {S:Pl} {ws:Nat->SL} {c:Nat} {g:Int} {b o:Nat} {x:Gs}
end
theorem Nl {f:Pl->Int->Pl} {d:Nat} {S:Pl} {c:Nat} (h:S.Ok c):∀ n:Nat,(∀ (T:Pl) (c':Nat),T.Ok c'->S.Sm T->∀ k:Nat,k<n->(f T k).Ok (c'+d)/\T.Sm (f T k))->((Bn n).foldl f S).Ok (c+n*d)/\S.Sm ((Bn n).foldl f S)
 | 0,_=>⟨by simpa [Bn] using h,Pl.Sm.refl S⟩
 | n+1,hf=>by
  obtain ⟨h1,h2⟩:=Nl h n fun T c' t1 t2 k hk=>hf T c' t1 t2 k (by omega)
  obtain ⟨h3,h4⟩:=hf _ _ h1 h2 n (by omega)
  rw [Lt,List.foldl_append]
  refine ⟨?_,h2.trans h4⟩
  have e:c+(n+1)*d=c+n*d+d:=by rw [Nat.add_mul];omega
  rw [e]
  exact h3
theorem OJ {f:Pl->Int->Pl} {S:Pl} {n:Nat}:(Bn (n+1)).foldl f S=f ((Bn n).foldl f S) n:=by rw [Lt,List.foldl_append];rfl
def Pl.off1 (S:Pl) (g:Int):Pl:=if S.off g=true then S.on g else S
def Pl.quit1 (S:Pl) (g:Int):Pl:=if S.quits g=true then S.quit g else S
theorem Pl.end_eq (S:Pl):S.end_=(Bn S.G.length).foldl Pl.off1 (S.endK S.B.length):=rfl
theorem Pl.leaves_eq (S:Pl):S.leaves=(Bn S.G.length).foldl Pl.quit1 S:=rfl
section
variable {S:Pl} {c:Nat}
theorem Pl.Ok.off2 (h:S.Ok c) {g:Int} (g0:0<=g) (g1:g<S.G.length):(S.off1 g).Ok c/\S.Sm (S.off1 g):=by
 unfold Pl.off1
 split
 ·rename_i e
  exact ⟨h.off1 g0 g1 e,Pl.Sm.on S g⟩
 ·exact ⟨h,Pl.Sm.refl S⟩
theorem Pl.Ok.quit2 (h:S.Ok c) {g:Int} (g0:0<=g) (g1:g<S.G.length):(S.quit1 g).Ok (c+1)/\S.Sm (S.quit1 g):=by
 unfold Pl.quit1
 split
 ·rename_i e
  exact ⟨h.quit1 g0 g1 e,Pl.Sm.leave S g false⟩
 ·exact ⟨h.mono (by omega),Pl.Sm.refl S⟩
theorem Pl.Ok.endF (h:S.Ok c) {n:Nat} (hn:n<=S.G.length):((Bn n).foldl Pl.off1 (S.endK S.B.length)).Ok c/\S.Sm ((Bn n).foldl Pl.off1 (S.endK S.B.length)):=by
 have:=Nl (f:=Pl.off1) (d:=0) (h.endK S.B.length) n fun T c' t1 t2 k hk=>t1.off2 (by omega) (by rw [t2.g];show (k:Int)<(S.G.length:Int);omega)
 exact ⟨by simpa using this.1,(Pl.Sm.endK S _).trans this.2⟩
theorem Pl.Ok.comeF (h:S.Ok c) {n:Nat} (hn:n<=S.G.length):((Bn n).foldl Pl.come1 S).Ok c/\S.Sm ((Bn n).foldl Pl.come1 S):=by
 have:=Nl (f:=Pl.come1) (d:=0) h n fun T c' t1 t2 k hk=>⟨t1.come1 (by omega) (by rw [t2.g];omega),Pl.Sm.come1 T k⟩
 simpa using this
theorem Pl.Ok.quitF (h:S.Ok c) {n:Nat} (hn:n<=S.G.length):((Bn n).foldl Pl.quit1 S).Ok (c+n)/\S.Sm ((Bn n).foldl Pl.quit1 S):=by
 have:=Nl (f:=Pl.quit1) (d:=1) h n fun T c' t1 t2 k hk=>t1.quit2 (by omega) (by rw [t2.g];omega)
 simpa using this
theorem Ji (r g:Int) (q:List Int) (left:Int) (T:Pl):BU r (g::q) left T=if T.bad r g=true then BU r q left (T.leave g false)
  else if (T.gr g).size<=left then BU r q (left-(T.gr g).size) (T.leave g true)
  else if (T.bt r).fill=true then BU r q left T
  else (T,left):=rfl
theorem PM {r:Int}:∀ (q:List Int) (left:Int) (T:Pl) (c:Nat),Pr T r q c->(BU r q left T).1.Ok (c+q.length)/\T.Sm (BU r q left T).1
 | [],left,T,c,h=>⟨by simpa [BU] using h.ok,Pl.Sm.refl T⟩
 | g::q,left,T,c,h=>by
  have el:c+(g::q).length=c+1+q.length:=by rw [List.length_cons];omega
  rw [el]
  unfold BU
  split
  ·obtain ⟨h1,h2⟩:=PM q left _ _ (h.leave (b:=false) fun e=>by cases e)
   exact ⟨h1,(Pl.Sm.leave T g false).trans h2⟩
  ·rename_i hb
   split
   ·obtain ⟨h1,h2⟩:=PM q (left-(T.gr g).size) _ _ (h.leave (b:=true) fun _=>by simpa using hb)
    exact ⟨h1,(Pl.Sm.leave T g true).trans h2⟩
   ·split
    ·exact PM q left _ _ h.skip
    ·exact ⟨h.ok.mono (by omega),Pl.Sm.refl T⟩
theorem Pl.Ok.begin (h:S.Ok c) {r:Int} (r0:0<=r) (r1:r<S.B.length):(S.begin r).Ok (c+60)/\S.Sm (S.begin r):=by
 obtain ⟨h1,h2⟩:=PM (S.qu r) (S.bt r).seats S c (Pr.of h r0 r1)
 have hq:=h.qlen r0 r1
 have hn:=h.nw
 unfold Pl.begin
 split
 ·exact ⟨h.mono (by omega),Pl.Sm.refl S⟩
 ·split
  ·exact ⟨(h1.mono (by omega)).setB r0 (by rw [h2.b];exact r1) (by omega) hn.2,h2.trans (Pl.Sm.setB _ _ _)⟩
  ·exact ⟨h1.mono (by omega),h2⟩
theorem Pl.begins_succ {k:Nat}:S.begins (k+1)=(S.begins k).begin k:=DB (f:=fun (S:Pl) (r:Nat)=>S.begin r) (b:=S) (k:=k)
theorem Pl.Ok.beginF (h:S.Ok c):∀ n:Nat,n<=S.B.length->(S.begins n).Ok (c+n*60)/\S.Sm (S.begins n)
 | 0,_=>⟨by simpa [Pl.begins] using h,Pl.Sm.refl S⟩
 | n+1,hn=>by
  obtain ⟨h1,h2⟩:=h.beginF n (by omega)
  obtain ⟨h3,h4⟩:=h1.begin (r:=n) (by omega) (by rw [h2.b];omega)
  rw [Pl.begins_succ]
  refine ⟨?_,h2.trans h4⟩
  have e:c+(n+1)*60=c+n*60+60:=by omega
  rw [e]
  exact h3
theorem Pl.Ok.rest (h:S.Ok c):S.rest.Ok (c+60)/\S.Sm S.rest:=by
 obtain ⟨h1,h2⟩:=h.endF (Nat.le_refl _)
 rw [← Pl.end_eq] at h1 h2
 obtain ⟨h3,h4⟩:=h1.comeF (Nat.le_refl _)
 change S.end_.Sm S.end_.come at h4
 obtain ⟨h5,h6⟩:=Pl.Ok.quitF (S:=S.end_.come) h3 (Nat.le_refl _)
 refine ⟨?_,h2.trans (h4.trans h6)⟩
 have hn:=h.v.n
 have e:S.end_.come.G.length=S.G.length:=by rw [(h2.trans h4).g]
 refine Pl.Ok.mono (c:=c+S.end_.come.G.length) ?_ (by omega)
 exact h5
theorem Pl.Ok.tick (h:S.Ok c):S.tick.Ok (c+540)/\S.Sm S.tick:=by
 obtain ⟨h1,h2⟩:=h.rest
 obtain ⟨h3,h4⟩:=h1.beginF S.B.length (by rw [h2.b];omega)
 have hm:=h.v.m
 exact ⟨(h3.lineK S.B.length).mono (by omega),h2.trans (h4.trans (Pl.Sm.lineK _ _))⟩
end
section
variable {W:PW} {σ0 σ:Hp} {S:Pl} {ws:Nat->SL} {c:Nat} {g:Int}
end
section
variable {W:PW} {σ0 σ:Hp} {S:Pl} {ws:Nat->SL} {c:Nat} {g:Int}
end
end Go.Proofs.YtoelhdjloaknbaaGreat
