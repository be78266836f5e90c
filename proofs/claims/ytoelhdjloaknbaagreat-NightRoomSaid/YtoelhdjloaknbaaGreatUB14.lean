/- What this claim rests on. -/
import Derived.Test.YtoelhdjloaknbaaGreatUQa7
namespace Go.Proofs.YtoelhdjloaknbaaGreat
open Go.RowKit Go.Proofs.Tryz
structure Gs where
 st:Int
 want:Int
 since:Int
 tokens:Int
structure Pl where
 walk:Int
 B:List BthG
 G:List Grp
 now:Int
 guests:List Gs
 queues:List (List Int)
 began:List Int
 ended:List Int
 visits:List Vis
 takes:List Int
 lines:List Int
 homes:List Int
def Gs.d:Gs:=⟨0,0,0,0⟩
def Grp.d:Grp:=⟨0,0,0,[],0⟩
def BthG.d:BthG:=⟨0,0,0,0,false⟩
def Pl.gu (S:Pl) (g:Int):Gs:=S.guests.getD g.toNat Gs.d
def Pl.qu (S:Pl) (r:Int):List Int:=S.queues.getD r.toNat []
def Pl.gr (S:Pl) (g:Int):Grp:=S.G.getD g.toNat Grp.d
def Pl.bt (S:Pl) (r:Int):BthG:=S.B.getD r.toNat BthG.d
def Pl.setG (S:Pl) (g:Int) (x:Gs):Pl:={ S with guests:=S.guests.set g.toNat x }
def Pl.setQ (S:Pl) (r:Int) (q:List Int):Pl:={ S with queues:=S.queues.set r.toNat q }
def Pl.setH (S:Pl) (g h:Int):Pl:={ S with homes:=S.homes.set g.toNat h }
def Pl.addV (S:Pl) (v:Vis):Pl:={ S with visits:=S.visits++[v] }
def Pl.setT (S:Pl) (r t:Int):Pl:={ S with takes:=S.takes.set r.toNat t }
def Pl.stand (S:Pl) (g:Int):Pl:=
 (S.setG g { S.gu g with st:=2,since:=S.now }).setQ (gt (S.gr g).wants (S.gu g).want) (S.qu (gt (S.gr g).wants (S.gu g).want)++[g])
def Pl.on (S:Pl) (g:Int):Pl:=
 if (S.gr g).wants.length<=(S.gu g).want+1 then (S.setG g { S.gu g with want:=(S.gu g).want+1,since:=S.now,st:=4 }).setH g S.now
 else if S.walk=0 then (S.setG g { S.gu g with want:=(S.gu g).want+1,since:=S.now,st:=1 }).stand g
 else S.setG g { S.gu g with want:=(S.gu g).want+1,since:=S.now,st:=1 }
def Pl.unq (S:Pl) (g:Int) (on:Bool):Pl:=
 (S.setQ (gt (S.gr g).wants (S.gu g).want) ((S.qu (gt (S.gr g).wants (S.gu g).want)).filter fun k=>decide (k≠g))).addV (g,(S.gu g).want,gt (S.gr g).wants (S.gu g).want,on,(S.gu g).since,S.now)
def Pl.price (S:Pl) (g:Int):Int:=(S.bt (gt (S.gr g).wants (S.gu g).want)).price*(S.gr g).size
def Pl.leave (S:Pl) (g:Int) (on:Bool):Pl:=
 if on=true then ((S.unq g true).setG g { S.gu g with st:=3,since:=S.now,tokens:=(S.gu g).tokens-S.price g }).setT (gt (S.gr g).wants (S.gu g).want) (gt S.takes (gt (S.gr g).wants (S.gu g).want)+S.price g)
 else (S.unq g false).on g
structure Val (w:Int) (B:List BthG) (G:List Grp):Prop where
 w:0<=w/\w<=100
 m:B.length<=8
 b:∀ b∈B,(1<=b.seats/\b.seats<=40)/\(0<=b.price/\b.price<=100)/\(1<=b.cycle/\b.cycle<=100)/\(0<=b.pause/\b.pause<=100)
 n:G.length<=60
 g:∀ g∈G,(0<=g.came/\g.came<=2000)/\(1<=g.size/\g.size<=40)/\(0<=g.tokens/\g.tokens<=10000)/\g.wants.length<=10/\(0<=g.patience/\g.patience<=2000)/\∀ x∈g.wants,0<=x/\x<B.length
def wn (G:List Grp) (g:Int):List Int:=(G.getD g.toNat Grp.d).wants
theorem Val.want {w:Int} {B:List BthG} {G:List Grp} (h:Val w B G) {g k:Int} (h0:0<=k) (h1:k<(wn G g).length):0<=gt (wn G g) k/\gt (wn G g) k<B.length:=by
 have hg:g.toNat<G.length:=by
  by_cases hg:g.toNat<G.length
  ·exact hg
  ·have:wn G g=[]:=by
    unfold wn
    have e:G.getD g.toNat Grp.d=Grp.d:=by simp [List.getD,hg]
    rw [e]
    rfl
   rw [this] at h1
   simp at h1
   omega
 have e:wn G g=G[g.toNat].wants:=by unfold wn;simp [List.getD,hg]
 have hk:k.toNat<(wn G g).length:=by omega
 rw [Ro hk]
 have hm:(wn G g)[k.toNat]∈G[g.toNat].wants:=by rw [← e];exact List.getElem_mem hk
 exact (h.g _ (List.getElem_mem hg)).2.2.2.2.2 _ hm
structure RG (w t:Int) (W:List Int) (n:Pty) (s:Gs) (h p:Int):Prop where
 w0:0<=n.wish
 w1:n.wish<=W.length
 tk:s.tokens=n.purse
 cm:p≠1->n.comes=-1
 hm:h=n.home∨p=7/\n.wish=W.length
 c0:p=0->s.st=0/\s.want=-1/\n.wish=0
 c1:p=1->s.st=1/\s.want=n.wish/\n.wish<W.length/\n.comes=s.since+w/\w≠0/\0<=s.since/\s.since<=t
 c2:p=2->s.st=2/\s.want=n.wish/\n.wish<W.length/\0<=s.since/\s.since<=t
 c3:p=3->s.st=3/\s.want+1=n.wish/\0<=s.want
 c4:p=4->s.st=4
 c5:p=5->s.want+1=n.wish
 c6:p=6->s.st=2/\s.want=n.wish/\n.wish<W.length/\0<=s.since/\s.since<=t
 c7:p=7->(n.wish=W.length->s.st=4/\h=t)/\(n.wish<W.length->w=0->s.st=2/\s.want=n.wish/\s.since=t)/\(n.wish<W.length->w≠0->s.st=1/\s.want=n.wish/\s.since=t)
 c8:0<=p/\p<=7
def arr (w:Int) (G:List Grp) (N:Ngt) (up:List Int) (r:Int):List Int:=
 if w=0 then up.filter fun g=>decide ((N.pa g).wish<(wn G g).length/\gt (wn G g) (N.pa g).wish=r) else []
structure Rl (w:Int) (B:List BthG) (G:List Grp) (d e:Int) (N:Ngt) (S:Pl) (pl:Int->Int) (up:List Int) (fx:Int):Prop where
 nw:N.walk=w
 nb:N.rides.map Bth.b=B
 ng:N.parties.map Pty.g=G
 sw:S.walk=w
 sb:S.B=B
 sg:S.G=G
 lg:S.guests.length=G.length
 lh:S.homes.length=G.length
 lq:S.queues.length=B.length
 lb:S.began.length=B.length
 le:S.ended.length=B.length
 lt:S.takes.length=B.length
 ll:S.lines.length=B.length
 tk:S.now=N.tick
 t0:0<=N.tick
 vs:S.visits=N.visits
 gr:∀ g:Int,0<=g->g<G.length->RG w N.tick (wn G g) (N.pa g) (S.gu g) (gt S.homes g) (pl g)
 wk:∀ g:Int,0<=g->g<G.length->pl g=1->N.tick+d<=(N.pa g).comes
 qu:∀ r:Int,0<=r->r<B.length->(S.qu r).filter (fun g=>decide (pl g≠6))=(N.bo r).queue.map Prod.fst++arr w G N up r
 ql:∀ r:Int,0<=r->r<B.length->∀ g∈S.qu r,0<=g/\g<G.length/\(pl g=6->gt (wn G g) (N.pa g).wish=r)
 qe:∀ r:Int,0<=r->r<B.length->∀ x∈(N.bo r).queue,0<=x.1/\x.1<G.length/\pl x.1=2/\gt (wn G x.1) (N.pa x.1).wish=r/\x.2=(S.gu x.1).since
 qn:∀ r:Int,0<=r->r<B.length->((N.bo r).queue.map Prod.fst).Nodup
 qc:∀ g:Int,0<=g->g<G.length->pl g=2->(g,(S.gu g).since)∈(N.bo (gt (wn G g) (N.pa g).wish)).queue
 oe:∀ r:Int,0<=r->r<B.length->∀ g∈(N.bo r).on,0<=g/\g<G.length/\pl g=3/\gt (wn G g) ((N.pa g).wish-1)=r
 on:∀ r:Int,0<=r->r<B.length->(N.bo r).on.Nodup
 oc:∀ g:Int,0<=g->g<G.length->pl g=3->g∈(N.bo (gt (wn G g) ((N.pa g).wish-1))).on
 re:∀ r:Int,0<=r->r<B.length->gt S.ended r=(N.bo r).ended/\-1<=(N.bo r).ended/\(N.bo r).ended<=N.tick-1+e
 rb:∀ r:Int,0<=r->r<B.length->0<=(N.bo r).begun/\(N.bo r).begun<=N.tick/\(r≠fx->gt S.began r=if (N.bo r).on=[] then -1 else (N.bo r).begun)/\(r≠fx->(N.bo r).on≠[]->N.tick+e<=(N.bo r).begun+(N.bo r).b.cycle)/\(r=fx->gt S.began r=-1)
 rt:∀ r:Int,0<=r->r<B.length->gt S.takes r=(N.bo r).takes/\gt S.lines r=(N.bo r).line
 ue:∀ g∈up,0<=g/\g<G.length/\pl g=7
 un:up.Nodup
 uc:∀ g:Int,0<=g->g<G.length->pl g=7->g∈up
def plu (pl:Int->Int) (g p:Int):Int->Int:=fun k=>if k=g then p else pl k
theorem AD {pl:Int->Int} {g p:Int}:plu pl g p g=p:=if_pos rfl
theorem Cl {pl:Int->Int} {g p k:Int} (h:k≠g):plu pl g p k=pl k:=if_neg h
theorem Bb {a b:Int} (ha:0<=a) (hb:0<=b):a.toNat=b.toNat↔a=b:=by omega
theorem BF {α:Type} {xs:List α} {i k:Nat} {x d:α} (hi:i<xs.length):(xs.set i x).getD k d=if k=i then x else xs.getD k d:=by
 simp only [List.getD,List.getElem?_set]
 by_cases h:i=k
 ·subst h;simp [hi]
 ·rw [if_neg h,if_neg fun h'=>h h'.symm]
theorem E8 {pl:Int->Int} {g p:Int} {xs:List Int} (h:(pl g≠6/\p≠6)∨g ∉ xs):xs.filter (fun k=>decide (plu pl g p k≠6))=xs.filter fun k=>decide (pl k≠6):=by
 apply List.filter_congr
 intro k hk
 by_cases e:k=g
 ·subst e
  rw [AD]
  rcases h with ⟨h1,h2⟩ | h
  ·rw [decide_eq_true h1,decide_eq_true h2]
  ·exact absurd hk h
 ·rw [Cl e]
section
variable {w:Int} {B:List BthG} {G:List Grp} {d e:Int} {N:Ngt} {S:Pl} {pl:Int->Int} {up:List Int} {fx:Int}
theorem Rl.np (h:Rl w B G d e N S pl up fx):N.parties.length=G.length:=by rw [← h.ng,List.length_map]
theorem Rl.nr (h:Rl w B G d e N S pl up fx):N.rides.length=B.length:=by rw [← h.nb,List.length_map]
theorem Rl.stat (h:Rl w B G d e N S pl up fx):N.stat B.length G:=⟨h.nr,h.ng⟩
theorem Rl.pg (h:Rl w B G d e N S pl up fx) {g:Int} (g0:0<=g) (g1:g<G.length):(N.pa g).g=G.getD g.toNat Grp.d:=by
 have hg:g.toNat<N.parties.length:=by rw [h.np];omega
 have e2:(N.parties.map Pty.g).getD g.toNat Grp.d=(N.pa g).g:=by simp [Ngt.pa,List.getD,hg]
 rw [← e2,h.ng]
theorem Rl.pw (h:Rl w B G d e N S pl up fx) {g:Int} (g0:0<=g) (g1:g<G.length):(N.pa g).g.wants=wn G g:=by rw [h.pg g0 g1];rfl
theorem Rl.sgw (h:Rl w B G d e N S pl up fx) (g:Int):(S.gr g).wants=wn G g:=by unfold Pl.gr;rw [h.sg];rfl
theorem Rl.bb (h:Rl w B G d e N S pl up fx) {r:Int} (r0:0<=r) (r1:r<B.length):(N.bo r).b=B.getD r.toNat BthG.d:=by
 have hr:r.toNat<N.rides.length:=by rw [h.nr];omega
 have e2:(N.rides.map Bth.b).getD r.toNat BthG.d=(N.bo r).b:=by simp [Ngt.bo,List.getD,hr]
 rw [← e2,h.nb]
end
theorem Cr:∀ (m:Nat) (xs:List Int),xs.Nodup->(∀ x∈xs,0<=x/\x<m)->xs.length<=m
 | 0,[],_,_=>Nat.le_refl _
 | 0,x::xs,_,h=>by have:=h x (List.mem_cons_self ..);omega
 | m+1,xs,hn,h=>by
  have h1:(xs.filter fun x=>decide (x≠(m:Int))).length<=m:=by
   refine Cr m _ (hn.sublist List.filter_sublist) fun x hx=>?_
   obtain ⟨h2,h3⟩:=List.mem_filter.1 hx
   have:=h x h2
   have h3:=of_decide_eq_true h3
   omega
  have h2:xs.length<=(xs.filter fun x=>decide (x≠(m:Int))).length+1:=by
   clear h h1
   induction xs with
   | nil=>simp
   | cons x xs ih=>
    obtain ⟨p1,p2⟩:=List.nodup_cons.1 hn
    by_cases hx:x=m
    ·have e:xs.filter (fun x=>decide (x≠(m:Int)))=xs:=by
      rw [List.filter_eq_self]
      intro y hy
      exact decide_eq_true fun e=>p1 (by rw [hx,← e];exact hy)
     rw [List.filter_cons,if_neg (by simp [hx]),e]
     simp
    ·have:=ih p2
     rw [List.filter_cons,if_pos (by simp [hx])]
     simp only [List.length_cons]
     omega
  omega
section
variable {w:Int} {B:List BthG} {G:List Grp} {d e:Int} {N:Ngt} {S:Pl} {pl:Int->Int} {up:List Int} {fx:Int}
theorem Rl.qlen (h:Rl w B G d e N S pl up fx) (r:Int):(N.bo r).queue.length<=G.length:=by
 by_cases hr:r.toNat<N.rides.length
 ·have hr':r.toNat<B.length:=by rw [← h.nr];exact hr
  have e:N.bo r=N.bo (r.toNat:Int):=rfl
  rw [e,← List.length_map (f:=Prod.fst)]
  refine Cr _ _ (h.qn r.toNat (by omega) (by omega)) fun x hx=>?_
  obtain ⟨y,hy,rfl⟩:=List.mem_map.1 hx
  have:=h.qe r.toNat (by omega) (by omega) y hy
  omega
 ·have:N.bo r=Bth.d:=by unfold Ngt.bo;simp [List.getD,hr]
  rw [this]
  exact Nat.zero_le _
theorem Rl.olen (h:Rl w B G d e N S pl up fx) (r:Int):(N.bo r).on.length<=G.length:=by
 by_cases hr:r.toNat<N.rides.length
 ·have hr':r.toNat<B.length:=by rw [← h.nr];exact hr
  have e:N.bo r=N.bo (r.toNat:Int):=rfl
  rw [e]
  refine Cr _ _ (h.on r.toNat (by omega) (by omega)) fun x hx=>?_
  have:=h.oe r.toNat (by omega) (by omega) x hx
  omega
 ·have:N.bo r=Bth.d:=by unfold Ngt.bo;simp [List.getD,hr]
  rw [this]
  exact Nat.zero_le _
theorem Rl.arr_ok (h:Rl w B G d e N S pl up fx) (hv:Val w B G) {g:Int} (g0:0<=g) (g1:g<G.length) (hw:(N.pa g).wish<(wn G g).length):N.Arr g:=by
 have hr:=h.gr g g0 g1
 have:=hv.want hr.w0 hw
 have hn:=hv.n
 exact ⟨g0,by rw [h.np];omega,hr.w0,by rw [h.pw g0 g1];exact hw,by rw [h.pw g0 g1];exact this.1,by rw [h.pw g0 g1,h.nr];omega,fun i=>by have:=h.qlen i;omega⟩
theorem Rl.nxt_ok (h:Rl w B G d e N S pl up fx) (hv:Val w B G) (ht:N.tick<=5000) {g:Int} (g0:0<=g) (g1:g<G.length):N.Nxt g:=by
 have hr:=h.gr g g0 g1
 have hn:=hv.n
 refine ⟨g0,by rw [h.np];omega,hr.w0,by rw [h.pw g0 g1];exact hr.w1,fun hw=>?_,fun i=>by have:=h.qlen i;omega,⟨h.t0,ht⟩,by rw [h.nw];exact hv.w⟩
 rw [h.pw g0 g1] at hw ⊢
 have:=hv.want hr.w0 hw
 exact ⟨this.1,by rw [h.nr];omega⟩
theorem Rl.dne_ok (h:Rl w B G d e N S pl up fx) (hv:Val w B G) (hl:N.visits.length<=4000000000) {g:Int} (g0:0<=g) (g1:g<G.length) (hw:(N.pa g).wish<(wn G g).length):N.Dne g:=by
 have hr:=h.gr g g0 g1
 refine ⟨g0,by rw [h.np];omega,hr.w0,by rw [h.pw g0 g1];exact hw,?_,hl⟩
 rw [h.pg g0 g1]
 have hg:g.toNat<G.length:=by omega
 have e2:G.getD g.toNat Grp.d=G[g.toNat]:=by simp [List.getD,hg]
 rw [e2]
 have:=(hv.g _ (List.getElem_mem hg)).2.2.2.1
 omega
end
def Pl.onx (S:Pl) (g:Int):Gs:=⟨if (S.gr g).wants.length<=(S.gu g).want+1 then 4 else if S.walk=0 then 2 else 1,(S.gu g).want+1,S.now,(S.gu g).tokens⟩
theorem Pl.gu_setG {S:Pl} {g k:Int} {x:Gs} (hg:g.toNat<S.guests.length):(S.setG g x).gu k=if k.toNat=g.toNat then x else S.gu k:=BF hg
theorem Pl.on_eq (S:Pl) {g:Int} (hg:g.toNat<S.guests.length):S.on g={ S with
  guests:=S.guests.set g.toNat (S.onx g),
  queues:=if ¬ ((S.gr g).wants.length:Int)<=(S.gu g).want+1/\S.walk=0 then S.queues.set (gt (S.gr g).wants ((S.gu g).want+1)).toNat (S.qu (gt (S.gr g).wants ((S.gu g).want+1))++[g]) else S.queues,
  homes:=if ((S.gr g).wants.length:Int)<=(S.gu g).want+1 then S.homes.set g.toNat S.now else S.homes }:=by
 unfold Pl.on Pl.onx
 by_cases h1:((S.gr g).wants.length:Int)<=(S.gu g).want+1
 ·rw [if_pos h1,if_pos h1,if_neg (by simp [h1]),if_pos h1]
  rfl
 ·rw [if_neg h1,if_neg h1,if_neg h1]
  by_cases h2:S.walk=0
  ·rw [if_pos h2,if_pos h2,if_pos ⟨h1,h2⟩]
   unfold Pl.stand
   rw [Pl.gu_setG hg,if_pos rfl]
   unfold Pl.setG Pl.setQ
   simp only [List.set_set]
   rfl
  ·rw [if_neg h2,if_neg h2,if_neg (fun h=>h2 h.2)]
   rfl
def Ngt.nx (N:Ngt) (g:Int):Pty:=if (N.pa g).wish=(N.pa g).g.wants.length then { N.pa g with home:=N.tick } else if N.walk=0 then { N.pa g with comes:=-1 } else { N.pa g with comes:=N.tick+N.walk }
theorem Ngt.next_pa (N:Ngt) {g k:Int} (hg:g.toNat<N.parties.length):(N.next g).pa k=if k.toNat=g.toNat then N.nx g else N.pa k:=by
 unfold Ngt.next Ngt.nx
 by_cases h1:(N.pa g).wish=(N.pa g).g.wants.length
 ·rw [if_pos h1,if_pos h1,Ngt.pa_setP hg]
 ·rw [if_neg h1,if_neg h1]
  by_cases h2:N.walk=0
  ·rw [if_pos h2,if_pos h2]
   exact Ngt.pa_setP hg
  ·rw [if_neg h2,if_neg h2,Ngt.pa_setP hg]
theorem Ngt.next_bo (N:Ngt) {g r:Int} (hr:(N.pa g).wish<(N.pa g).g.wants.length->(gt (N.pa g).g.wants (N.pa g).wish).toNat<N.rides.length) (hw:(N.pa g).wish<=(N.pa g).g.wants.length):(N.next g).bo r=if ((N.pa g).wish<(N.pa g).g.wants.length/\N.walk=0)/\r.toNat=(gt (N.pa g).g.wants (N.pa g).wish).toNat then { N.bo (gt (N.pa g).g.wants (N.pa g).wish) with queue:=(N.bo (gt (N.pa g).g.wants (N.pa g).wish)).queue++[(g,N.tick)] } else N.bo r:=by
 unfold Ngt.next
 by_cases h1:(N.pa g).wish=(N.pa g).g.wants.length
 ·rw [if_pos h1,if_neg (by omega)]
  rfl
 ·rw [if_neg h1]
  have h1':(N.pa g).wish<(N.pa g).g.wants.length:=by omega
  by_cases h2:N.walk=0
  ·rw [if_pos h2]
   unfold Ngt.arrive
   have hr':(gt (N.pa g).g.wants (N.pa g).wish).toNat<(N.setP g { N.pa g with comes:=-1 }).rides.length:=hr h1'
   rw [Ngt.bo_setR hr']
   by_cases h3:r.toNat=(gt (N.pa g).g.wants (N.pa g).wish).toNat
   ·rw [if_pos h3,if_pos ⟨⟨h1',h2⟩,h3⟩]
   ·rw [if_neg h3,if_neg fun h=>h3 h.2]
    rfl
  ·rw [if_neg h2,if_neg fun h=>h2 h.1.2]
   rfl
theorem Ngt.arrive_rest (N:Ngt) (g:Int):(N.arrive g).walk=N.walk/\(N.arrive g).tick=N.tick/\(N.arrive g).visits=N.visits:=⟨rfl,rfl,rfl⟩
theorem Ngt.next_rest (N:Ngt) (g:Int):(N.next g).walk=N.walk/\(N.next g).tick=N.tick/\(N.next g).visits=N.visits:=by
 unfold Ngt.next
 split
 ·exact ⟨rfl,rfl,rfl⟩
 ·split<;>exact ⟨rfl,rfl,rfl⟩
theorem Ngt.setR_nb {N:Ngt} {i:Int} {r:Bth} (h:r.b=(N.bo i).b):(N.setR i r).rides.map Bth.b=N.rides.map Bth.b:=by
 show (N.rides.set i.toNat r).map Bth.b=_
 apply List.ext_getElem
 ·simp
 ·intro k h1 h2
  simp only [List.getElem_map,List.getElem_set]
  split
  ·rename_i e
   subst e
   rw [h]
   simp only [List.length_map] at h2
   simp [Ngt.bo,List.getD,h2]
  ·rfl
theorem Ngt.arrive_nb (N:Ngt) (g:Int):(N.arrive g).rides.map Bth.b=N.rides.map Bth.b:=by
 unfold Ngt.arrive
 exact Ngt.setR_nb (N:=N.setP g _) rfl
theorem Ngt.next_nb (N:Ngt) (g:Int):(N.next g).rides.map Bth.b=N.rides.map Bth.b:=by
 unfold Ngt.next
 split
 ·rfl
 ·split
  ·exact N.arrive_nb g
  ·rfl
section
variable {w:Int} {B:List BthG} {G:List Grp} {d e:Int} {N:Ngt} {S:Pl} {pl:Int->Int} {up:List Int} {fx:Int}
theorem WY {g r:Int}:arr w G N (up++[g]) r=arr w G N up r++(if w=0/\(N.pa g).wish<(wn G g).length/\gt (wn G g) (N.pa g).wish=r then [g] else []):=by
 unfold arr
 by_cases h:w=0
 ·rw [if_pos h,if_pos h,List.filter_append]
  congr 1
  by_cases h2:(N.pa g).wish<(wn G g).length/\gt (wn G g) (N.pa g).wish=r
  ·rw [if_pos ⟨h,h2⟩];simp [h2]
  ·rw [if_neg fun h'=>h2 h'.2]
   rw [List.filter_cons,if_neg (by simpa using h2)]
   rfl
 ·rw [if_neg h,if_neg h,if_neg fun h'=>h h'.1]
  rfl
theorem Rl.go (h:Rl w B G d e N S pl up fx) (hv:Val w B G) {g:Int} (g0:0<=g) (g1:g<G.length) (hp:pl g=5):Rl w B G d e N (S.on g) (plu pl g 7) (up++[g]) fx:=by
 have hgl:g.toNat<S.guests.length:=by rw [h.lg];omega
 have hr:=h.gr g g0 g1
 have h5:=hr.c5 hp
 have hW:(S.gr g).wants=wn G g:=h.sgw g
 have hE:=S.on_eq hgl
 have hgu:∀ k:Int,0<=k->(S.on g).gu k=if k=g then S.onx g else S.gu k:=fun k hk=>by
  rw [hE]
  show (S.guests.set g.toNat (S.onx g)).getD k.toNat Gs.d=_
  rw [BF hgl]
  simp only [Bb hk g0]
  rfl
 have hqu:∀ r:Int,0<=r->r<B.length->(S.on g).qu r=S.qu r++(if w=0/\(N.pa g).wish<(wn G g).length/\gt (wn G g) (N.pa g).wish=r then [g] else []):=fun r r0 r1=>by
  rw [hE]
  unfold Pl.qu
  simp only
  rw [hW,h.sw,h5]
  by_cases c:¬ ((wn G g).length:Int)<=(N.pa g).wish/\w=0
  ·have hlt:(N.pa g).wish<(wn G g).length:=by omega
   have hv':=hv.want hr.w0 hlt
   rw [if_pos c,BF (by rw [h.lq];omega)]
   simp only [Bb r0 hv'.1]
   by_cases c2:gt (wn G g) (N.pa g).wish=r
   ·rw [if_pos c2.symm,if_pos ⟨c.2,hlt,c2⟩,← c2]
   ·rw [if_neg fun h'=>c2 h'.symm,if_neg fun h'=>c2 h'.2.2,List.append_nil]
  ·rw [if_neg c,if_neg fun h'=>c ⟨by omega,h'.1⟩,List.append_nil]
 have hho:∀ k:Int,0<=k->gt (S.on g).homes k=if k=g/\(N.pa g).wish=(wn G g).length then N.tick else gt S.homes k:=fun k hk=>by
  rw [hE]
  simp only
  rw [hW,h5,h.tk]
  have:=hr.w1
  by_cases c:((wn G g).length:Int)<=(N.pa g).wish
  ·rw [if_pos c]
   unfold gt
   rw [BF (by rw [h.lh];omega)]
   simp only [Bb hk g0]
   by_cases c2:k=g
   ·rw [if_pos c2,if_pos ⟨c2,by omega⟩]
   ·rw [if_neg c2,if_neg fun h'=>c2 h'.1]
  ·rw [if_neg c,if_neg fun h'=>c (by omega)]
 have hpl:∀ k:Int,k≠g->plu pl g 7 k=pl k:=fun k hk=>Cl hk
 have hrest:(S.on g).walk=S.walk/\(S.on g).B=S.B/\(S.on g).G=S.G/\(S.on g).now=S.now/\(S.on g).began=S.began/\(S.on g).ended=S.ended/\(S.on g).visits=S.visits/\(S.on g).takes=S.takes/\(S.on g).lines=S.lines:=by
  rw [hE];exact ⟨rfl,rfl,rfl,rfl,rfl,rfl,rfl,rfl,rfl⟩
 obtain ⟨r1,r2,r3,r4,r5,r6,r7,r8,r9⟩:=hrest
 have hl1:(S.on g).guests.length=S.guests.length:=by rw [hE];exact List.length_set ..
 have hl2:(S.on g).homes.length=S.homes.length:=by
  rw [hE];simp only;split
  ·exact List.length_set ..
  ·rfl
 have hl3:(S.on g).queues.length=S.queues.length:=by
  rw [hE];simp only;split
  ·exact List.length_set ..
  ·rfl
 have hox:S.onx g=⟨if ((wn G g).length:Int)<=(N.pa g).wish then 4 else if w=0 then 2 else 1,(N.pa g).wish,N.tick,(S.gu g).tokens⟩:=by
  unfold Pl.onx;rw [hW,h5,h.sw,h.tk]
 refine { nw:=h.nw,nb:=h.nb,ng:=h.ng,sw:=by rw [r1];exact h.sw,sb:=by rw [r2];exact h.sb,sg:=by rw [r3];exact h.sg,lg:=by rw [hl1];exact h.lg,lh:=by rw [hl2];exact h.lh,lq:=by rw [hl3];exact h.lq,lb:=by rw [r5];exact h.lb,le:=by rw [r6];exact h.le,lt:=by rw [r8];exact h.lt,ll:=by rw [r9];exact h.ll,tk:=by rw [r4];exact h.tk,t0:=h.t0,vs:=by rw [r7];exact h.vs,gr:=?_,wk:=?_,qu:=?_,ql:=?_,qe:=?_,qn:=h.qn,qc:=?_,oe:=?_,on:=h.on,oc:=?_,re:=by rw [r6];exact h.re,rb:=by rw [r5];exact h.rb,rt:=by rw [r8,r9];exact h.rt,ue:=?_,un:=?_,uc:=?_ }
 ·intro k k0 k1
  rw [hgu k k0,hho k k0]
  by_cases c:k=g
  ·subst c
   rw [if_pos rfl,AD,hox]
   refine ⟨hr.w0,hr.w1,hr.tk,fun _=>hr.cm (by omega),?_,fun h'=>by omega,fun h'=>by omega,fun h'=>by omega,fun h'=>by omega,fun h'=>by omega,fun h'=>by omega,fun h'=>by omega,fun _=>⟨fun c1=>?_,fun c1 c2=>?_,fun c1 c2=>?_⟩,by omega⟩
   ·by_cases c1:(N.pa k).wish=(wn G k).length
    ·exact .inr ⟨rfl,c1⟩
    ·rw [if_neg fun h'=>c1 h'.2]
     rcases hr.hm with h' | h'
     ·exact .inl h'
     ·omega
   ·refine ⟨?_,if_pos ⟨rfl,c1⟩⟩
    show (if _ then (4:Int) else _)=4
    exact if_pos (by omega)
   ·refine ⟨?_,rfl,rfl⟩
    show (if _ then (4:Int) else _)=2
    rw [if_neg (by omega),if_pos c2]
   ·refine ⟨?_,rfl,rfl⟩
    show (if _ then (4:Int) else _)=1
    rw [if_neg (by omega),if_neg c2]
  ·rw [if_neg c,hpl k c,if_neg fun h'=>c h'.1]
   exact h.gr k k0 k1
 ·intro k k0 k1 hk
  by_cases c:k=g
  ·subst c;rw [AD] at hk;omega
  ·rw [hpl k c] at hk;exact h.wk k k0 k1 hk
 ·intro r r0 r1'
  rw [hqu r r0 r1',WY,← List.append_assoc,← h.qu r r0 r1',List.filter_append,E8 (.inl ⟨by omega,by omega⟩)]
  congr 1
  split
  ·rw [List.filter_cons,if_pos (by rw [AD];rfl)]
   rfl
  ·rfl
 ·intro r r0 r1' k hk
  rw [hqu r r0 r1'] at hk
  rcases List.mem_append.1 hk with hk | hk
  ·obtain ⟨a1,a2,a3⟩:=h.ql r r0 r1' k hk
   refine ⟨a1,a2,fun h6=>a3 ?_⟩
   by_cases c:k=g
   ·subst c;rw [AD] at h6;omega
   ·rwa [hpl k c] at h6
  ·split at hk
   ·rw [List.mem_singleton.1 hk]
    exact ⟨g0,g1,fun h6=>by rw [AD] at h6;omega⟩
   ·cases hk
 ·intro r r0 r1' x hx
  obtain ⟨a1,a2,a3,a4,a5⟩:=h.qe r r0 r1' x hx
  have c:x.1≠g:=fun c=>by rw [c] at a3;omega
  rw [hpl _ c,hgu _ a1,if_neg c]
  exact ⟨a1,a2,a3,a4,a5⟩
 ·intro k k0 k1 hk
  by_cases c:k=g
  ·subst c;rw [AD] at hk;omega
  ·rw [hpl k c] at hk
   rw [hgu k k0,if_neg c]
   exact h.qc k k0 k1 hk
 ·intro r r0 r1' k hk
  obtain ⟨a1,a2,a3,a4⟩:=h.oe r r0 r1' k hk
  have c:k≠g:=fun c=>by rw [c] at a3;omega
  rw [hpl k c]
  exact ⟨a1,a2,a3,a4⟩
 ·intro k k0 k1 hk
  by_cases c:k=g
  ·subst c;rw [AD] at hk;omega
  ·rw [hpl k c] at hk
   exact h.oc k k0 k1 hk
 ·intro k hk
  rcases List.mem_append.1 hk with hk | hk
  ·obtain ⟨a1,a2,a3⟩:=h.ue k hk
   have c:k≠g:=fun c=>by rw [c] at a3;omega
   rw [hpl k c]
   exact ⟨a1,a2,a3⟩
  ·rw [List.mem_singleton.1 hk]
   exact ⟨g0,g1,AD⟩
 ·refine List.nodup_append.2 ⟨h.un,by simp,fun a ha b hb=>?_⟩
  rw [List.mem_singleton.1 hb]
  intro c
  have:=(h.ue a ha).2.2
  rw [c] at this
  omega
 ·intro k k0 k1 hk
  by_cases c:k=g
  ·rw [c];simp
  ·rw [hpl k c] at hk
   exact List.mem_append_left _ (h.uc k k0 k1 hk)
def wto (w:Int) (W:List Int) (n:Int):Int:=if n=W.length then 4 else if w=0 then 2 else 1
theorem Rl.after {g:Int} (h:Rl w B G d e N S pl (g::up) fx) (hv:Val w B G) (hd:d<=1):Rl w B G d e (N.next g) S (plu pl g (wto w (wn G g) (N.pa g).wish)) up fx:=by
 obtain ⟨g0,g1,hp⟩:=h.ue g (List.mem_cons_self ..)
 obtain ⟨hnu,hun⟩:=List.nodup_cons.1 h.un
 have hgl:g.toNat<N.parties.length:=by rw [h.np];omega
 have hr:=h.gr g g0 g1
 have hW:(N.pa g).g.wants=wn G g:=h.pw g0 g1
 have h7:=hr.c7 hp
 have hwb:=hr.w1
 have hpa:∀ k:Int,0<=k->(N.next g).pa k=if k=g then N.nx g else N.pa k:=fun k hk=>by
  rw [N.next_pa hgl]
  simp only [Bb hk g0]
 have hbo:∀ r:Int,0<=r->(N.next g).bo r=if ((N.pa g).wish<(wn G g).length/\w=0)/\r=gt (wn G g) (N.pa g).wish then { N.bo r with queue:=(N.bo r).queue++[(g,N.tick)] } else N.bo r:=fun r hr'=>by
  rw [N.next_bo (fun hlt=>?_) (by rw [hW];exact hwb),hW,h.nw]
  ·by_cases c:((N.pa g).wish<(wn G g).length/\w=0)
   ·have hv':=hv.want hr.w0 c.1
    simp only [Bb hr' hv'.1]
    by_cases c2:r=gt (wn G g) (N.pa g).wish
    ·rw [if_pos ⟨c,c2⟩,if_pos ⟨c,c2⟩,← c2]
    ·rw [if_neg fun h'=>c2 h'.2,if_neg fun h'=>c2 h'.2]
   ·rw [if_neg fun h'=>c h'.1,if_neg fun h'=>c h'.1]
  ·rw [hW] at hlt ⊢
   have hv':=hv.want hr.w0 hlt
   rw [h.nr]
   omega
 obtain ⟨n1,n2,n3⟩:=N.next_rest g
 have hnw:(N.nx g).wish=(N.pa g).wish/\(N.nx g).purse=(N.pa g).purse:=by
  unfold Ngt.nx
  split
  ·exact ⟨rfl,rfl⟩
  ·split<;>exact ⟨rfl,rfl⟩
 have hwk:∀ k:Int,0<=k->((N.next g).pa k).wish=(N.pa k).wish:=fun k hk=>by
  rw [hpa k hk]
  by_cases c:k=g
  ·rw [if_pos c,c];exact hnw.1
  ·rw [if_neg c]
 have hpl:∀ k:Int,k≠g->∀ p,plu pl g p k=pl k:=fun k hk p=>Cl hk
 have hto:wto w (wn G g) (N.pa g).wish=4/\(N.pa g).wish=(wn G g).length∨wto w (wn G g) (N.pa g).wish=2/\(N.pa g).wish<(wn G g).length/\w=0∨wto w (wn G g) (N.pa g).wish=1/\(N.pa g).wish<(wn G g).length/\w≠0:=by
  unfold wto
  by_cases c1:(N.pa g).wish=(wn G g).length
  ·rw [if_pos c1];exact .inl ⟨rfl,c1⟩
  ·rw [if_neg c1]
   by_cases c2:w=0
   ·rw [if_pos c2];exact .inr (.inl ⟨rfl,by omega,c2⟩)
   ·rw [if_neg c2];exact .inr (.inr ⟨rfl,by omega,c2⟩)
 have hup:∀ k∈up,k≠g:=fun k hk c=>hnu (c▸hk)
 have harr:∀ r:Int,0<=r->arr w G N (g::up) r=(if ((N.pa g).wish<(wn G g).length/\w=0)/\r=gt (wn G g) (N.pa g).wish then [g] else [])++arr w G (N.next g) up r:=fun r hr'=>by
  unfold arr
  have hf:up.filter (fun k=>decide (((N.next g).pa k).wish<(wn G k).length/\gt (wn G k) ((N.next g).pa k).wish=r))=up.filter fun k=>decide ((N.pa k).wish<(wn G k).length/\gt (wn G k) (N.pa k).wish=r):=by
   apply List.filter_congr
   intro k hk
   rw [hwk k (h.ue k (List.mem_cons_of_mem _ hk)).1]
  by_cases c:w=0
  ·rw [if_pos c,if_pos c,hf,List.filter_cons]
   by_cases c2:(N.pa g).wish<(wn G g).length/\gt (wn G g) (N.pa g).wish=r
   ·rw [if_pos (decide_eq_true c2),if_pos ⟨⟨c2.1,c⟩,c2.2.symm⟩]
    rfl
   ·rw [if_neg (by rw [decide_eq_false c2];simp),if_neg fun h'=>c2 ⟨h'.1.1,h'.2.symm⟩]
    rfl
  ·rw [if_neg c,if_neg c,if_neg fun h'=>c h'.1.2]
   rfl
 have hto6:wto w (wn G g) (N.pa g).wish≠6/\wto w (wn G g) (N.pa g).wish≠7/\wto w (wn G g) (N.pa g).wish≠3:=by omega
 generalize wto w (wn G g) (N.pa g).wish=to at *
 have hqe':∀ r:Int,0<=r->r<B.length->∀ x∈(N.bo r).queue,x.1≠g:=fun r r0 r1 x hx c=>by
  have:=(h.qe r r0 r1 x hx).2.2.1
  rw [c] at this
  omega
 have hboo:∀ r:Int,0<=r->((N.next g).bo r).on=(N.bo r).on/\((N.next g).bo r).ended=(N.bo r).ended/\((N.next g).bo r).begun=(N.bo r).begun/\((N.next g).bo r).b=(N.bo r).b/\((N.next g).bo r).takes=(N.bo r).takes/\((N.next g).bo r).line=(N.bo r).line:=fun r hr'=>by
  rw [hbo r hr']
  split<;>exact ⟨rfl,rfl,rfl,rfl,rfl,rfl⟩
 have hboq:∀ r:Int,0<=r->((N.next g).bo r).queue=(N.bo r).queue++(if ((N.pa g).wish<(wn G g).length/\w=0)/\r=gt (wn G g) (N.pa g).wish then [(g,N.tick)] else []):=fun r hr'=>by
  rw [hbo r hr']
  split
  ·rfl
  ·rw [List.append_nil]
 refine { nw:=by rw [n1];exact h.nw,nb:=by rw [N.next_nb];exact h.nb,ng:=(N.next_stat h.stat g).2,sw:=h.sw,sb:=h.sb,sg:=h.sg,lg:=h.lg,lh:=h.lh,lq:=h.lq,lb:=h.lb,le:=h.le,lt:=h.lt,ll:=h.ll,tk:=by rw [n2];exact h.tk,t0:=by rw [n2];exact h.t0,vs:=by rw [n3];exact h.vs,gr:=?_,wk:=?_,qu:=?_,ql:=?_,qe:=?_,qn:=?_,qc:=?_,oe:=?_,on:=?_,oc:=?_,re:=?_,rb:=?_,rt:=?_,ue:=?_,un:=hun,uc:=?_ }
 ·intro k k0 k1
  rw [hpa k k0,n2]
  by_cases c:k=g
  ·subst c
   rw [if_pos rfl,AD]
   have hw0:=hr.w0
   have hw1:=hr.w1
   have htk:=hr.tk
   have hcm:=hr.cm (by omega)
   have hhm:=hr.hm
   have ht0:=h.t0
   unfold Ngt.nx
   rw [hW,h.nw]
   rcases hto with ⟨e1,e2⟩ | ⟨e1,e2,e3⟩ | ⟨e1,e2,e3⟩
   ·rw [if_pos e2,e1]
    obtain ⟨s1,s2⟩:=h7.1 e2
    exact ⟨hw0,hw1,htk,fun _=>hcm,.inl s2,fun h'=>by omega,fun h'=>by omega,fun h'=>by omega,fun h'=>by omega,fun _=>s1,fun h'=>by omega,fun h'=>by omega,fun h'=>by omega,by omega⟩
   ·rw [if_neg (by omega),if_pos e3,e1]
    obtain ⟨s1,s2,s3⟩:=h7.2.1 e2 e3
    exact ⟨hw0,hw1,htk,fun _=>rfl,by rcases hhm with h' | h';exact .inl h';omega,fun h'=>by omega,fun h'=>by omega,fun _=>⟨s1,s2,e2,by omega,by omega⟩,fun h'=>by omega,fun h'=>by omega,fun h'=>by omega,fun h'=>by omega,fun h'=>by omega,by omega⟩
   ·rw [if_neg (by omega),if_neg e3,e1]
    obtain ⟨s1,s2,s3⟩:=h7.2.2 e2 e3
    refine ⟨hw0,hw1,htk,fun h'=>absurd rfl h',by rcases hhm with h' | h';exact .inl h';omega,fun h'=>by omega,fun _=>⟨s1,s2,e2,?_,e3,by omega,by omega⟩,fun h'=>by omega,fun h'=>by omega,fun h'=>by omega,fun h'=>by omega,fun h'=>by omega,fun h'=>by omega,by omega⟩
    show N.tick+w=_
    rw [s3]
  ·rw [if_neg c,hpl k c]
   exact h.gr k k0 k1
 ·intro k k0 k1 hk
  rw [hpa k k0,n2]
  by_cases c:k=g
  ·subst c
   rw [AD] at hk
   rw [if_pos rfl]
   unfold Ngt.nx
   rw [hW,h.nw,if_neg (by omega),if_neg (by omega)]
   have:=hv.w
   show N.tick+d<=N.tick+w
   omega
  ·rw [hpl k c] at hk
   rw [if_neg c]
   exact h.wk k k0 k1 hk
 ·intro r r0 r1
  have h1:=h.qu r r0 r1
  rw [E8 (.inl ⟨by omega,hto6.1⟩),h1,harr r r0,hboq r r0,List.map_append,List.append_assoc]
  congr 2
  split<;>rfl
 ·intro r r0 r1 k hk
  obtain ⟨a1,a2,a3⟩:=h.ql r r0 r1 k hk
  refine ⟨a1,a2,fun h6=>?_⟩
  rw [hwk k a1]
  refine a3 ?_
  by_cases c:k=g
  ·subst c;rw [AD] at h6;exact absurd h6 hto6.1
  ·rwa [hpl k c] at h6
 ·intro r r0 r1 x hx
  rw [hboq r r0] at hx
  rcases List.mem_append.1 hx with hx | hx
  ·obtain ⟨a1,a2,a3,a4,a5⟩:=h.qe r r0 r1 x hx
   have c:=hqe' r r0 r1 x hx
   rw [hpl _ c,hwk _ a1]
   exact ⟨a1,a2,a3,a4,a5⟩
  ·split at hx
   ·rename_i c
    rw [List.mem_singleton.1 hx]
    have e1:to=2:=by omega
    refine ⟨g0,g1,by rw [AD];exact e1,by rw [hwk g g0];exact c.2.symm,?_⟩
    exact (h7.2.1 c.1.1 c.1.2).2.2.symm
   ·cases hx
 ·intro r r0 r1
  rw [hboq r r0,List.map_append]
  refine List.nodup_append.2 ⟨h.qn r r0 r1,by split<;>simp,fun a ha b hb=>?_⟩
  split at hb
  ·have hb:b=g:=by simpa using hb
   obtain ⟨x,hx,rfl⟩:=List.mem_map.1 ha
   rw [hb]
   exact hqe' r r0 r1 x hx
  ·cases hb
 ·intro k k0 k1 hk
  rw [hwk k k0]
  by_cases c:k=g
  ·subst c
   rw [AD] at hk
   have e2:(N.pa k).wish<(wn G k).length/\w=0:=by omega
   have hv':=hv.want hr.w0 e2.1
   rw [hboq _ hv'.1,if_pos ⟨e2,rfl⟩,(h7.2.1 e2.1 e2.2).2.2]
   simp
  ·rw [hpl k c] at hk
   have hlt:=(h.gr k k0 k1).c2 hk
   have hv':=hv.want (h.gr k k0 k1).w0 hlt.2.2.1
   rw [hboq _ hv'.1]
   exact List.mem_append_left _ (h.qc k k0 k1 hk)
 ·intro r r0 r1 k hk
  rw [(hboo r r0).1] at hk
  obtain ⟨a1,a2,a3,a4⟩:=h.oe r r0 r1 k hk
  have c:k≠g:=fun c=>by rw [c] at a3;omega
  rw [hpl k c,hwk k a1]
  exact ⟨a1,a2,a3,a4⟩
 ·intro r r0 r1
  rw [(hboo r r0).1]
  exact h.on r r0 r1
 ·intro k k0 k1 hk
  by_cases c:k=g
  ·subst c;rw [AD] at hk;exact absurd hk hto6.2.2
  ·rw [hpl k c] at hk
   rw [hwk k k0]
   have h3:=(h.gr k k0 k1).c3 hk
   have hb3:=(h.gr k k0 k1).w1
   have hv':=hv.want (g:=k) (k:=(N.pa k).wish-1) (by omega) (by omega)
   rw [(hboo _ hv'.1).1]
   exact h.oc k k0 k1 hk
 ·intro r r0 r1
  rw [(hboo r r0).2.1,n2]
  exact h.re r r0 r1
 ·intro r r0 r1
  obtain ⟨b1,b2,b3,b4,b5,b6⟩:=hboo r r0
  rw [b1,b3,b4,n2]
  exact h.rb r r0 r1
 ·intro r r0 r1
  obtain ⟨b1,b2,b3,b4,b5,b6⟩:=hboo r r0
  rw [b5,b6]
  exact h.rt r r0 r1
 ·intro k hk
  obtain ⟨a1,a2,a3⟩:=h.ue k (List.mem_cons_of_mem _ hk)
  rw [hpl k (hup k hk)]
  exact ⟨a1,a2,a3⟩
 ·intro k k0 k1 hk
  by_cases c:k=g
  ·subst c;rw [AD] at hk;exact absurd hk hto6.2.1
  ·rw [hpl k c] at hk
   rcases List.mem_cons.1 (h.uc k k0 k1 hk) with c' | h'
   ·exact absurd c' c
   ·exact h'
end
section
variable {w:Int} {B:List BthG} {G:List Grp} {d e:Int} {N:Ngt} {S:Pl} {pl:Int->Int} {up:List Int} {fx:Int}
theorem Rl.take (h:Rl w B G d e N S pl up fx) (out:Int->Bool) {N':Ngt} (e1:N'.walk=N.walk) (e2:N'.tick=N.tick) (e3:N'.visits=N.visits) (e4:N'.parties=N.parties) (e5:N'.rides.map Bth.b=N.rides.map Bth.b)
  (hb:∀ r:Int,0<=r->r<B.length->N'.bo r={ N.bo r with queue:=(N.bo r).queue.filter fun x=>!out x.1 }):
  Rl w B G d e N' S (fun g=>if pl g=2/\out g=true then 6 else pl g) up fx:=by
 have hpa:∀ k,N'.pa k=N.pa k:=fun k=>by unfold Ngt.pa;rw [e4]
 have harr:∀ r,arr w G N' up r=arr w G N up r:=fun r=>by unfold arr;simp only [hpa]
 have hp2:∀ k,pl k≠2->(if pl k=2/\out k=true then 6 else pl k)=pl k:=fun k hk=>if_neg fun h'=>hk h'.1
 have hne6:∀ k,(if pl k=2/\out k=true then 6 else pl k)=6↔pl k=6∨(pl k=2/\out k=true):=fun k=>by
  by_cases c:pl k=2/\out k=true
  ·rw [if_pos c];exact ⟨fun _=>.inr c,fun _=>rfl⟩
  ·rw [if_neg c];exact ⟨.inl,fun h'=>h'.elim id fun h'=>absurd h' c⟩
 have hcases:∀ (k p:Int),p≠6->(if pl k=2/\out k=true then 6 else pl k)=p->pl k=p/\(p=2->out k=false):=fun k p hp hk=>by
  by_cases c:pl k=2/\out k=true
  ·rw [if_pos c] at hk;omega
  ·rw [if_neg c] at hk
   refine ⟨hk,fun h2=>?_⟩
   cases ho:out k with
   | false=>rfl
   | true=>exact absurd ⟨by omega,ho⟩ c
 refine { nw:=by rw [e1];exact h.nw,nb:=by rw [e5];exact h.nb,ng:=by rw [e4];exact h.ng,sw:=h.sw,sb:=h.sb,sg:=h.sg,lg:=h.lg,lh:=h.lh,lq:=h.lq,lb:=h.lb,le:=h.le,lt:=h.lt,ll:=h.ll,tk:=by rw [e2];exact h.tk,t0:=by rw [e2];exact h.t0,vs:=by rw [e3];exact h.vs,gr:=?_,wk:=?_,qu:=?_,ql:=?_,qe:=?_,qn:=?_,qc:=?_,oe:=?_,on:=?_,oc:=?_,re:=?_,rb:=?_,rt:=?_,ue:=?_,un:=h.un,uc:=?_ }
 ·intro k k0 k1
  rw [hpa,e2]
  have hr:=h.gr k k0 k1
  by_cases c:pl k=2/\out k=true
  ·rw [if_pos c]
   have h2:=hr.c2 c.1
   refine ⟨hr.w0,hr.w1,hr.tk,fun _=>hr.cm (by omega),?_,fun h'=>by omega,fun h'=>by omega,fun h'=>by omega,fun h'=>by omega,fun h'=>by omega,fun h'=>by omega,fun _=>h2,fun h'=>by omega,by omega⟩
   rcases hr.hm with h' | h'
   ·exact .inl h'
   ·omega
  ·rw [if_neg c];exact hr
 ·intro k k0 k1 hk
  rw [hpa,e2]
  exact h.wk k k0 k1 (hcases k 1 (by omega) hk).1
 ·intro r r0 r1
  rw [harr,hb r r0 r1]
  have h1:=h.qu r r0 r1
  have e6:(S.qu r).filter (fun g=>decide ((if pl g=2/\out g=true then 6 else pl g)≠6))=((S.qu r).filter fun g=>decide (pl g≠6)).filter fun g=>decide (¬ (pl g=2/\out g=true)):=by
   rw [List.filter_filter]
   apply List.filter_congr
   intro k _
   by_cases c:pl k=2/\out k=true
   ·rw [decide_eq_false (show ¬ (if pl k=2/\out k=true then (6:Int) else pl k)≠6 by rw [if_pos c];simp),decide_eq_false (show ¬ ¬ (pl k=2/\out k=true) from fun h'=>h' c),Bool.false_and]
   ·rw [if_neg c,decide_eq_true c,Bool.true_and]
  rw [e6,h1,List.filter_append]
  congr 1
  ·show _=((N.bo r).queue.filter fun x=>!out x.1).map Prod.fst
   have hq:=h.qe r r0 r1
   generalize (N.bo r).queue=Q at *
   clear h1 e6
   induction Q with
   | nil=>rfl
   | cons x Q ih=>
    have hx:=(hq x (List.mem_cons_self ..)).2.2.1
    have ih:=ih fun y hy=>hq y (List.mem_cons_of_mem _ hy)
    rw [List.map_cons,List.filter_cons,List.filter_cons]
    cases ho:out x.1 with
    | true=>rw [if_neg (by simp [hx]),if_neg (by simp)];exact ih
    | false=>rw [if_pos (by simp),if_pos (by simp),List.map_cons,ih]
  ·rw [List.filter_eq_self]
   intro k hk
   refine decide_eq_true fun c=>?_
   unfold arr at hk
   split at hk
   ·have:=(h.ue k (List.mem_filter.1 hk).1).2.2
    omega
   ·cases hk
 ·intro r r0 r1 k hk
  obtain ⟨a1,a2,a3⟩:=h.ql r r0 r1 k hk
  refine ⟨a1,a2,fun h6=>?_⟩
  rw [hpa]
  rcases (hne6 k).1 h6 with h' | h'
  ·exact a3 h'
  ·have hm:k∈(S.qu r).filter fun g=>decide (pl g≠6):=List.mem_filter.2 ⟨hk,decide_eq_true (by omega)⟩
   rw [h.qu r r0 r1] at hm
   rcases List.mem_append.1 hm with hm | hm
   ·obtain ⟨x,hx,rfl⟩:=List.mem_map.1 hm
    exact (h.qe r r0 r1 x hx).2.2.2.1
   ·unfold arr at hm
    split at hm
    ·have:=(h.ue k (List.mem_filter.1 hm).1).2.2
     omega
    ·cases hm
 ·intro r r0 r1 x hx
  rw [hb r r0 r1] at hx
  obtain ⟨hx1,hx2⟩:=List.mem_filter.1 hx
  obtain ⟨a1,a2,a3,a4,a5⟩:=h.qe r r0 r1 x hx1
  rw [hpa,if_neg fun h'=>by rw [h'.2] at hx2;cases hx2]
  exact ⟨a1,a2,a3,a4,a5⟩
 ·intro r r0 r1
  rw [hb r r0 r1]
  exact (h.qn r r0 r1).sublist (List.Sublist.map _ List.filter_sublist)
 ·intro k k0 k1 hk
  obtain ⟨h2,h3⟩:=hcases k 2 (by omega) hk
  have hr:=h.gr k k0 k1
  have hm:=h.qc k k0 k1 h2
  rw [hpa]
  by_cases hrr:0<=gt (wn G k) (N.pa k).wish/\gt (wn G k) (N.pa k).wish<B.length
  ·rw [hb _ hrr.1 hrr.2]
   exact List.mem_filter.2 ⟨hm,by show (!out k)=true;rw [h3 rfl];rfl⟩
  ·exfalso
   by_cases hneg:0<=gt (wn G k) (N.pa k).wish
   ·have:N.bo (gt (wn G k) (N.pa k).wish)=Bth.d:=by
     unfold Ngt.bo
     have:=h.nr
     simp [List.getD,show ¬ (gt (wn G k) (N.pa k).wish).toNat<N.rides.length by omega]
    rw [this] at hm
    cases hm
   ·have hb0:N.bo (gt (wn G k) (N.pa k).wish)=N.bo 0:=by
     unfold Ngt.bo
     rw [show (gt (wn G k) (N.pa k).wish).toNat=(0:Int).toNat by omega]
    rw [hb0] at hm
    by_cases hm0:0<B.length
    ·have:=(h.qe 0 (by omega) (by omega) _ hm).2.2.2.1
     simp only at this
     omega
    ·have:N.bo 0=Bth.d:=by
      unfold Ngt.bo
      have:=h.nr
      simp [List.getD,show ¬ 0<N.rides.length by omega]
     rw [this] at hm
     cases hm
 ·intro r r0 r1 k hk
  rw [hb r r0 r1] at hk
  obtain ⟨a1,a2,a3,a4⟩:=h.oe r r0 r1 k hk
  rw [hpa,hp2 k (by omega)]
  exact ⟨a1,a2,a3,a4⟩
 ·intro r r0 r1
  rw [hb r r0 r1]
  exact h.on r r0 r1
 ·intro k k0 k1 hk
  obtain ⟨h2,_⟩:=hcases k 3 (by omega) hk
  have hm:=h.oc k k0 k1 h2
  rw [hpa]
  by_cases hrr:0<=gt (wn G k) ((N.pa k).wish-1)/\gt (wn G k) ((N.pa k).wish-1)<B.length
  ·rw [hb _ hrr.1 hrr.2]
   exact hm
  ·exfalso
   by_cases hneg:0<=gt (wn G k) ((N.pa k).wish-1)
   ·have:N.bo (gt (wn G k) ((N.pa k).wish-1))=Bth.d:=by
     unfold Ngt.bo
     have:=h.nr
     simp [List.getD,show ¬ (gt (wn G k) ((N.pa k).wish-1)).toNat<N.rides.length by omega]
    rw [this] at hm
    cases hm
   ·have hb0:N.bo (gt (wn G k) ((N.pa k).wish-1))=N.bo 0:=by
     unfold Ngt.bo
     rw [show (gt (wn G k) ((N.pa k).wish-1)).toNat=(0:Int).toNat by omega]
    rw [hb0] at hm
    by_cases hm0:0<B.length
    ·have:=(h.oe 0 (by omega) (by omega) _ hm).2.2.2
     omega
    ·have:N.bo 0=Bth.d:=by
      unfold Ngt.bo
      have:=h.nr
      simp [List.getD,show ¬ 0<N.rides.length by omega]
     rw [this] at hm
     cases hm
 ·intro r r0 r1
  rw [hb r r0 r1,e2]
  exact h.re r r0 r1
 ·intro r r0 r1
  rw [hb r r0 r1,e2]
  exact h.rb r r0 r1
 ·intro r r0 r1
  rw [hb r r0 r1]
  exact h.rt r r0 r1
 ·intro k hk
  obtain ⟨a1,a2,a3⟩:=h.ue k hk
  rw [hp2 k (by omega)]
  exact ⟨a1,a2,a3⟩
 ·intro k k0 k1 hk
  exact h.uc k k0 k1 (hcases k 7 (by omega) hk).1
theorem Pl.unq_eq (S:Pl) (g:Int) (b:Bool):S.unq g b={ S with
  queues:=S.queues.set (gt (S.gr g).wants (S.gu g).want).toNat ((S.qu (gt (S.gr g).wants (S.gu g).want)).filter fun k=>decide (k≠g)),
  visits:=S.visits++[(g,(S.gu g).want,gt (S.gr g).wants (S.gu g).want,b,(S.gu g).since,S.now)] }:=rfl
theorem Rl.leaves (h:Rl w B G d e N S pl up fx) (hv:Val w B G) {g:Int} (g0:0<=g) (g1:g<G.length) (hp:pl g=6) (b:Bool):Rl w B G d e (N.done (g,(S.gu g).since) b) (S.unq g b) (plu pl g 5) up fx:=by
 have hr:=h.gr g g0 g1
 obtain ⟨h6,h6w,h6l,h6s,h6t⟩:=hr.c6 hp
 have hW:(S.gr g).wants=wn G g:=h.sgw g
 have hW2:(N.pa g).g.wants=wn G g:=h.pw g0 g1
 have hgl:g.toNat<N.parties.length:=by rw [h.np];omega
 have hvw:=hv.want hr.w0 h6l
 have hpa:∀ k:Int,0<=k->(N.done (g,(S.gu g).since) b).pa k=if k=g then { N.pa g with wish:=(N.pa g).wish+1 } else N.pa k:=fun k hk=>by
  unfold Ngt.done
  rw [Ngt.pa_setP (by exact hgl)]
  simp only [Bb hk g0]
  rfl
 have hbo:∀ r,(N.done (g,(S.gu g).since) b).bo r=N.bo r:=fun r=>rfl
 have hpl:∀ k:Int,k≠g->plu pl g 5 k=pl k:=fun k hk=>Cl hk
 have hup:∀ k∈up,k≠g:=fun k hk c=>by have:=(h.ue k hk).2.2;rw [c] at this;omega
 have hpk:∀ k:Int,0<=k->k≠g->(N.done (g,(S.gu g).since) b).pa k=N.pa k:=fun k hk c=>by rw [hpa k hk,if_neg c]
 have harr:∀ r,arr w G (N.done (g,(S.gu g).since) b) up r=arr w G N up r:=fun r=>by
  unfold arr
  split
  ·apply List.filter_congr
   intro k hk
   rw [hpk k (h.ue k hk).1 (hup k hk)]
  ·rfl
 have hqu:∀ r:Int,0<=r->(S.unq g b).qu r=if r=gt (wn G g) (N.pa g).wish then (S.qu r).filter (fun k=>decide (k≠g)) else S.qu r:=fun r r0=>by
  rw [S.unq_eq]
  show (S.queues.set _ _).getD r.toNat []=_
  rw [hW,h6w,BF (by rw [h.lq];omega)]
  simp only [Bb r0 hvw.1]
  by_cases c:r=gt (wn G g) (N.pa g).wish
  ·rw [if_pos c,if_pos c,← c]
  ·rw [if_neg c,if_neg c]
   rfl
 refine { nw:=h.nw,nb:=h.nb,ng:=(Ngt.done_stat h.stat _ _).2,sw:=h.sw,sb:=h.sb,sg:=h.sg,lg:=h.lg,lh:=h.lh,lq:=by rw [S.unq_eq];show (S.queues.set _ _).length=_;rw [List.length_set];exact h.lq,lb:=h.lb,le:=h.le,lt:=h.lt,ll:=h.ll,tk:=h.tk,t0:=h.t0,vs:=?_,gr:=?_,wk:=?_,qu:=?_,ql:=?_,qe:=?_,qn:=h.qn,qc:=?_,oe:=?_,on:=h.on,oc:=?_,re:=h.re,rb:=h.rb,rt:=h.rt,ue:=?_,un:=h.un,uc:=?_ }
 ·show S.visits++_=N.visits++_
  rw [h.vs,hW,hW2,h6w,h.tk]
 ·intro k k0 k1
  show RG w N.tick (wn G k) _ (S.gu k) (gt S.homes k) _
  rw [hpa k k0]
  by_cases c:k=g
  ·subst c
   rw [if_pos rfl,AD]
   have hw0:=hr.w0
   refine ⟨by show 0<=(N.pa k).wish+1;omega,by show (N.pa k).wish+1<=_;omega,hr.tk,fun _=>hr.cm (by omega),?_,fun h'=>by omega,fun h'=>by omega,fun h'=>by omega,fun h'=>by omega,fun h'=>by omega,fun _=>by show (S.gu k).want+1=(N.pa k).wish+1;omega,fun h'=>by omega,fun h'=>by omega,by omega⟩
   rcases hr.hm with h' | h'
   ·exact .inl h'
   ·omega
  ·rw [if_neg c,hpl k c]
   exact h.gr k k0 k1
 ·intro k k0 k1 hk
  by_cases c:k=g
  ·subst c;rw [AD] at hk;omega
  ·rw [hpl k c] at hk
   rw [hpk k k0 c]
   exact h.wk k k0 k1 hk
 ·intro r r0 r1
  rw [harr,hbo,hqu r r0,← h.qu r r0 r1]
  by_cases c:r=gt (wn G g) (N.pa g).wish
  ·rw [if_pos c,E8 (.inr (by simp)),List.filter_filter]
   apply List.filter_congr
   intro k _
   by_cases c2:k=g
   ·rw [c2,decide_eq_false (show ¬ pl g≠6 from fun h'=>h' hp),Bool.false_and]
   ·rw [decide_eq_true c2,Bool.and_true]
  ·rw [if_neg c,E8 (.inr fun hm=>c ((h.ql r r0 r1 g hm).2.2 hp).symm)]
 ·intro r r0 r1 k hk
  have hk':k∈S.qu r:=by
   rw [hqu r r0] at hk
   split at hk
   ·exact (List.mem_filter.1 hk).1
   ·exact hk
  obtain ⟨a1,a2,a3⟩:=h.ql r r0 r1 k hk'
  refine ⟨a1,a2,fun h6=>?_⟩
  by_cases c:k=g
  ·subst c;rw [AD] at h6;omega
  ·rw [hpl k c] at h6
   rw [hpk k a1 c]
   exact a3 h6
 ·intro r r0 r1 x hx
  obtain ⟨a1,a2,a3,a4,a5⟩:=h.qe r r0 r1 x hx
  have c:x.1≠g:=fun c=>by rw [c] at a3;omega
  rw [hpl _ c,hpk _ a1 c]
  exact ⟨a1,a2,a3,a4,a5⟩
 ·intro k k0 k1 hk
  by_cases c:k=g
  ·subst c;rw [AD] at hk;omega
  ·rw [hpl k c] at hk
   rw [hpk k k0 c]
   exact h.qc k k0 k1 hk
 ·intro r r0 r1 k hk
  obtain ⟨a1,a2,a3,a4⟩:=h.oe r r0 r1 k hk
  have c:k≠g:=fun c=>by rw [c] at a3;omega
  rw [hpl k c,hpk k a1 c]
  exact ⟨a1,a2,a3,a4⟩
 ·intro k k0 k1 hk
  by_cases c:k=g
  ·subst c;rw [AD] at hk;omega
  ·rw [hpl k c] at hk
   rw [hpk k k0 c]
   exact h.oc k k0 k1 hk
 ·intro k hk
  obtain ⟨a1,a2,a3⟩:=h.ue k hk
  rw [hpl k (hup k hk)]
  exact ⟨a1,a2,a3⟩
 ·intro k k0 k1 hk
  by_cases c:k=g
  ·subst c;rw [AD] at hk;omega
  ·rw [hpl k c] at hk
   exact h.uc k k0 k1 hk
theorem Rl.stands (h:Rl w B G d e N S pl [] fx) (hv:Val w B G) {g:Int} (g0:0<=g) (g1:g<G.length) (hp:pl g=1):Rl w B G d e (N.arrive g) (S.stand g) (plu pl g 2) [] fx:=by
 have hr:=h.gr g g0 g1
 obtain ⟨h1s,h1w,h1l,h1c,h1z,h1a,h1b⟩:=hr.c1 hp
 have hW:(S.gr g).wants=wn G g:=h.sgw g
 have hW2:(N.pa g).g.wants=wn G g:=h.pw g0 g1
 have hgl:g.toNat<N.parties.length:=by rw [h.np];omega
 have hgl2:g.toNat<S.guests.length:=by rw [h.lg];omega
 have hvw:=hv.want hr.w0 h1l
 have hpa:∀ k:Int,0<=k->(N.arrive g).pa k=if k=g then { N.pa g with comes:=-1 } else N.pa k:=fun k hk=>by
  unfold Ngt.arrive
  show (N.setP g _).pa k=_
  rw [Ngt.pa_setP hgl]
  simp only [Bb hk g0]
 have hbo:∀ r:Int,0<=r->(N.arrive g).bo r=if r=gt (wn G g) (N.pa g).wish then { N.bo r with queue:=(N.bo r).queue++[(g,N.tick)] } else N.bo r:=fun r r0=>by
  unfold Ngt.arrive
  rw [Ngt.bo_setR (by show _<N.rides.length;rw [hW2,h.nr];omega),hW2]
  simp only [Bb r0 hvw.1]
  by_cases c:r=gt (wn G g) (N.pa g).wish
  ·rw [if_pos c,if_pos c,← c]
  ·rw [if_neg c,if_neg c]
   rfl
 have hgu:∀ k:Int,0<=k->(S.stand g).gu k=if k=g then { S.gu g with st:=2,since:=S.now } else S.gu k:=fun k hk=>by
  show (S.setG g _).gu k=_
  rw [Pl.gu_setG hgl2]
  simp only [Bb hk g0]
 have hqu:∀ r:Int,0<=r->(S.stand g).qu r=S.qu r++(if r=gt (wn G g) (N.pa g).wish then [g] else []):=fun r r0=>by
  show (S.queues.set _ _).getD r.toNat []=_
  rw [hW,h1w,BF (by rw [h.lq];omega)]
  simp only [Bb r0 hvw.1]
  by_cases c:r=gt (wn G g) (N.pa g).wish
  ·rw [if_pos c,if_pos c,← c]
  ·rw [if_neg c,if_neg c,List.append_nil]
   rfl
 have hpl:∀ k:Int,k≠g->plu pl g 2 k=pl k:=fun k hk=>Cl hk
 have hpk:∀ k:Int,0<=k->k≠g->(N.arrive g).pa k=N.pa k:=fun k hk c=>by rw [hpa k hk,if_neg c]
 have hwk:∀ k:Int,0<=k->((N.arrive g).pa k).wish=(N.pa k).wish:=fun k hk=>by
  rw [hpa k hk]
  by_cases c:k=g
  ·rw [if_pos c,c]
  ·rw [if_neg c]
 have harr:∀ M r,arr w G M [] r=[]:=fun M r=>by unfold arr;split<;>rfl
 have hboo:∀ r:Int,0<=r->((N.arrive g).bo r).on=(N.bo r).on/\((N.arrive g).bo r).ended=(N.bo r).ended/\((N.arrive g).bo r).begun=(N.bo r).begun/\((N.arrive g).bo r).b=(N.bo r).b/\((N.arrive g).bo r).takes=(N.bo r).takes/\((N.arrive g).bo r).line=(N.bo r).line:=fun r hr'=>by
  rw [hbo r hr']
  split<;>exact ⟨rfl,rfl,rfl,rfl,rfl,rfl⟩
 have hboq:∀ r:Int,0<=r->((N.arrive g).bo r).queue=(N.bo r).queue++(if r=gt (wn G g) (N.pa g).wish then [(g,N.tick)] else []):=fun r hr'=>by
  rw [hbo r hr']
  split
  ·rfl
  ·rw [List.append_nil]
 refine { nw:=h.nw,nb:=by rw [N.arrive_nb];exact h.nb,ng:=(N.arrive_stat h.stat g).2,sw:=h.sw,sb:=h.sb,sg:=h.sg,lg:=by show (S.guests.set _ _).length=_;rw [List.length_set];exact h.lg,lh:=h.lh,lq:=by show (S.queues.set _ _).length=_;rw [List.length_set];exact h.lq,lb:=h.lb,le:=h.le,lt:=h.lt,ll:=h.ll,tk:=h.tk,t0:=h.t0,vs:=h.vs,gr:=?_,wk:=?_,qu:=?_,ql:=?_,qe:=?_,qn:=?_,qc:=?_,oe:=?_,on:=?_,oc:=?_,re:=?_,rb:=?_,rt:=?_,ue:=fun k hk=>(by cases hk),un:=List.nodup_nil,uc:=?_ }
 ·intro k k0 k1
  show RG w N.tick (wn G k) _ _ (gt S.homes k) _
  rw [hpa k k0,hgu k k0]
  by_cases c:k=g
  ·subst c
   rw [if_pos rfl,if_pos rfl,AD]
   have ht0:=h.t0
   have htk:=h.tk
   refine ⟨hr.w0,hr.w1,hr.tk,fun _=>rfl,?_,fun h'=>by omega,fun h'=>by omega,fun _=>⟨rfl,h1w,h1l,?_,?_⟩,fun h'=>by omega,fun h'=>by omega,fun h'=>by omega,fun h'=>by omega,fun h'=>by omega,by omega⟩
   ·rcases hr.hm with h' | h'
    ·exact .inl h'
    ·omega
   ·show 0<=S.now
    omega
   ·show S.now<=N.tick
    omega
  ·rw [if_neg c,if_neg c,hpl k c]
   exact h.gr k k0 k1
 ·intro k k0 k1 hk
  by_cases c:k=g
  ·subst c;rw [AD] at hk;omega
  ·rw [hpl k c] at hk
   rw [hpk k k0 c]
   exact h.wk k k0 k1 hk
 ·intro r r0 r1
  have h1:=h.qu r r0 r1
  rw [harr,List.append_nil] at h1
  rw [harr,List.append_nil,hqu r r0,hboq r r0,List.map_append,List.filter_append,E8 (.inl ⟨by omega,by omega⟩),h1]
  congr 1
  split
  ·rw [List.filter_cons,if_pos (by rw [AD];rfl)]
   rfl
  ·rfl
 ·intro r r0 r1 k hk
  rw [hqu r r0] at hk
  rcases List.mem_append.1 hk with hk | hk
  ·obtain ⟨a1,a2,a3⟩:=h.ql r r0 r1 k hk
   refine ⟨a1,a2,fun h6=>?_⟩
   rw [hwk k a1]
   refine a3 ?_
   by_cases c:k=g
   ·subst c;rw [AD] at h6;omega
   ·rwa [hpl k c] at h6
  ·split at hk
   ·rw [List.mem_singleton.1 hk]
    exact ⟨g0,g1,fun h6=>by rw [AD] at h6;omega⟩
   ·cases hk
 ·intro r r0 r1 x hx
  rw [hboq r r0] at hx
  rcases List.mem_append.1 hx with hx | hx
  ·obtain ⟨a1,a2,a3,a4,a5⟩:=h.qe r r0 r1 x hx
   have c:x.1≠g:=fun c=>by rw [c] at a3;omega
   rw [hpl _ c,hwk _ a1,hgu _ a1,if_neg c]
   exact ⟨a1,a2,a3,a4,a5⟩
  ·split at hx
   ·rename_i c
    rw [List.mem_singleton.1 hx]
    refine ⟨g0,g1,AD,by rw [hwk g g0];exact c.symm,?_⟩
    show N.tick=_
    rw [hgu g g0,if_pos rfl]
    exact h.tk.symm
   ·cases hx
 ·intro r r0 r1
  rw [hboq r r0,List.map_append]
  refine List.nodup_append.2 ⟨h.qn r r0 r1,by split<;>simp,fun a ha b hb=>?_⟩
  split at hb
  ·have hb:b=g:=by simpa using hb
   obtain ⟨x,hx,rfl⟩:=List.mem_map.1 ha
   rw [hb]
   intro c
   have:=(h.qe r r0 r1 x hx).2.2.1
   rw [c] at this
   omega
  ·cases hb
 ·intro k k0 k1 hk
  rw [hwk k k0,hgu k k0]
  by_cases c:k=g
  ·subst c
   rw [hboq _ hvw.1,if_pos rfl,if_pos rfl]
   show (k,S.now)∈_
   rw [h.tk]
   simp
  ·rw [hpl k c] at hk
   have hlt:=(h.gr k k0 k1).c2 hk
   have hv':=hv.want (h.gr k k0 k1).w0 hlt.2.2.1
   rw [if_neg c,hboq _ hv'.1]
   exact List.mem_append_left _ (h.qc k k0 k1 hk)
 ·intro r r0 r1 k hk
  rw [(hboo r r0).1] at hk
  obtain ⟨a1,a2,a3,a4⟩:=h.oe r r0 r1 k hk
  have c:k≠g:=fun c=>by rw [c] at a3;omega
  rw [hpl k c,hwk k a1]
  exact ⟨a1,a2,a3,a4⟩
 ·intro r r0 r1
  rw [(hboo r r0).1]
  exact h.on r r0 r1
 ·intro k k0 k1 hk
  by_cases c:k=g
  ·subst c;rw [AD] at hk;omega
  ·rw [hpl k c] at hk
   rw [hwk k k0]
   have h3:=(h.gr k k0 k1).c3 hk
   have hb3:=(h.gr k k0 k1).w1
   have hv':=hv.want (g:=k) (k:=(N.pa k).wish-1) (by omega) (by omega)
   rw [(hboo _ hv'.1).1]
   exact h.oc k k0 k1 hk
 ·intro r r0 r1
  rw [(hboo r r0).2.1]
  exact h.re r r0 r1
 ·intro r r0 r1
  obtain ⟨b1,b2,b3,b4,b5,b6⟩:=hboo r r0
  rw [b1,b3,b4]
  exact h.rb r r0 r1
 ·intro r r0 r1
  obtain ⟨b1,b2,b3,b4,b5,b6⟩:=hboo r r0
  rw [b5,b6]
  exact h.rt r r0 r1
 ·intro k k0 k1 hk
  by_cases c:k=g
  ·subst c;rw [AD] at hk;omega
  ·rw [hpl k c] at hk
   exact h.uc k k0 k1 hk
end
def Ngt.takesL (N:Ngt):List Int:=N.rides.map Bth.takes
def Ngt.purseL (N:Ngt):List Int:=N.parties.map Pty.purse
def Ngt.wishL (N:Ngt):List Int:=N.parties.map Pty.wish
theorem Ngt.bo_takes (N:Ngt) (r:Int):(N.bo r).takes=gt N.takesL r:=by
 unfold Ngt.bo gt Ngt.takesL
 by_cases h:r.toNat<N.rides.length
 ·simp [List.getD,h]
 ·simp [List.getD,h,Bth.d]
theorem Ngt.pa_purse (N:Ngt) (g:Int):(N.pa g).purse=gt N.purseL g:=by
 unfold Ngt.pa gt Ngt.purseL
 by_cases h:g.toNat<N.parties.length
 ·simp [List.getD,h]
 ·simp [List.getD,h,Pty.d]
theorem Ngt.pa_wish (N:Ngt) (g:Int):(N.pa g).wish=gt N.wishL g:=by
 unfold Ngt.pa gt Ngt.wishL
 by_cases h:g.toNat<N.parties.length
 ·simp [List.getD,h]
 ·simp [List.getD,h,Pty.d]
structure Mo (G:List Grp) (N:Ngt):Prop where
 lp:N.parties.length=G.length
 mt:CO N.takesL+CO N.purseL=CO (G.map Grp.tokens)
 tp:∀ x∈N.takesL,0<=x
 pp:∀ x∈N.purseL,0<=x
 vl:(N.visits.length:Int)=CO N.wishL
 vk:∀ v∈N.visits,0<=v.1/\v.1<G.length/\0<=v.2.1/\v.2.1<gt N.wishL v.1/\0<=v.left/\v.left<=N.tick
 vu:N.visits.Pairwise fun a b=>¬ (a.1=b.1/\a.2.1=b.2.1)
theorem Mo.keep {G:List Grp} {N N':Ngt} (h:Mo G N) (e0:N'.parties.length=N.parties.length) (e1:N'.takesL=N.takesL) (e2:N'.purseL=N.purseL) (e3:N'.wishL=N.wishL) (e4:N'.visits=N.visits) (e5:N.tick<=N'.tick):Mo G N':=
 ⟨by rw [e0];exact h.lp,by rw [e1,e2];exact h.mt,by rw [e1];exact h.tp,by rw [e2];exact h.pp,by rw [e3,e4];exact h.vl,by
  rw [e3,e4]
  intro v hv
  obtain ⟨a1,a2,a3,a4,a5,a6⟩:=h.vk v hv
  exact ⟨a1,a2,a3,a4,a5,by omega⟩,by rw [e4];exact h.vu⟩
theorem I4 {α β:Type} {f:α->β} {xs:List α} {i:Nat} {x d:α} (h:f x=f (xs.getD i d)):(xs.set i x).map f=xs.map f:=by
 apply List.ext_getElem
 ·simp
 ·intro k h1 h2
  simp only [List.getElem_map,List.getElem_set]
  split
  ·rename_i e
   subst e
   rw [h]
   simp only [List.length_map] at h2
   simp [List.getD,h2]
  ·rfl
theorem Ngt.setP_purseL {N:Ngt} {g:Int} {p:Pty} (h:p.purse=(N.pa g).purse):(N.setP g p).purseL=N.purseL:=I4 (d:=Pty.d) h
theorem Ngt.setP_wishL {N:Ngt} {g:Int} {p:Pty} (h:p.wish=(N.pa g).wish):(N.setP g p).wishL=N.wishL:=I4 (d:=Pty.d) h
theorem Ngt.setR_takesL {N:Ngt} {i:Int} {r:Bth} (h:r.takes=(N.bo i).takes):(N.setR i r).takesL=N.takesL:=I4 (d:=Bth.d) h
theorem Mo.arrive {G:List Grp} {N:Ngt} (h:Mo G N) (g:Int):Mo G (N.arrive g):=by
 refine h.keep (List.length_set ..) ?_ ?_ ?_ rfl (Int.le_refl _)
 ·exact Ngt.setR_takesL (N:=N.setP g _) rfl
 ·exact Ngt.setP_purseL rfl
 ·exact Ngt.setP_wishL rfl
theorem Mo.next {G:List Grp} {N:Ngt} (h:Mo G N) (g:Int):Mo G (N.next g):=by
 unfold Ngt.next
 split
 ·exact h.keep (List.length_set ..) rfl (Ngt.setP_purseL rfl) (Ngt.setP_wishL rfl) rfl (Int.le_refl _)
 ·split
  ·exact h.arrive g
  ·exact h.keep (List.length_set ..) rfl (Ngt.setP_purseL rfl) (Ngt.setP_wishL rfl) rfl (Int.le_refl _)
theorem Mo.done {G:List Grp} {N:Ngt} (h:Mo G N) (ht:0<=N.tick) {g c:Int} (g0:0<=g) (g1:g<G.length) (b:Bool) (hw:0<=(N.pa g).wish):Mo G (N.done (g,c) b):=by
 have hl:g.toNat<N.wishL.length:=by unfold Ngt.wishL;rw [List.length_map,h.lp];omega
 have ew:(N.done (g,c) b).wishL=N.wishL.set g.toNat (gt N.wishL g+1):=by
  rw [← N.pa_wish]
  unfold Ngt.wishL Ngt.done Ngt.setP Ngt.setV
  simp only
  rw [List.map_set]
 have gw:∀ k:Int,0<=k->gt (N.done (g,c) b).wishL k=if k=g then gt N.wishL g+1 else gt N.wishL k:=fun k hk=>by
  rw [ew]
  unfold gt
  rw [BF hl]
  simp only [Bb hk g0]
 refine ⟨(List.length_set ..).trans h.lp,?_,h.tp,?_,?_,?_,?_⟩
 ·have e2:(N.done (g,c) b).purseL=N.purseL:=Ngt.setP_purseL (N:=N.setV _) rfl
  rw [e2]
  exact h.mt
 ·have e2:(N.done (g,c) b).purseL=N.purseL:=Ngt.setP_purseL (N:=N.setV _) rfl
  rw [e2]
  exact h.pp
 ·rw [ew,OO g0 (by omega)]
  show ((N.visits++[_]).length:Int)=_
  have:=h.vl
  rw [List.length_append]
  simp only [List.length_cons,List.length_nil]
  omega
 ·intro v hv
  have hv:v∈N.visits++[(g,(N.pa g).wish,gt (N.pa g).g.wants (N.pa g).wish,b,c,N.tick)]:=hv
  show _/\_/\_/\_/\_/\v.left<=N.tick
  rcases List.mem_append.1 hv with hv | hv
  ·obtain ⟨a1,a2,a3,a4,a5,a6⟩:=h.vk v hv
   refine ⟨a1,a2,a3,?_,a5,a6⟩
   rw [gw _ a1]
   split
   ·rename_i e;rw [e] at a4;omega
   ·exact a4
  ·rw [List.mem_singleton.1 hv]
   refine ⟨g0,g1,hw,?_,ht,Int.le_refl _⟩
   show (N.pa g).wish<gt _ g
   rw [gw g g0,if_pos rfl,N.pa_wish]
   omega
 ·show (N.visits++[_]).Pairwise _
  refine List.pairwise_append.2 ⟨h.vu,List.pairwise_singleton ..,fun a ha x hx=>?_⟩
  rw [List.mem_singleton.1 hx]
  obtain ⟨a1,a2,a3,a4,a5,a6⟩:=h.vk a ha
  rintro ⟨e1,e2⟩
  have e1:a.1=g:=e1
  have e2:a.2.1=(N.pa g).wish:=e2
  rw [e1,← N.pa_wish] at a4
  omega
theorem Kw {xs:List Int} (h:∀ x∈xs,0<=x):0<=CO xs:=by
 induction xs with
 | nil=>simp [CO]
 | cons x xs ih=>
  have:=ih fun y hy=>h y (List.mem_cons_of_mem _ hy)
  have:=h x (List.mem_cons_self ..)
  simp only [CO]
  omega
theorem Ty {xs:List Int} (h:∀ x∈xs,0<=x) {y:Int} (hy:y∈xs):y<=CO xs:=by
 induction xs with
 | nil=>cases hy
 | cons x xs ih=>
  have h1:=Kw fun z hz=>h z (List.mem_cons_of_mem _ hz)
  have h2:=h x (List.mem_cons_self ..)
  simp only [CO]
  rcases List.mem_cons.1 hy with rfl | hy
  ·omega
  ·have:=ih (fun z hz=>h z (List.mem_cons_of_mem _ hz)) hy
   omega
theorem OT {xs:List Int} (i:Int):gt xs i∈xs∨gt xs i=0:=by
 by_cases h:i.toNat<xs.length
 ·rw [Ro h];exact .inl (List.getElem_mem h)
 ·right;simp [gt,List.getD,h]
section
variable {w:Int} {B:List BthG} {G:List Grp} {d e:Int} {N:Ngt} {S:Pl} {pl:Int->Int} {up:List Int} {fx:Int}
theorem Mo.tokens (h:Mo G N) (hv:Val w B G):0<=CO N.takesL/\CO N.takesL<=600000/\0<=CO N.purseL/\CO N.purseL<=600000:=by
 have h1:=Kw h.tp
 have h2:=Kw h.pp
 have h3:=SE (xs:=G.map Grp.tokens) (m:=10000) (fun x hx=>by
  obtain ⟨g,hg,rfl⟩:=List.mem_map.1 hx
  exact (hv.g g hg).2.2.1)
 rw [List.length_map] at h3
 have:=h.mt
 have:=hv.n
 omega
theorem Mo.take (h:Mo G N) (hv:Val w B G) (r:Int):0<=(N.bo r).takes/\(N.bo r).takes<=600000:=by
 rw [N.bo_takes]
 have:=h.tokens hv
 rcases OT (xs:=N.takesL) r with hm | hm
 ·have:=Ty h.tp hm
  have:=h.tp _ hm
  omega
 ·omega
theorem Mo.purse (h:Mo G N) (hv:Val w B G) (g:Int):0<=(N.pa g).purse/\(N.pa g).purse<=600000:=by
 rw [N.pa_purse]
 have:=h.tokens hv
 rcases OT (xs:=N.purseL) g with hm | hm
 ·have:=Ty h.pp hm
  have:=h.pp _ hm
  omega
 ·omega
theorem Val.wlen (hv:Val w B G) (g:Int):(wn G g).length<=10:=by
 unfold wn
 by_cases hg:g.toNat<G.length
 ·have e2:G.getD g.toNat Grp.d=G[g.toNat]:=by simp [List.getD,hg]
  rw [e2]
  exact (hv.g _ (List.getElem_mem hg)).2.2.2.1
 ·have e2:G.getD g.toNat Grp.d=Grp.d:=by simp [List.getD,hg]
  rw [e2]
  exact Nat.zero_le _
theorem Rl.vlen (h:Rl w B G d e N S pl up fx) (hv:Val w B G) (m:Mo G N):N.visits.length<=600:=by
 have h3:=SE (xs:=N.wishL) (m:=10) (fun x hx=>by
  obtain ⟨p,hp,rfl⟩:=List.mem_map.1 hx
  obtain ⟨i,hi,rfl⟩:=List.getElem_of_mem hp
  have hi':i<G.length:=by rw [← h.np];exact hi
  have hr:=h.gr i (by omega) (by omega)
  have e1:N.pa i=N.parties[i]:=by simp [Ngt.pa,List.getD,hi]
  rw [e1] at hr
  have:=hr.w0
  have:=hr.w1
  have:=hv.wlen i
  omega)
 have e:N.wishL.length=G.length:=by unfold Ngt.wishL;rw [List.length_map,h.np]
 have:=m.vl
 have:=hv.n
 rw [e] at h3
 omega
theorem Mo.visOK (m:Mo G N) (h:Rl w B G d e N S pl up fx) (hv:Val w B G) (ht:N.tick<=5000):Yu N.visits:=by
 refine ⟨by have:=h.vlen hv m;omega,fun v hm=>?_,fun x hx y hy e1 e2=>?_⟩
 ·obtain ⟨a1,a2,a3,a4,a5,a6⟩:=m.vk v hm
  have hr:=h.gr v.1 a1 a2
  have:=hr.w1
  have:=hv.wlen v.1
  rw [← N.pa_wish] at a4
  have:=hv.n
  omega
 ·obtain ⟨i,hi,rfl⟩:=List.getElem_of_mem hx
  obtain ⟨j,hj,rfl⟩:=List.getElem_of_mem hy
  have hpw:=List.pairwise_iff_getElem.1 m.vu
  rcases Nat.lt_trichotomy i j with h' | h' | h'
  ·exact absurd ⟨e1,e2⟩ (hpw i j hi hj h')
  ·subst h';rfl
  ·exact absurd ⟨e1.symm,e2.symm⟩ (hpw j i hj hi h')
theorem Rl.both (h:Rl w B G d e N S pl [] fx) (hv:Val w B G) (hd:d<=1) {g:Int} (g0:0<=g) (g1:g<G.length) (hp:pl g=5):Rl w B G d e (N.next g) (S.on g) (plu pl g (wto w (wn G g) (N.pa g).wish)) [] fx:=by
 have h1:=(h.go hv g0 g1 hp).after hv hd
 have e1:plu (plu pl g 7) g (wto w (wn G g) (N.pa g).wish)=plu pl g (wto w (wn G g) (N.pa g).wish):=by
  funext k
  unfold plu
  split<;>rfl
 rw [e1] at h1
 exact h1
theorem U0 (w:Int) (W:List Int) (n:Int):wto w W n=4∨wto w W n=2/\n≠W.length∨wto w W n=1/\n≠W.length/\w≠0:=by
 unfold wto
 by_cases c1:n=W.length
 ·rw [if_pos c1];exact .inl rfl
 ·rw [if_neg c1]
  by_cases c2:w=0
  ·rw [if_pos c2];exact .inr (.inl ⟨rfl,c1⟩)
  ·rw [if_neg c2];exact .inr (.inr ⟨rfl,c1,c2⟩)
theorem Rl.goes (hv:Val w B G) (hd:d<=1):∀ (L:List Int) (N:Ngt) (S:Pl) (pl:Int->Int),Rl w B G d e N S pl [] fx->Mo G N->N.tick<=5000->(∀ g∈L,0<=g/\g<G.length/\pl g=5)->L.Nodup ->
  (∀ k,(hk:k<L.length)->((L.take k).foldl Ngt.next N).Nxt L[k])/\∃ pl',Rl w B G d e (L.foldl Ngt.next N) (L.foldl Pl.on S) pl' [] fx/\Mo G (L.foldl Ngt.next N) /\
   (∀ k,k ∉ L->pl' k=pl k)/\(∀ k∈L,pl' k=4∨pl' k=2∨pl' k=1/\((L.foldl Ngt.next N).pa k).comes=N.tick+w/\w≠0)/\(∀ k:Int,0<=k->k ∉ L->(L.foldl Ngt.next N).pa k=N.pa k)/\(L.foldl Ngt.next N).tick=N.tick
 | [],N,S,pl,h,m,_,_,_=>⟨fun k hk=>absurd hk (Nat.not_lt_zero _),pl,h,m,fun _ _=>rfl,fun k hk=>(by cases hk),fun _ _ _=>rfl,rfl⟩
 | g::L,N,S,pl,h,m,ht,hL,hn=>by
  obtain ⟨g0,g1,hp⟩:=hL g (List.mem_cons_self ..)
  obtain ⟨n1,n2⟩:=List.nodup_cons.1 hn
  have h1:=h.both hv hd g0 g1 hp
  have hr:=h.gr g g0 g1
  have ht1:(N.next g).tick=N.tick:=(N.next_rest g).2.1
  have hgl:g.toNat<N.parties.length:=by rw [h.np];omega
  obtain ⟨q1,pl',q2,q3,q4,q5,q6,q7⟩:=Rl.goes hv hd L (N.next g) (S.on g) _ h1 (m.next g) (by rw [ht1];exact ht) (fun k hk=>by
   obtain ⟨a1,a2,a3⟩:=hL k (List.mem_cons_of_mem _ hk)
   exact ⟨a1,a2,by rw [Cl (show k≠g from fun c=>n1 (by rw [← c];exact hk))];exact a3⟩) n2
  refine ⟨fun k hk=>?_,pl',q2,q3,fun k hk=>?_,fun k hk=>?_,fun k k0 hk=>?_,by rw [List.foldl_cons,q7,ht1]⟩
  ·cases k with
   | zero=>exact h.nxt_ok hv ht g0 g1
   | succ k=>exact q1 k (by simpa using hk)
  ·have hk1:k≠g:=fun c=>hk (c▸List.mem_cons_self ..)
   rw [q4 k fun c=>hk (List.mem_cons_of_mem _ c),Cl hk1]
  ·rcases List.mem_cons.1 hk with rfl | hk
   ·rw [q4 k n1,AD]
    rcases U0 w (wn G k) (N.pa k).wish with c | ⟨c,_⟩ | ⟨c,c1,c2⟩
    ·exact .inl c
    ·exact .inr (.inl c)
    ·refine .inr (.inr ⟨c,?_,c2⟩)
     rw [List.foldl_cons,q6 k g0 n1,N.next_pa hgl,if_pos rfl]
     unfold Ngt.nx
     rw [h.pw g0 g1,if_neg c1,h.nw,if_neg c2]
   ·have:=q5 k hk
    rw [ht1] at this
    exact this
  ·have hk1:k≠g:=fun c=>hk (c▸List.mem_cons_self ..)
   rw [List.foldl_cons,q6 k k0 fun c=>hk (List.mem_cons_of_mem _ c),N.next_pa hgl,if_neg (by omega)]
end
theorem Gm {T:Type} {c:T->Int->Bool} {f:T->Int->T} (hc:∀ S g k,0<=g->0<=k->k≠g->c (f S g) k=c S k):∀ (L:List Int) (S:T),L.Nodup->(∀ g∈L,0<=g)->L.foldl (fun S g=>if c S g=true then f S g else S) S=(L.filter (c S)).foldl f S
 | [],_,_,_=>rfl
 | g::L,S,hn,h0=>by
  obtain ⟨n1,n2⟩:=List.nodup_cons.1 hn
  have h0':∀ k∈L,0<=k:=fun k hk=>h0 k (List.mem_cons_of_mem _ hk)
  rw [List.foldl_cons,List.filter_cons]
  by_cases hg:c S g=true
  ·rw [if_pos hg,if_pos hg,List.foldl_cons,Gm hc L _ n2 h0']
   congr 1
   apply List.filter_congr
   intro k hk
   exact hc S g k (h0 g (List.mem_cons_self ..)) (h0' k hk) fun e=>n1 (e▸hk)
  ·rw [if_neg hg,if_neg hg,Gm hc L _ n2 h0']
def Bn (n:Nat):List Int:=(List.range n).map fun i:Nat=>(i:Int)
theorem BN {n:Nat} {g:Int}:g∈Bn n↔0<=g/\g<n:=by
 unfold Bn
 rw [List.mem_map]
 constructor
 ·rintro ⟨i,hi,rfl⟩
  have:=List.mem_range.1 hi
  omega
 ·intro h
  exact ⟨g.toNat,List.mem_range.2 (by omega),by omega⟩
theorem Ko (n:Nat):(Bn n).Pairwise (· < ·):=by
 unfold Bn
 rw [List.pairwise_map]
 exact List.pairwise_lt_range.imp fun h=>by omega
theorem DR (n:Nat):(Bn n).Nodup:=(Ko n).imp fun h e=>by omega
theorem Mi:∀ {l1 l2:List Int},l1.Pairwise (· < ·)->l2.Pairwise (· < ·)->(∀ x,x∈l1↔x∈l2)->l1=l2
 | [],[],_,_,_=>rfl
 | [],b::l2,_,_,h=>absurd ((h b).2 (List.mem_cons_self ..)) (by simp)
 | a::l1,[],_,_,h=>absurd ((h a).1 (List.mem_cons_self ..)) (by simp)
 | a::l1,b::l2,h1,h2,h=>by
  obtain ⟨p1,p2⟩:=List.pairwise_cons.1 h1
  obtain ⟨q1,q2⟩:=List.pairwise_cons.1 h2
  have e:a=b:=by
   have m1:a∈b::l2:=(h a).1 (List.mem_cons_self ..)
   have m2:b∈a::l1:=(h b).2 (List.mem_cons_self ..)
   rcases List.mem_cons.1 m1 with e | m1
   ·exact e
   ·rcases List.mem_cons.1 m2 with e | m2
    ·exact e.symm
    ·have:=p1 b m2
     have:=q1 a m1
     omega
  subst e
  rw [Mi p2 q2 fun x=>?_]
  constructor
  ·intro hx
   rcases List.mem_cons.1 ((h x).1 (List.mem_cons_of_mem _ hx)) with e | hx'
   ·have:=p1 x hx;omega
   ·exact hx'
  ·intro hx
   rcases List.mem_cons.1 ((h x).2 (List.mem_cons_of_mem _ hx)) with e | hx'
   ·have:=q1 x hx;omega
   ·exact hx'
theorem Sa {xs:List Int} (h:xs.Nodup):(H3 xs).Pairwise (· < ·):=by
 have h1:(H3 xs).Pairwise fun a b=>decide (a<=b)=true:=Ew (le:=fun x y:Int=>decide (x<=y)) (fun a b c h1 h2=>decide_eq_true (Int.le_trans (of_decide_eq_true h1) (of_decide_eq_true h2))) (fun a b=>by simp only [decide_eq_true_eq];omega) xs
 have h2:(H3 xs).Nodup:=(Cn _ xs).nodup_iff.2 h
 exact h1.imp₂ (fun _ _ h3 h4=>by have:=of_decide_eq_true h3;omega) h2
def gd (G:List Grp) (g:Int):Grp:=G.getD g.toNat Grp.d
def bd (B:List BthG) (r:Int):BthG:=B.getD r.toNat BthG.d
def Pl.ends (S:Pl) (r:Int):Bool:=decide (0<=gt S.began r)&&decide (S.now-gt S.began r=(S.bt r).cycle)
def Pl.endK (S:Pl) (k:Nat):Pl:={ S with
 began:=(List.range S.began.length).map fun i:Nat=>if i<k/\S.ends i=true then -1 else gt S.began i,
 ended:=(List.range S.ended.length).map fun i:Nat=>if i<k/\S.ends i=true then S.now else gt S.ended i }
def Pl.off (S:Pl) (g:Int):Bool:=decide ((S.gu g).st=3)&&decide (gt S.ended (gt (S.gr g).wants (S.gu g).want)=S.now)
def Pl.end_ (S:Pl):Pl:=(Bn S.G.length).foldl (fun S g=>if S.off g=true then S.on g else S) (S.endK S.B.length)
theorem KB {n:Nat} {f:Nat->Int} {r:Int} (r0:0<=r) (r1:r<n):gt ((List.range n).map f) r=f r.toNat:=by
 have h:r.toNat<n:=by omega
 unfold gt
 simp [List.getD,h]
theorem Pl.gu_setG_ne {S:Pl} {g k:Int} {x:Gs} (h:k.toNat≠g.toNat):(S.setG g x).gu k=S.gu k:=by
 unfold Pl.gu Pl.setG
 simp only [List.getD,List.getElem?_set]
 rw [if_neg fun h'=>h h'.symm]
theorem Pl.on_ne {S:Pl} {g k:Int} (h:k.toNat≠g.toNat):(S.on g).gu k=S.gu k:=by
 unfold Pl.on
 split
 ·exact Pl.gu_setG_ne h
 ·split
  ·show ((S.setG g _).setG g _).gu k=_
   rw [Pl.gu_setG_ne h,Pl.gu_setG_ne h]
  ·exact Pl.gu_setG_ne h
theorem Pl.on_same (S:Pl) (g:Int):(S.on g).G=S.G/\(S.on g).B=S.B/\(S.on g).now=S.now/\(S.on g).ended=S.ended/\(S.on g).began=S.began/\(S.on g).walk=S.walk:=by
 unfold Pl.on
 split
 ·exact ⟨rfl,rfl,rfl,rfl,rfl,rfl⟩
 ·split<;>exact ⟨rfl,rfl,rfl,rfl,rfl,rfl⟩
theorem Pl.off_on (S:Pl) (g k:Int) (g0:0<=g) (k0:0<=k) (h:k≠g):(S.on g).off k=S.off k:=by
 obtain ⟨a1,_,a3,a4,_,_⟩:=S.on_same g
 unfold Pl.off Pl.gr
 rw [Pl.on_ne (by omega),a1,a3,a4]
theorem Ngt.endK_all (N:Ngt) {r:Int} (h:r.toNat<N.rides.length):(N.endK N.rides.length).bo r=(N.bo r).end1 N.tick:=by
 unfold Ngt.endK Ngt.bo
 simp [List.getD,h]
theorem Ngt.offK_mem (N:Ngt) {x:Int}:∀ k:Nat,k<=N.rides.length->(x∈N.offK k↔∃ r:Nat,r<k/\x∈(N.bo r).on/\(N.bo r).ends N.tick=true)
 | 0,_=>by simp [Ngt.offK]
 | k+1,h=>by
  rw [N.offK_succ (by omega),List.mem_append,N.offK_mem k (by omega)]
  unfold Bth.off
  constructor
  ·rintro (⟨r,h1,h2⟩ | h1)
   ·exact ⟨r,by omega,h2⟩
   ·split at h1
    ·rename_i he;exact ⟨k,by omega,h1,he⟩
    ·cases h1
  ·rintro ⟨r,h1,h2,h3⟩
   by_cases e:r=k
   ·subst e;right;rw [if_pos h3];exact h2
   ·exact .inl ⟨r,by omega,h2,h3⟩
section
variable {w:Int} {B:List BthG} {G:List Grp} {d e:Int} {N:Ngt} {S:Pl} {pl:Int->Int} {up:List Int} {fx:Int}
theorem Rl.bv (h:Rl w B G d e N S pl up fx) (hv:Val w B G) {r:Int} (r0:0<=r) (r1:r<B.length):(1<=(N.bo r).b.seats/\(N.bo r).b.seats<=40)/\(0<=(N.bo r).b.price/\(N.bo r).b.price<=100)/\(1<=(N.bo r).b.cycle/\(N.bo r).b.cycle<=100)/\(0<=(N.bo r).b.pause/\(N.bo r).b.pause<=100):=by
 rw [h.bb r0 r1]
 have hr:r.toNat<B.length:=by omega
 have e2:B.getD r.toNat BthG.d=B[r.toNat]:=by simp [List.getD,hr]
 rw [e2]
 exact hv.b _ (List.getElem_mem hr)
theorem Rl.gv (h:Rl w B G d e N S pl up fx) (hv:Val w B G) {g:Int} (g0:0<=g) (g1:g<G.length):(0<=(N.pa g).g.came/\(N.pa g).g.came<=2000)/\(1<=(N.pa g).g.size/\(N.pa g).g.size<=40)/\(0<=(N.pa g).g.tokens/\(N.pa g).g.tokens<=10000)/\(N.pa g).g.wants.length<=10/\(0<=(N.pa g).g.patience/\(N.pa g).g.patience<=2000):=by
 rw [h.pg g0 g1]
 have hr:g.toNat<G.length:=by omega
 have e2:G.getD g.toNat Grp.d=G[g.toNat]:=by simp [List.getD,hr]
 rw [e2]
 obtain ⟨a1,a2,a3,a4,a5,_⟩:=hv.g _ (List.getElem_mem hr)
 exact ⟨a1,a2,a3,a4,a5⟩
theorem RG.st_of {w t:Int} {W:List Int} {n:Pty} {s:Gs} {h p:Int} (r:RG w t W n s h p) (hp:p<=4):s.st=p:=by
 have:=r.c8
 have h0:=r.c0
 have h1:=r.c1
 have h2:=r.c2
 have h3:=r.c3
 have h4:=r.c4
 rcases (by omega:p=0∨p=1∨p=2∨p=3∨p=4) with c | c | c | c | c
 ·rw [(h0 c).1,c]
 ·rw [(h1 c).1,c]
 ·rw [(h2 c).1,c]
 ·rw [(h3 c).1,c]
 ·rw [h4 c,c]
theorem Rl.offK_nodup (h:Rl w B G d e N S pl up fx):∀ k:Nat,k<=N.rides.length->(N.offK k).Nodup
 | 0,_=>by simp [Ngt.offK]
 | k+1,hk=>by
  have hr:=h.nr
  rw [N.offK_succ (by omega)]
  refine List.nodup_append.2 ⟨h.offK_nodup k (by omega),?_,fun a ha b hb=>?_⟩
  ·unfold Bth.off
   split
   ·exact h.on k (by omega) (by omega)
   ·exact List.nodup_nil
  ·obtain ⟨r,r1,r2,_⟩:=(N.offK_mem k (by omega)).1 ha
   have hb:b∈(N.bo k).on:=by
    unfold Bth.off at hb
    split at hb
    ·exact hb
    ·cases hb
   rintro rfl
   have h1:=(h.oe r (by omega) (by omega) a r2).2.2.2
   have h2:=(h.oe k (by omega) (by omega) a hb).2.2.2
   omega
theorem Rl.ends_eq (h:Rl w B G d e N S pl up (-1)) {r:Int} (r0:0<=r) (r1:r<B.length):S.ends r=(N.bo r).ends N.tick:=by
 obtain ⟨a1,a2,a3,a4,a5⟩:=h.rb r r0 r1
 have a3:=a3 (by omega)
 have hb:(S.bt r).cycle=(N.bo r).b.cycle:=by rw [h.bb r0 r1];unfold Pl.bt;rw [h.sb]
 unfold Pl.ends Bth.ends
 rw [a3,hb,h.tk]
 by_cases c:(N.bo r).on=[]
 ·rw [if_pos c,decide_eq_false (show ¬ (0:Int)<=-1 by omega),c]
  simp
 ·rw [if_neg c,decide_eq_true a1,decide_eq_true (show 0<(N.bo r).on.length from List.length_pos_iff.2 c),Bool.true_and,Bool.true_and]
  exact decide_eq_decide.2 (by omega)
theorem Rl.endsK (h:Rl w B G 0 0 N S pl [] (-1)) (_hreg:∀ g:Int,0<=g->g<G.length->pl g<=4):Rl w B G 0 1 (N.endK N.rides.length) (S.endK S.B.length) (fun g=>if g∈N.offK N.rides.length then 5 else pl g) [] (-1):=by
 have hnr:=h.nr
 have hO:=fun x=>N.offK_mem (x:=x) N.rides.length (Nat.le_refl _)
 have hbo:∀ r:Int,0<=r->r<B.length->(N.endK N.rides.length).bo r=(N.bo r).end1 N.tick:=fun r r0 r1=>N.endK_all (by omega)
 have hO3:∀ g,g∈N.offK N.rides.length->0<=g/\g<G.length/\pl g=3/\∃ r:Nat,r<B.length/\gt (wn G g) ((N.pa g).wish-1)=r/\g∈(N.bo r).on/\(N.bo r).ends N.tick=true:=fun g hg=>by
  obtain ⟨r,r1,r2,r3⟩:=(hO g).1 hg
  obtain ⟨b1,b2,b3,b4⟩:=h.oe r (by omega) (by omega) g r2
  exact ⟨b1,b2,b3,r,by omega,b4,r2,r3⟩
 have hpn:∀ k,pl k≠3->(if k∈N.offK N.rides.length then 5 else pl k)=pl k:=fun k hk=>if_neg fun hm=>hk (hO3 k hm).2.2.1
 have hpp:∀ (k p:Int),p≠5->(if k∈N.offK N.rides.length then 5 else pl k)=p->pl k=p/\k ∉ N.offK N.rides.length:=fun k p hp hk=>by
  split at hk
  ·omega
  ·rename_i hn;exact ⟨hk,hn⟩
 have e1:∀ t (x:Bth),(x.end1 t).queue=x.queue/\(x.end1 t).begun=x.begun/\(x.end1 t).b=x.b/\(x.end1 t).takes=x.takes/\(x.end1 t).line=x.line:=fun t x=>by
  unfold Bth.end1
  split<;>exact ⟨rfl,rfl,rfl,rfl,rfl⟩
 have harr:∀ M r,arr w G M [] r=[]:=fun M r=>by unfold arr;split<;>rfl
 have hbe:∀ r:Int,0<=r->r<B.length->gt (S.endK S.B.length).began r=if (N.bo r).ends N.tick=true then -1 else gt S.began r:=fun r r0 r1=>by
  show gt ((List.range _).map _) r=_
  rw [KB r0 (by rw [h.lb];exact r1),h.sb]
  have:(r.toNat:Int)=r:=by omega
  rw [this,h.ends_eq r0 r1]
  by_cases c:(N.bo r).ends N.tick=true
  ·rw [if_pos c,if_pos ⟨by omega,c⟩]
  ·rw [if_neg c,if_neg fun h'=>c h'.2]
 have hen:∀ r:Int,0<=r->r<B.length->gt (S.endK S.B.length).ended r=if (N.bo r).ends N.tick=true then N.tick else gt S.ended r:=fun r r0 r1=>by
  show gt ((List.range _).map _) r=_
  rw [KB r0 (by rw [h.le];exact r1),h.sb]
  have:(r.toNat:Int)=r:=by omega
  rw [this,h.ends_eq r0 r1,h.tk]
  by_cases c:(N.bo r).ends N.tick=true
  ·rw [if_pos c,if_pos ⟨by omega,c⟩]
  ·rw [if_neg c,if_neg fun h'=>c h'.2]
 refine { nw:=h.nw,nb:=?_,ng:=h.ng,sw:=h.sw,sb:=h.sb,sg:=h.sg,lg:=h.lg,lh:=h.lh,lq:=h.lq,lb:=by show ((List.range _).map _).length=_;rw [List.length_map,List.length_range];exact h.lb,le:=by show ((List.range _).map _).length=_;rw [List.length_map,List.length_range];exact h.le,lt:=h.lt,ll:=h.ll,tk:=h.tk,t0:=h.t0,vs:=h.vs,gr:=?_,wk:=?_,qu:=?_,ql:=?_,qe:=?_,qn:=?_,qc:=?_,oe:=?_,on:=?_,oc:=?_,re:=?_,rb:=?_,rt:=?_,ue:=fun k hk=>(by cases hk),un:=List.nodup_nil,uc:=?_ }
 ·rw [← h.nb]
  unfold Ngt.endK
  simp only [List.take_length,List.drop_length,List.append_nil,List.map_map]
  apply List.map_congr_left
  intro x _
  exact (e1 N.tick x).2.2.1
 ·intro k k0 k1
  have hr:=h.gr k k0 k1
  show RG w N.tick (wn G k) (N.pa k) (S.gu k) (gt S.homes k) _
  by_cases c:k∈N.offK N.rides.length
  ·rw [if_pos c]
   have h3:=(hO3 k c).2.2.1
   have hc3:=hr.c3 h3
   refine ⟨hr.w0,hr.w1,hr.tk,fun _=>hr.cm (by omega),?_,fun h'=>by omega,fun h'=>by omega,fun h'=>by omega,fun h'=>by omega,fun h'=>by omega,fun _=>hc3.2.1,fun h'=>by omega,fun h'=>by omega,by omega⟩
   rcases hr.hm with h' | h'
   ·exact .inl h'
   ·omega
  ·rw [if_neg c];exact hr
 ·intro k k0 k1 hk
  exact h.wk k k0 k1 (hpp k 1 (by omega) hk).1
 ·intro r r0 r1
  rw [hbo r r0 r1,(e1 _ _).1,harr,List.append_nil]
  have h1:=h.qu r r0 r1
  rw [harr,List.append_nil] at h1
  rw [← h1]
  apply List.filter_congr
  intro k _
  by_cases c:k∈N.offK N.rides.length
  ·have h3:=(hO3 k c).2.2.1
   rw [if_pos c,decide_eq_true (show (5:Int)≠6 by omega),decide_eq_true (show pl k≠6 by omega)]
  ·rw [if_neg c]
 ·intro r r0 r1 k hk
  obtain ⟨a1,a2,a3⟩:=h.ql r r0 r1 k hk
  exact ⟨a1,a2,fun h6=>a3 (hpp k 6 (by omega) h6).1⟩
 ·intro r r0 r1 x hx
  rw [hbo r r0 r1,(e1 _ _).1] at hx
  obtain ⟨a1,a2,a3,a4,a5⟩:=h.qe r r0 r1 x hx
  exact ⟨a1,a2,by rw [hpn _ (by omega)];exact a3,a4,a5⟩
 ·intro r r0 r1
  rw [hbo r r0 r1,(e1 _ _).1]
  exact h.qn r r0 r1
 ·intro k k0 k1 hk
  obtain ⟨h2,_⟩:=hpp k 2 (by omega) hk
  have hm:=h.qc k k0 k1 h2
  show _∈((N.endK N.rides.length).bo (gt (wn G k) (N.pa k).wish)).queue
  by_cases hr:(gt (wn G k) (N.pa k).wish).toNat<N.rides.length
  ·rw [N.endK_all hr,(e1 _ _).1]
   exact hm
  ·exfalso
   have:N.bo (gt (wn G k) (N.pa k).wish)=Bth.d:=by unfold Ngt.bo;simp [List.getD,hr]
   rw [this] at hm
   cases hm
 ·intro r r0 r1 k hk
  rw [hbo r r0 r1] at hk
  unfold Bth.end1 at hk
  split at hk
  ·cases hk
  ·rename_i hne
   obtain ⟨a1,a2,a3,a4⟩:=h.oe r r0 r1 k hk
   refine ⟨a1,a2,?_,a4⟩
   rw [if_neg fun hm=>?_]
   ·exact a3
   ·obtain ⟨_,_,_,r',q1,q2,q3,q4⟩:=hO3 k hm
    have:(r':Int)=r:=by omega
    rw [this] at q4
    exact hne q4
 ·intro r r0 r1
  rw [hbo r r0 r1]
  unfold Bth.end1
  split
  ·exact List.nodup_nil
  ·exact h.on r r0 r1
 ·intro k k0 k1 hk
  obtain ⟨h2,h3⟩:=hpp k 3 (by omega) hk
  have hm:=h.oc k k0 k1 h2
  show _∈((N.endK N.rides.length).bo (gt (wn G k) ((N.pa k).wish-1))).on
  by_cases hr:(gt (wn G k) ((N.pa k).wish-1)).toNat<N.rides.length
  ·rw [N.endK_all hr]
   have hne:¬ (N.bo (gt (wn G k) ((N.pa k).wish-1))).ends N.tick=true:=fun he=>h3 ((hO k).2 ⟨(gt (wn G k) ((N.pa k).wish-1)).toNat,hr,hm,he⟩)
   unfold Bth.end1
   rw [if_neg hne]
   exact hm
  ·exfalso
   have:N.bo (gt (wn G k) ((N.pa k).wish-1))=Bth.d:=by unfold Ngt.bo;simp [List.getD,hr]
   rw [this] at hm
   cases hm
 ·intro r r0 r1
  obtain ⟨a1,a2,a3⟩:=h.re r r0 r1
  have ht:=h.t0
  show gt (S.endK S.B.length).ended r=_/\_/\_<=N.tick-1+1
  rw [hbo r r0 r1,hen r r0 r1]
  unfold Bth.end1
  split
  ·exact ⟨rfl,by show -1<=N.tick;omega,by show N.tick<=_;omega⟩
  ·exact ⟨a1,a2,by omega⟩
 ·intro r r0 r1
  obtain ⟨a1,a2,a3,a4,a5⟩:=h.rb r r0 r1
  show 0<=((N.endK N.rides.length).bo r).begun/\((N.endK N.rides.length).bo r).begun<=N.tick/\_/\(_->_->N.tick+1<=_)/\_
  rw [hbo r r0 r1,hbe r r0 r1,(e1 _ _).2.1,(e1 _ _).2.2.1]
  refine ⟨a1,a2,fun hf=>?_,fun hf hon=>?_,fun hf=>by omega⟩
  ·unfold Bth.end1
   by_cases c:(N.bo r).ends N.tick=true
   ·rw [if_pos c,if_pos c,if_pos rfl]
   ·rw [if_neg c,if_neg c]
    exact a3 hf
  ·unfold Bth.end1 at hon
   by_cases c:(N.bo r).ends N.tick=true
   ·rw [if_pos c] at hon;exact absurd rfl hon
   ·rw [if_neg c] at hon
    have h4:=a4 hf hon
    unfold Bth.ends at c
    rw [decide_eq_true (show 0<(N.bo r).on.length from List.length_pos_iff.2 hon),Bool.true_and] at c
    have c:¬ (N.bo r).begun+(N.bo r).b.cycle=N.tick:=fun h'=>c (decide_eq_true h')
    omega
 ·intro r r0 r1
  rw [hbo r r0 r1,(e1 _ _).2.2.2.1,(e1 _ _).2.2.2.2]
  exact h.rt r r0 r1
 ·intro k k0 k1 hk
  exact h.uc k k0 k1 (hpp k 7 (by omega) hk).1
theorem Rl.end_ (h:Rl w B G 0 0 N S pl [] (-1)) (hv:Val w B G) (m:Mo G N) (ht:N.tick<=4000) (hreg:∀ g:Int,0<=g->g<G.length->pl g<=4):
  YM N/\∃ pl',Rl w B G 0 1 N.end_ S.end_ pl' [] (-1)/\Mo G N.end_/\N.end_.tick=N.tick/\∀ g:Int,0<=g->g<G.length->pl' g<=4/\(pl' g=0↔pl g=0):=by
 have h1:=h.endsK hreg
 have hnr:=h.nr
 have hO:=fun x=>N.offK_mem (x:=x) N.rides.length (Nat.le_refl _)
 have hnd:=h.offK_nodup N.rides.length (Nat.le_refl _)
 have hmo:∀ x,x∈N.off↔x∈N.offK N.rides.length:=fun x=>Rs
 have hnd2:N.off.Nodup:=(Cn _ _).nodup_iff.2 hnd
 have hm1:Mo G (N.endK N.rides.length):=by
  refine m.keep rfl ?_ rfl rfl rfl (Int.le_refl _)
  unfold Ngt.takesL Ngt.endK
  simp only [List.take_length,List.drop_length,List.append_nil,List.map_map]
  apply List.map_congr_left
  intro x _
  show (x.end1 _).takes=x.takes
  unfold Bth.end1
  split<;>rfl
 have hin:∀ g∈N.off,0<=g/\g<G.length/\(if g∈N.offK N.rides.length then (5:Int) else pl g)=5:=fun g hg=>by
  have hg':=(hmo g).1 hg
  obtain ⟨r,r1,r2,r3⟩:=(hO g).1 hg'
  obtain ⟨b1,b2,b3,b4⟩:=h.oe r (by omega) (by omega) g r2
  exact ⟨b1,b2,if_pos hg'⟩
 obtain ⟨q1,pl',q2,q3,q4,q5,q6,q7⟩:=Rl.goes hv (by omega) N.off _ _ _ h1 hm1 (show N.tick<=5000 by omega) hin hnd2
 have hS:S.end_=N.off.foldl Pl.on (S.endK S.B.length):=by
  unfold Pl.end_
  rw [Gm (c:=Pl.off) (f:=Pl.on) Pl.off_on _ _ (DR _) fun g hg=>(BN.1 hg).1]
  congr 1
  refine Mi ((Ko _).sublist List.filter_sublist) (Sa hnd) fun g=>?_
  rw [List.mem_filter,BN,h.sg]
  show _↔g∈N.off
  rw [hmo]
  have hoff:∀ (g0:0<=g) (g1:g<G.length),(S.endK S.B.length).off g=true↔(S.gu g).st=3/\gt (S.endK S.B.length).ended (gt (wn G g) (S.gu g).want)=N.tick:=fun g0 g1=>by
   unfold Pl.off
   rw [Bool.and_eq_true,decide_eq_true_eq,decide_eq_true_eq]
   show (S.gu g).st=3/\gt _ (gt (S.gr g).wants (S.gu g).want)=S.now↔_
   rw [h.sgw,h.tk]
  constructor
  ·rintro ⟨⟨g0,g1⟩,ho⟩
   obtain ⟨o1,o2⟩:=(hoff g0 g1).1 ho
   have hr:=h.gr g g0 g1
   have h3:pl g=3:=by rw [← hr.st_of (hreg g g0 g1)];exact o1
   obtain ⟨c1,c2,c3⟩:=hr.c3 h3
   have hw1:=hr.w1
   have hvw:=hv.want (g:=g) (k:=(S.gu g).want) c3 (by omega)
   have ew:(N.pa g).wish-1=(S.gu g).want:=by omega
   have hoc:=h.oc g g0 g1 h3
   rw [ew] at hoc
   obtain ⟨z1,z2,z3⟩:=h1.re _ hvw.1 hvw.2
   rw [N.endK_all (by omega)] at z1
   rw [o2] at z1
   refine (hO g).2 ⟨(gt (wn G g) (S.gu g).want).toNat,by omega,hoc,?_⟩
   have hre:=h.re _ hvw.1 hvw.2
   unfold Bth.end1 at z1
   by_cases c:(N.bo (gt (wn G g) (S.gu g).want)).ends N.tick=true
   ·exact c
   ·rw [if_neg c] at z1
    omega
  ·intro hg
   obtain ⟨r,r1,r2,r3⟩:=(hO g).1 hg
   obtain ⟨b1,b2,b3,b4⟩:=h.oe r (by omega) (by omega) g r2
   have hr:=h.gr g b1 b2
   obtain ⟨c1,c2,c3⟩:=hr.c3 b3
   refine ⟨⟨b1,b2⟩,(hoff b1 b2).2 ⟨c1,?_⟩⟩
   have ew:(S.gu g).want=(N.pa g).wish-1:=by omega
   rw [ew,b4]
   obtain ⟨z1,z2,z3⟩:=h1.re r (by omega) (by omega)
   rw [N.endK_all (by omega)] at z1
   rw [z1]
   unfold Bth.end1
   rw [if_pos r3]
 refine ⟨⟨fun i=>by have:=h.olen i;have:=hv.n;omega,fun i=>?_,q1⟩,pl',?_,q3,q7,fun g g0 g1=>?_⟩
 ·by_cases hi:i.toNat<N.rides.length
  ·have e0:N.bo i=N.bo (i.toNat:Int):=rfl
   have hi':i.toNat<B.length:=by omega
   rw [e0]
   obtain ⟨a1,a2,_⟩:=h.rb i.toNat (by omega) (by omega)
   have hcy:=(h.bv hv (r:=(i.toNat:Int)) (by omega) (by omega)).2.2.1
   omega
  ·have:N.bo i=Bth.d:=by unfold Ngt.bo;simp [List.getD,hi]
   rw [this]
   exact ⟨by decide,by decide⟩
 ·rw [hS]
  exact q2
 ·by_cases c:g∈N.off
  ·have h5:=q5 g c
   obtain ⟨r,r1,r2,r3⟩:=(hO g).1 ((hmo g).1 c)
   have h3:=(h.oe r (by omega) (by omega) g r2).2.2.1
   rcases h5 with h5 | h5 | h5<;>omega
  ·rw [q4 g c,if_neg fun hm=>c ((hmo g).2 hm)]
   exact ⟨hreg g g0 g1,Iff.rfl⟩
end
end Go.Proofs.YtoelhdjloaknbaaGreat
