/- What this claim rests on. -/
import Derived.Test.YtoelhdjloaknbaaGreatUB15
import Derived.Test.YtoelhdjloaknbaaGreatUQa8
namespace Go.Proofs.YtoelhdjloaknbaaGreat
open Go.RowKit Go.Proofs.Tryz
def Pl.guests1 (S:Pl) (r:Int):Int:=CO ((S.qu r).map fun g=>(S.gr g).size)
def Pl.lineK (S:Pl) (k:Nat):Pl:={ S with lines:=(List.range S.lines.length).map fun i:Nat=>if i<k then (if gt S.lines i<S.guests1 i then S.guests1 i else gt S.lines i) else gt S.lines i }
def Pl.begins (S:Pl) (k:Nat):Pl:=(List.range k).foldl (fun (S:Pl) (r:Nat)=>S.begin r) S
def Pl.rest (S:Pl):Pl:=S.end_.come.leaves
def Pl.tick (S:Pl):Pl:=(S.rest.begins S.B.length).lineK S.B.length
def Pl.later (S:Pl) (t:Int):Pl:={ S with now:=t }
def Pl.init (w:Int) (B:List BthG) (G:List Grp):Pl:=⟨w,B,G,0,G.map fun g=>⟨0,-1,0,g.tokens⟩,List.replicate B.length [],List.replicate B.length (-1),List.replicate B.length (-1),[],List.replicate B.length 0,List.replicate B.length 0,List.replicate G.length (-1)⟩
def Pl.run (w:Int) (B:List BthG) (G:List Grp):Nat->Pl
 | 0=>Pl.init w B G
 | k+1=>(Pl.run w B G k).tick.later (k+1)
section
variable {w:Int} {B:List BthG} {G:List Grp} {d e:Int} {N:Ngt} {S:Pl} {pl:Int->Int} {up:List Int} {fx:Int}
theorem Rl.qu_eq (h:Rl w B G d e N S pl [] fx) (hreg:∀ g:Int,0<=g->g<G.length->pl g<=4) {i:Int} (i0:0<=i) (i1:i<B.length):S.qu i=(N.bo i).queue.map Prod.fst:=by
 have harr:arr w G N [] i=[]:=by unfold arr;split<;>rfl
 have h1:=h.qu i i0 i1
 rw [harr,List.append_nil] at h1
 rw [← h1,eq_comm,List.filter_eq_self]
 intro k hk
 obtain ⟨a1,a2,_⟩:=h.ql i i0 i1 k hk
 have:=hreg k a1 a2
 exact decide_eq_true (by omega)
theorem Rl.guests_eq (h:Rl w B G d e N S pl [] fx) (hreg:∀ g:Int,0<=g->g<G.length->pl g<=4) {i:Int} (i0:0<=i) (i1:i<B.length):S.guests1 i=N.guests (N.bo i).queue:=by
 unfold Pl.guests1 Ngt.guests
 rw [h.qu_eq hreg i0 i1,List.map_map]
 congr 1
 apply List.map_congr_left
 intro x hx
 obtain ⟨a1,a2,_⟩:=h.qe i i0 i1 x hx
 show (S.gr x.1).size=_
 rw [h.gr_eq a1 a2]
theorem Ngt.lineK_all (N:Ngt) {r:Int} (h:r.toNat<N.rides.length):(N.lineK N.rides.length).bo r=N.line1 (N.bo r):=by
 unfold Ngt.lineK Ngt.bo
 simp [List.getD,h]
theorem Rl.lines (h:Rl w B G d e N S pl [] fx) (hreg:∀ g:Int,0<=g->g<G.length->pl g<=4):Rl w B G d e (N.lineK N.rides.length) (S.lineK S.B.length) pl [] fx:=by
 have hnr:=h.nr
 have hbo:∀ r:Int,0<=r->r<B.length->(N.lineK N.rides.length).bo r=N.line1 (N.bo r):=fun r r0 r1=>N.lineK_all (by omega)
 have hbe:∀ M:Ngt,∀ r:Int,¬ r.toNat<M.rides.length->M.bo r=Bth.d:=fun M r hr=>by unfold Ngt.bo;simp [List.getD,hr]
 have hkeep:∀ r:Int,((N.lineK N.rides.length).bo r).queue=(N.bo r).queue/\((N.lineK N.rides.length).bo r).on=(N.bo r).on:=fun r=>by
  by_cases hr:r.toNat<N.rides.length
  ·rw [N.lineK_all hr];exact ⟨rfl,rfl⟩
  ·rw [hbe _ r hr,hbe _ r (by rw [N.lineK_len];exact hr)];exact ⟨rfl,rfl⟩
 have harr:∀ M r,arr w G M [] r=[]:=fun M r=>by unfold arr;split<;>rfl
 refine { nw:=h.nw,nb:=?_,ng:=h.ng,sw:=h.sw,sb:=h.sb,sg:=h.sg,lg:=h.lg,lh:=h.lh,lq:=h.lq,lb:=h.lb,le:=h.le,lt:=h.lt,ll:=by show ((List.range _).map _).length=_;rw [List.length_map,List.length_range];exact h.ll,tk:=h.tk,t0:=h.t0,vs:=h.vs,gr:=h.gr,wk:=h.wk,qu:=?_,ql:=h.ql,qe:=?_,qn:=?_,qc:=?_,oe:=?_,on:=?_,oc:=?_,re:=?_,rb:=?_,rt:=?_,ue:=h.ue,un:=h.un,uc:=h.uc }
 ·rw [← h.nb]
  unfold Ngt.lineK
  simp only [List.take_length,List.drop_length,List.append_nil,List.map_map]
  apply List.map_congr_left
  intro x _
  rfl
 ·intro r r0 r1
  have h1:=h.qu r r0 r1
  rw [harr] at h1 ⊢
  rw [(hkeep r).1]
  exact h1
 ·intro r r0 r1
  rw [(hkeep r).1]
  exact h.qe r r0 r1
 ·intro r r0 r1
  rw [(hkeep r).1]
  exact h.qn r r0 r1
 ·intro k k0 k1 hk
  rw [(hkeep _).1]
  exact h.qc k k0 k1 hk
 ·intro r r0 r1
  rw [(hkeep r).2]
  exact h.oe r r0 r1
 ·intro r r0 r1
  rw [(hkeep r).2]
  exact h.on r r0 r1
 ·intro k k0 k1 hk
  rw [(hkeep _).2]
  exact h.oc k k0 k1 hk
 ·intro r r0 r1
  rw [hbo r r0 r1]
  exact h.re r r0 r1
 ·intro r r0 r1
  rw [hbo r r0 r1]
  exact h.rb r r0 r1
 ·intro r r0 r1
  obtain ⟨a1,a2⟩:=h.rt r r0 r1
  rw [hbo r r0 r1]
  refine ⟨a1,?_⟩
  show gt ((List.range _).map _) r=(N.line1 (N.bo r)).line
  rw [KB r0 (by rw [h.ll];exact r1),h.sb,if_pos (by omega)]
  have:(r.toNat:Int)=r:=by omega
  rw [this,a2,h.guests_eq hreg r0 r1]
  rfl
theorem Mo.lines (h:Mo G N):Mo G (N.lineK N.rides.length):=by
 refine h.keep rfl ?_ rfl rfl rfl (Int.le_refl _)
 unfold Ngt.takesL Ngt.lineK
 simp only [List.take_length,List.drop_length,List.append_nil,List.map_map]
 apply List.map_congr_left
 intro x _
 rfl
theorem Rl.next_tick (h:Rl w B G 1 1 N S pl [] (-1)):Rl w B G 0 0 (N.setT (N.tick+1)) (S.later (N.tick+1)) pl [] (-1):=by
 refine { h with tk:=rfl,t0:=by have:=h.t0;show 0<=N.tick+1;omega,gr:=?_,wk:=?_,re:=?_,rb:=?_ }
 ·intro k k0 k1
  have hr:=h.gr k k0 k1
  show RG w (N.tick+1) (wn G k) (N.pa k) (S.gu k) (gt S.homes k) (pl k)
  have h7:pl k≠7:=fun h7=>by
   have:=h.uc k k0 k1 h7
   cases this
  have h1:=hr.c1
  have h2:=hr.c2
  have h6:=hr.c6
  exact { hr with c1:=fun hp=>by have:=h1 hp;omega,c2:=fun hp=>by have:=h2 hp;omega,c6:=fun hp=>by have:=h6 hp;omega,c7:=fun hp=>absurd hp h7 }
 ·intro k k0 k1 hk
  have:=h.wk k k0 k1 hk
  show N.tick+1+0<=(N.pa k).comes
  omega
 ·intro r r0 r1
  obtain ⟨a1,a2,a3⟩:=h.re r r0 r1
  exact ⟨a1,a2,by show (N.bo r).ended<=N.tick+1-1+0;omega⟩
 ·intro r r0 r1
  obtain ⟨a1,a2,a3,a4,a5⟩:=h.rb r r0 r1
  refine ⟨a1,by show (N.bo r).begun<=N.tick+1;omega,a3,fun hf ho=>?_,a5⟩
  have:=a4 hf ho
  show N.tick+1+0<=(N.bo r).begun+(N.bo r).b.cycle
  omega
theorem Rl.begins_ (h:Rl w B G 1 1 N S pl [] (-1)) (hv:Val w B G) (m:Mo G N) (ht:N.tick<=4000) (hreg:∀ g:Int,0<=g->g<G.length->pl g<=4):∀ k:Nat,k<=B.length ->
  (∀ j,j<k->Vn (N.begins j) j)/\∃ pl',Rl w B G 1 1 (N.begins k) (S.begins k) pl' [] (-1)/\Mo G (N.begins k)/\(N.begins k).tick=N.tick/\∀ g:Int,0<=g->g<G.length->pl' g<=4/\(pl' g=0↔pl g=0)
 | 0,_=>⟨fun j hj=>absurd hj (Nat.not_lt_zero _),pl,h,m,rfl,fun g g0 g1=>⟨hreg g g0 g1,Iff.rfl⟩⟩
 | k+1,hk=>by
  obtain ⟨q1,pl1,q2,q3,q4,q5⟩:=Rl.begins_ h hv m ht hreg k (by omega)
  have e1:N.begins (k+1)=(N.begins k).begin k:=DB (f:=fun (M:Ngt) (i:Nat)=>M.begin i) (b:=N) (k:=k)
  have e2:S.begins (k+1)=(S.begins k).begin k:=DB (f:=fun (S:Pl) (r:Nat)=>S.begin r) (b:=S) (k:=k)
  obtain ⟨r1,pl2,r2,r3,r4,r5⟩:=q2.begin_ hv q3 (by omega) (fun g g0 g1=>(q5 g g0 g1).1) (i:=k) (by omega) (by omega)
  refine ⟨fun j hj=>?_,pl2,by rw [e1,e2];exact r2,by rw [e1];exact r3,by rw [e1,r4,q4],fun g g0 g1=>⟨(r5 g g0 g1).1,(r5 g g0 g1).2.trans (q5 g g0 g1).2⟩⟩
  by_cases c:j=k
  ·subst c;exact r1
  ·exact q1 j (by omega)
theorem Rl.tick_ (h:Rl w B G 0 0 N S pl [] (-1)) (hv:Val w B G) (m:Mo G N) (ht:N.tick<=4000) (hreg:∀ g:Int,0<=g->g<G.length->pl g<=4) (h0:∀ g:Int,0<=g->g<G.length->(pl g=0↔N.tick<=(gd G g).came)):
  UV N/\∃ pl',Rl w B G 0 0 N.tick1 (S.tick.later (N.tick+1)) pl' [] (-1)/\Mo G N.tick1/\N.tick1.tick=N.tick+1/\∀ g:Int,0<=g->g<G.length->pl' g<=4/\(pl' g=0↔N.tick+1<=(gd G g).came):=by
 obtain ⟨e1,p1,r1,m1,t1,z1⟩:=h.end_ hv m ht hreg
 obtain ⟨e2,p2,r2,m2,t2,z2⟩:=r1.come_ hv m1 (by omega) (fun g g0 g1=>(z1 g g0 g1).1) (fun g g0 g1=>by rw [t1];exact (z1 g g0 g1).2.trans (h0 g g0 g1))
 obtain ⟨e3,p3,r3,m3,t3,z3⟩:=r2.leave_ hv m2 (by omega) (fun g g0 g1=>(z2 g g0 g1).1)
 change Rl w B G 1 1 N.rest S.rest p3 [] (-1) at r3
 change Mo G N.rest at m3
 change N.rest.tick=_ at t3
 obtain ⟨e4,p4,r4,m4,t4,z4⟩:=r3.begins_ hv m3 (by omega) (fun g g0 g1=>(z3 g g0 g1).1) B.length (Nat.le_refl _)
 have hnr:N.rest.rides.length=B.length:=r3.nr
 have hnr4:(N.rest.begins B.length).rides.length=B.length:=r4.nr
 have hSB:S.rest.B.length=B.length:=by rw [r3.sb]
 have hSB0:S.B.length=B.length:=by rw [h.sb]
 have hSB4:(S.rest.begins B.length).B.length=B.length:=by rw [r4.sb]
 have hreg4:∀ g:Int,0<=g->g<G.length->p4 g<=4:=fun g g0 g1=>(z4 g g0 g1).1
 have r5:=r4.lines hreg4
 have m5:=m4.lines
 rw [hnr4,hSB4] at r5
 rw [hnr4] at m5
 have ht5:((N.rest.begins B.length).lineK B.length).tick=N.tick:=by
  show (N.rest.begins B.length).tick=_
  omega
 have r6:=r5.next_tick
 rw [ht5] at r6
 have eN:N.tick1=((N.rest.begins B.length).lineK B.length).setT (N.tick+1):=by rw [N.tick1_eq,hnr]
 have eS:S.tick=(S.rest.begins B.length).lineK B.length:=by unfold Pl.tick;rw [hSB0]
 have hvn:=hv.n
 refine ⟨⟨⟨h.t0,ht⟩,e1,e2,e3,?_,?_,?_⟩,p4,?_,?_,?_,fun g g0 g1=>⟨(z4 g g0 g1).1,?_⟩⟩
 ·rw [hnr];exact e4
 ·rw [hnr]
  refine ⟨fun i=>by have:=r4.qlen i;omega,fun i s hs=>?_⟩
  by_cases hi:i.toNat<(N.rest.begins B.length).rides.length
  ·have e0:(N.rest.begins B.length).bo i=(N.rest.begins B.length).bo (i.toNat:Int):=rfl
   rw [e0] at hs
   obtain ⟨a1,a2,a3,a4,a5⟩:=r4.qe i.toNat (by omega) (by omega) s hs
   have hgv:=r4.gv hv a1 a2
   have hnp:=r4.np
   exact ⟨a1,by omega,by omega,by omega⟩
  ·have:(N.rest.begins B.length).bo i=Bth.d:=by unfold Ngt.bo;simp [List.getD,hi]
   rw [this] at hs
   cases hs
 ·rw [hnr];omega
 ·rw [eN,eS];exact r6
 ·rw [eN]
  exact m5.keep rfl rfl rfl rfl rfl (by rw [ht5];show N.tick<=N.tick+1;omega)
 ·rw [eN];rfl
 ·rw [(z4 g g0 g1).2,(z3 g g0 g1).2,(z2 g g0 g1).2,t1]
end
section
variable {w:Int} {B:List BthG} {G:List Grp}
theorem Y8 (_hv:Val w B G):Rl w B G 0 0 (Ngt.init w B G) (Pl.init w B G) (fun _=>0) [] (-1):=by
 have hbo:∀ r:Int,0<=r->r<B.length->(Ngt.init w B G).bo r=⟨bd B r,[],0,-1,[],0,0⟩:=fun r r0 r1=>by
  have hr:r.toNat<B.length:=by omega
  unfold Ngt.init Ngt.bo bd
  simp [List.getD,hr]
 have hboe:∀ r:Int,((Ngt.init w B G).bo r).queue=[]/\((Ngt.init w B G).bo r).on=[]:=fun r=>by
  by_cases hr:r.toNat<B.length
  ·unfold Ngt.init Ngt.bo
   simp [List.getD,hr]
  ·unfold Ngt.init Ngt.bo
   simp [List.getD,hr,Bth.d]
 have hpa:∀ g:Int,0<=g->g<G.length->(Ngt.init w B G).pa g=⟨gd G g,0,(gd G g).tokens,-1,-1⟩:=fun g g0 g1=>by
  have hg:g.toNat<G.length:=by omega
  unfold Ngt.init Ngt.pa gd
  simp [List.getD,hg]
 have hgu:∀ g:Int,0<=g->g<G.length->(Pl.init w B G).gu g=⟨0,-1,0,(gd G g).tokens⟩:=fun g g0 g1=>by
  have hg:g.toNat<G.length:=by omega
  unfold Pl.init Pl.gu gd
  simp [List.getD,hg]
 have hrep:∀ (n:Nat) (v r:Int),0<=r->r<n->gt (List.replicate n v) r=v:=fun n v r r0 r1=>by
  have hg:r.toNat<n:=by omega
  unfold gt
  simp [List.getD,hg]
 have hqu:∀ r:Int,(Pl.init w B G).qu r=[]:=fun r=>by
  unfold Pl.init Pl.qu
  by_cases hg:r.toNat<B.length
  ·simp [List.getD,hg]
  ·simp [List.getD,hg]
 have harr:∀ M r,arr w G M [] r=[]:=fun M r=>by unfold arr;split<;>rfl
 have hst:=Ngt.init_stat (w:=w) (B:=B) (G:=G)
 refine { nw:=rfl,nb:=?_,ng:=hst.2,sw:=rfl,sb:=rfl,sg:=rfl,lg:=List.length_map ..,lh:=List.length_replicate ..,lq:=List.length_replicate ..,lb:=List.length_replicate ..,le:=List.length_replicate ..,lt:=List.length_replicate ..,ll:=List.length_replicate ..,tk:=rfl,t0:=Int.le_refl _,vs:=rfl,gr:=?_,wk:=fun g _ _ h=>by omega,qu:=?_,ql:=?_,qe:=?_,qn:=?_,qc:=fun g _ _ h=>by omega,oe:=?_,on:=?_,oc:=fun g _ _ h=>by omega,re:=?_,rb:=?_,rt:=?_,ue:=fun k hk=>(by cases hk),un:=List.nodup_nil,uc:=fun g _ _ h=>by omega }
 ·show (B.map fun b=>(⟨b,[],0,-1,[],0,0⟩:Bth)).map Bth.b=B
  rw [List.map_map]
  exact List.map_id _
 ·intro g g0 g1
  rw [hpa g g0 g1,hgu g g0 g1]
  have hh:gt (Pl.init w B G).homes g=-1:=hrep _ _ g g0 g1
  rw [hh]
  exact ⟨Int.le_refl _,by show (0:Int)<=_;omega,rfl,fun _=>rfl,.inl rfl,fun _=>⟨rfl,rfl,rfl⟩,fun h=>by omega,fun h=>by omega,fun h=>by omega,fun h=>by omega,fun h=>by omega,fun h=>by omega,fun h=>by omega,by omega⟩
 ·intro r r0 r1
  rw [hqu,harr,(hboe r).1]
  rfl
 ·intro r r0 r1 g hg
  rw [hqu] at hg
  cases hg
 ·intro r r0 r1 x hx
  rw [(hboe r).1] at hx
  cases hx
 ·intro r r0 r1
  rw [(hboe r).1]
  exact List.nodup_nil
 ·intro r r0 r1 g hg
  rw [(hboe r).2] at hg
  cases hg
 ·intro r r0 r1
  rw [(hboe r).2]
  exact List.nodup_nil
 ·intro r r0 r1
  rw [hbo r r0 r1]
  exact ⟨hrep _ _ r r0 r1,Int.le_refl _,by show (-1:Int)<=0-1+0;omega⟩
 ·intro r r0 r1
  rw [hbo r r0 r1]
  exact ⟨Int.le_refl _,Int.le_refl _,fun _=>hrep _ _ r r0 r1,fun _ h=>absurd rfl h,fun h=>by omega⟩
 ·intro r r0 r1
  rw [hbo r r0 r1]
  exact ⟨hrep _ _ r r0 r1,hrep _ _ r r0 r1⟩
theorem WO {xs:List Int} (h:∀ x∈xs,x=0):CO xs=0:=by
 induction xs with
 | nil=>rfl
 | cons x xs ih=>
  simp only [CO]
  rw [h x (List.mem_cons_self ..),ih fun y hy=>h y (List.mem_cons_of_mem _ hy)]
  rfl
theorem Za (hv:Val w B G):Mo G (Ngt.init w B G):=by
 have e1:(Ngt.init w B G).takesL=B.map fun _=>0:=by
  unfold Ngt.takesL Ngt.init
  simp only [List.map_map]
  rfl
 have e2:(Ngt.init w B G).purseL=G.map Grp.tokens:=by
  unfold Ngt.purseL Ngt.init
  simp only [List.map_map]
  rfl
 have e3:(Ngt.init w B G).wishL=G.map fun _=>0:=by
  unfold Ngt.wishL Ngt.init
  simp only [List.map_map]
  rfl
 have z:∀ {α:Type} (l:List α),CO (l.map fun _=>(0:Int))=0:=fun l=>WO fun x hx=>by
  obtain ⟨_,_,rfl⟩:=List.mem_map.1 hx
  rfl
 refine ⟨List.length_map ..,?_,?_,?_,?_,fun v hv=>(by cases hv),List.Pairwise.nil⟩
 ·rw [e1,e2,z];omega
 ·rw [e1]
  intro x hx
  obtain ⟨_,_,rfl⟩:=List.mem_map.1 hx
  exact Int.le_refl _
 ·rw [e2]
  intro x hx
  obtain ⟨g,hg,rfl⟩:=List.mem_map.1 hx
  exact (hv.g g hg).2.2.1.1
 ·rw [e3,z];rfl
theorem Qk (hv:Val w B G):∀ k:Nat,k<=4001->∃ pl,Rl w B G 0 0 (Ngt.run w B G k) (Pl.run w B G k) pl [] (-1)/\Mo G (Ngt.run w B G k)/\(Ngt.run w B G k).tick=k/\∀ g:Int,0<=g->g<G.length->pl g<=4/\(pl g=0↔(k:Int)<=(gd G g).came)
 | 0,_=>by
  refine ⟨fun _=>0,Y8 hv,Za hv,rfl,fun g g0 g1=>⟨by show (0:Int)<=4;omega,fun _=>?_,fun _=>rfl⟩⟩
  have hg:g.toNat<G.length:=by omega
  have e1:gd G g=G[g.toNat]:=by unfold gd;simp [List.getD,hg]
  rw [e1]
  exact (hv.g _ (List.getElem_mem hg)).1.1
 | k+1,hk=>by
  obtain ⟨pl,h1,h2,h3,h4⟩:=Qk hv k (by omega)
  obtain ⟨_,pl',q1,q2,q3,q4⟩:=h1.tick_ hv h2 (by omega) (fun g g0 g1=>(h4 g g0 g1).1) (fun g g0 g1=>by rw [h3];exact (h4 g g0 g1).2)
  rw [h3] at q1 q3 q4
  exact ⟨pl',q1,q2,q3,q4⟩
theorem AaN (hv:Val w B G) {k:Nat} (hk:k<=4000):UV (Ngt.run w B G k):=by
 obtain ⟨pl,h1,h2,h3,h4⟩:=Qk hv k (by omega)
 exact (h1.tick_ hv h2 (by omega) (fun g g0 g1=>(h4 g g0 g1).1) (fun g g0 g1=>by rw [h3];exact (h4 g g0 g1).2)).1
theorem ZE (hv:Val w B G):Yu (Ngt.run w B G 4001).visits:=by
 obtain ⟨pl,h1,h2,h3,h4⟩:=Qk hv 4001 (Nat.le_refl _)
 exact h2.visOK h1 hv (by rw [h3];decide)
theorem UT {σ:Hp} {r l:SL} {ws:Nat->SL} (he:EvR σ r B l ws G) (hv:Val w B G):Af prog 105 #[.agg #[r.v,aD w],l.v] σ (Aby σ B.length G (Ngt.played w B G)):=
 AaX he (by have:=hv.m;omega) (by have:=hv.n;omega) (fun k hk=>AaN hv hk) (fun k hk=>by obtain ⟨_,_,_,h3,_⟩:=Qk hv k hk;exact h3) (ZE hv)
end
end Go.Proofs.YtoelhdjloaknbaaGreat
