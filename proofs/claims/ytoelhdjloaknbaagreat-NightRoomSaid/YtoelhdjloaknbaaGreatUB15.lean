/- What this claim rests on. -/
import Derived.Test.YtoelhdjloaknbaaGreatUB14
namespace Go.Proofs.YtoelhdjloaknbaaGreat
open Go.RowKit Go.Proofs.Tryz
def Pl.comeA (S:Pl) (g:Int):Bool:=decide ((S.gu g).st=0)&&decide ((S.gr g).came=S.now)
def Pl.comeB (S:Pl) (g:Int):Bool:=decide ((S.gu g).st=1)&&decide (S.now-(S.gu g).since=S.walk)
def Pl.come1 (S:Pl) (g:Int):Pl:=if S.comeA g=true then S.on g else if S.comeB g=true then S.stand g else S
def Pl.come (S:Pl):Pl:=(Bn S.G.length).foldl Pl.come1 S
theorem Pl.stand_ne {S:Pl} {g k:Int} (h:k.toNat≠g.toNat):(S.stand g).gu k=S.gu k:=by
 show (S.setG g _).gu k=_
 exact Pl.gu_setG_ne h
theorem Pl.comeA_on (S:Pl) (g k:Int) (h:k.toNat≠g.toNat):(S.on g).comeA k=S.comeA k/\(S.on g).comeB k=S.comeB k:=by
 obtain ⟨a1,_,a3,_,_,a6⟩:=S.on_same g
 unfold Pl.comeA Pl.comeB Pl.gr
 rw [Pl.on_ne h,a1,a3,a6]
 exact ⟨rfl,rfl⟩
theorem Pl.comeA_stand (S:Pl) (g k:Int) (h:k.toNat≠g.toNat):(S.stand g).comeA k=S.comeA k/\(S.stand g).comeB k=S.comeB k:=by
 unfold Pl.comeA Pl.comeB
 rw [Pl.stand_ne h]
 exact ⟨rfl,rfl⟩
theorem Pl.on_stand (S:Pl) {g k:Int} (h:k.toNat≠g.toNat) (hw:S.walk≠0):(S.stand g).on k=(S.on k).stand g:=by
 have e1:(S.stand g).gu k=S.gu k:=Pl.stand_ne h
 have e2:(S.on k).gu g=S.gu g:=Pl.on_ne fun e=>h e.symm
 unfold Pl.on
 rw [e1]
 have e3:(S.stand g).gr k=S.gr k:=rfl
 have e4:(S.stand g).walk=S.walk:=rfl
 rw [e3,e4,if_neg hw,if_neg hw]
 by_cases c:((S.gr k).wants.length:Int)<=(S.gu k).want+1
 ·rw [if_pos c,if_pos c]
  have e5:((S.setG k { S.gu k with want:=(S.gu k).want+1,since:=S.now,st:=4 }).setH k S.now).gu g=S.gu g:=Pl.gu_setG_ne fun e=>h e.symm
  unfold Pl.stand
  rw [e5]
  unfold Pl.setG Pl.setH Pl.setQ
  simp only [Pl.mk.injEq,and_true,true_and]
  exact ⟨List.set_comm _ _ (fun e=>h e.symm),rfl⟩
 ·rw [if_neg c,if_neg c]
  have e5:(S.setG k { S.gu k with want:=(S.gu k).want+1,since:=S.now,st:=1 }).gu g=S.gu g:=Pl.gu_setG_ne fun e=>h e.symm
  unfold Pl.stand
  rw [e5]
  unfold Pl.setG Pl.setQ
  simp only [Pl.mk.injEq,and_true,true_and]
  exact ⟨List.set_comm _ _ (fun e=>h e.symm),rfl⟩
theorem Pl.on_stands (g:Int):∀ (L:List Int) (S:Pl),(∀ k∈L,k.toNat≠g.toNat)->S.walk≠0->L.foldl Pl.on (S.stand g)=(L.foldl Pl.on S).stand g
 | [],_,_,_=>rfl
 | k::L,S,h,hw=>by
  rw [List.foldl_cons,List.foldl_cons,Pl.on_stand S (h k (List.mem_cons_self ..)) hw,Pl.on_stands g L (S.on k) (fun j hj=>h j (List.mem_cons_of_mem _ hj)) (by rw [(S.on_same k).2.2.2.2.2];exact hw)]
theorem Pl.come_fold:∀ (L:List Int) (S:Pl),L.Nodup->(∀ g∈L,0<=g)->(S.walk=0->∀ g∈L,S.comeB g=false)->L.foldl Pl.come1 S=(L.filter S.comeB).foldl Pl.stand ((L.filter S.comeA).foldl Pl.on S)
 | [],_,_,_,_=>rfl
 | g::L,S,hn,h0,hw=>by
  obtain ⟨n1,n2⟩:=List.nodup_cons.1 hn
  have h0':∀ k∈L,0<=k:=fun k hk=>h0 k (List.mem_cons_of_mem _ hk)
  have hne:∀ k∈L,k.toNat≠g.toNat:=fun k hk e=>n1 (by
   have:=h0' k hk
   have:=h0 g (List.mem_cons_self ..)
   rw [show g=k by omega]
   exact hk)
  have hAB:S.comeA g=true->S.comeB g=false:=fun h=>by
   unfold Pl.comeA at h
   unfold Pl.comeB
   rw [Bool.and_eq_true,decide_eq_true_eq] at h
   rw [decide_eq_false (by omega),Bool.false_and]
  rw [List.foldl_cons,List.filter_cons,List.filter_cons]
  by_cases hA:S.comeA g=true
  ·have e1:S.come1 g=S.on g:=if_pos hA
   rw [e1,if_pos hA,if_neg (by rw [hAB hA];simp),Pl.come_fold L (S.on g) n2 h0' fun h k hk=>by
    rw [(S.comeA_on g k (hne k hk)).2]
    exact hw (by rw [← (S.on_same g).2.2.2.2.2];exact h) k (List.mem_cons_of_mem _ hk)]
   rw [List.foldl_cons]
   have f1:L.filter (S.on g).comeB=L.filter S.comeB:=List.filter_congr fun k hk=>(S.comeA_on g k (hne k hk)).2
   have f2:L.filter (S.on g).comeA=L.filter S.comeA:=List.filter_congr fun k hk=>(S.comeA_on g k (hne k hk)).1
   rw [f1,f2]
  ·rw [if_neg hA]
   by_cases hB:S.comeB g=true
   ·have e1:S.come1 g=S.stand g:=by unfold Pl.come1;rw [if_neg hA,if_pos hB]
    have hw0:S.walk≠0:=fun h=>by rw [hw h g (List.mem_cons_self ..)] at hB;cases hB
    rw [e1,if_pos hB,Pl.come_fold L (S.stand g) n2 h0' fun h=>absurd h hw0,List.foldl_cons]
    have f1:L.filter (S.stand g).comeB=L.filter S.comeB:=List.filter_congr fun k hk=>(S.comeA_stand g k (hne k hk)).2
    have f2:L.filter (S.stand g).comeA=L.filter S.comeA:=List.filter_congr fun k hk=>(S.comeA_stand g k (hne k hk)).1
    rw [f1,f2,Pl.on_stands g _ S (fun k hk=>hne k (List.mem_filter.1 hk).1) hw0]
   ·have e1:S.come1 g=S:=by unfold Pl.come1;rw [if_neg hA,if_neg hB]
    rw [e1,if_neg hB,Pl.come_fold L S n2 h0' fun h k hk=>hw h k (List.mem_cons_of_mem _ hk)]
theorem Lt (n:Nat):Bn (n+1)=Bn n++[(n:Int)]:=by
 unfold Bn
 rw [List.range_succ,List.map_append]
 rfl
theorem QT {k:Nat}:∀ n:Nat,k<n->∃ Y,Bn n=Bn k++(k:Int)::Y
 | 0,h=>absurd h (Nat.not_lt_zero _)
 | n+1,h=>by
  by_cases c:k=n
  ·subst c;exact ⟨[],Lt k⟩
  ·obtain ⟨Y,hY⟩:=QT (k:=k) n (by omega)
   exact ⟨Y++[(n:Int)],by rw [Lt,hY];simp⟩
theorem Yh {L X Y:List Int} {a:Int} (h:L=X++a::Y):L.take X.length=X/\∃ hk:X.length<L.length,L[X.length]=a:=by
 subst h
 exact ⟨by simp,by simp,by simp⟩
theorem NZ {n k:Nat} {p:Int->Bool} (h:k<n) (hp:p k=true):((Bn n).filter p).take ((Bn k).filter p).length=(Bn k).filter p/\∃ hk:((Bn k).filter p).length<((Bn n).filter p).length,((Bn n).filter p)[((Bn k).filter p).length]=k:=by
 obtain ⟨Y,hY⟩:=QT n h
 refine Yh (Y:=Y.filter p) ?_
 rw [hY,List.filter_append,List.filter_cons,if_pos hp]
theorem Ngt.setP_pa_ne {N:Ngt} {g k:Int} {p:Pty} (h:k.toNat≠g.toNat):(N.setP g p).pa k=N.pa k:=by
 unfold Ngt.pa Ngt.setP
 simp only [List.getD,List.getElem?_set]
 rw [if_neg fun e=>h e.symm]
theorem Ngt.arrive_pa_ne {N:Ngt} {g k:Int} (h:k.toNat≠g.toNat):(N.arrive g).pa k=N.pa k:=by
 unfold Ngt.arrive
 exact Ngt.setP_pa_ne h
theorem Ngt.next_pa_ne {N:Ngt} {g k:Int} (h:k.toNat≠g.toNat):(N.next g).pa k=N.pa k:=by
 unfold Ngt.next
 split
 ·exact Ngt.setP_pa_ne h
 ·split
  ·exact Ngt.arrive_pa_ne h
  ·exact Ngt.setP_pa_ne h
def Ngt.isA (N:Ngt) (g:Int):Bool:=decide ((N.pa g).g.came=N.tick)
def Ngt.isB (N:Ngt) (g:Int):Bool:=decide ((N.pa g).comes=N.tick)
theorem Ngt.foldA (N:Ngt) (k:Nat):(List.range k).foldl Ngt.comeA N=((Bn k).filter N.isA).foldl Ngt.next N:=by
 rw [← Gm (c:=Ngt.isA) (f:=Ngt.next) (fun N g j g0 j0 h=>by
  unfold Ngt.isA
  rw [Ngt.next_pa_ne (by omega),(N.next_rest g).2.1]) _ _ (DR _) fun g hg=>(BN.1 hg).1]
 unfold Bn
 rw [List.foldl_map]
 congr 1
 funext M i
 unfold Ngt.comeA Ngt.isA
 simp only [decide_eq_true_eq]
theorem Ngt.foldB (N:Ngt) (k:Nat):(List.range k).foldl Ngt.comeB N=((Bn k).filter N.isB).foldl Ngt.arrive N:=by
 rw [← Gm (c:=Ngt.isB) (f:=Ngt.arrive) (fun N g j g0 j0 h=>by
  unfold Ngt.isB
  rw [Ngt.arrive_pa_ne (by omega),(N.arrive_rest g).2.1]) _ _ (DR _) fun g hg=>(BN.1 hg).1]
 unfold Bn
 rw [List.foldl_map]
 congr 1
 funext M i
 unfold Ngt.comeB Ngt.isB
 simp only [decide_eq_true_eq]
section
variable {w:Int} {B:List BthG} {G:List Grp} {d e:Int} {N:Ngt} {S:Pl} {pl:Int->Int} {up:List Int} {fx:Int}
theorem Rl.hand0 (h:Rl w B G d e N S pl [] fx) (L:List Int) (hL:∀ g∈L,pl g=0):Rl w B G d e N S (fun g=>if g∈L then 5 else pl g) [] fx:=by
 have hpn:∀ k,pl k≠0->(if k∈L then 5 else pl k)=pl k:=fun k hk=>if_neg fun hm=>hk (hL k hm)
 have hpp:∀ (k p:Int),p≠5->(if k∈L then 5 else pl k)=p->pl k=p:=fun k p hp hk=>by
  split at hk
  ·omega
  ·exact hk
 refine { h with gr:=?_,wk:=?_,qu:=?_,ql:=?_,qe:=?_,qc:=?_,oe:=?_,oc:=?_,ue:=fun k hk=>(by cases hk),uc:=?_ }
 ·intro k k0 k1
  have hr:=h.gr k k0 k1
  by_cases c:k∈L
  ·rw [if_pos c]
   have hp:=hL k c
   have h0:=hr.c0 hp
   refine ⟨hr.w0,hr.w1,hr.tk,fun _=>hr.cm (by omega),?_,fun h'=>by omega,fun h'=>by omega,fun h'=>by omega,fun h'=>by omega,fun h'=>by omega,fun _=>by omega,fun h'=>by omega,fun h'=>by omega,by omega⟩
   rcases hr.hm with h' | h'
   ·exact .inl h'
   ·omega
  ·rw [if_neg c];exact hr
 ·intro k k0 k1 hk
  exact h.wk k k0 k1 (hpp k 1 (by omega) hk)
 ·intro r r0 r1
  rw [← h.qu r r0 r1]
  apply List.filter_congr
  intro k _
  by_cases c:k∈L
  ·have hp:=hL k c
   rw [if_pos c,decide_eq_true (show (5:Int)≠6 by omega),decide_eq_true (show pl k≠6 by omega)]
  ·rw [if_neg c]
 ·intro r r0 r1 k hk
  obtain ⟨a1,a2,a3⟩:=h.ql r r0 r1 k hk
  exact ⟨a1,a2,fun h6=>a3 (hpp k 6 (by omega) h6)⟩
 ·intro r r0 r1 x hx
  obtain ⟨a1,a2,a3,a4,a5⟩:=h.qe r r0 r1 x hx
  exact ⟨a1,a2,by rw [hpn _ (by omega)];exact a3,a4,a5⟩
 ·intro k k0 k1 hk
  exact h.qc k k0 k1 (hpp k 2 (by omega) hk)
 ·intro r r0 r1 k hk
  obtain ⟨a1,a2,a3,a4⟩:=h.oe r r0 r1 k hk
  exact ⟨a1,a2,by rw [hpn _ (by omega)];exact a3,a4⟩
 ·intro k k0 k1 hk
  exact h.oc k k0 k1 (hpp k 3 (by omega) hk)
 ·intro k k0 k1 hk
  exact h.uc k k0 k1 (hpp k 7 (by omega) hk)
theorem Rl.standsL (hv:Val w B G):∀ (L:List Int) (N:Ngt) (S:Pl) (pl:Int->Int),Rl w B G d e N S pl [] fx->Mo G N->(∀ g∈L,0<=g/\g<G.length/\pl g=1)->L.Nodup ->
  (∀ k,(hk:k<L.length)->((L.take k).foldl Ngt.arrive N).Arr L[k])/\∃ pl',Rl w B G d e (L.foldl Ngt.arrive N) (L.foldl Pl.stand S) pl' [] fx/\Mo G (L.foldl Ngt.arrive N) /\
   (∀ k,k ∉ L->pl' k=pl k)/\(∀ k∈L,pl' k=2)/\(∀ k:Int,0<=k->k ∉ L->(L.foldl Ngt.arrive N).pa k=N.pa k)/\(L.foldl Ngt.arrive N).tick=N.tick
 | [],N,S,pl,h,m,_,_=>⟨fun k hk=>absurd hk (Nat.not_lt_zero _),pl,h,m,fun _ _=>rfl,fun k hk=>(by cases hk),fun _ _ _=>rfl,rfl⟩
 | g::L,N,S,pl,h,m,hL,hn=>by
  obtain ⟨g0,g1,hp⟩:=hL g (List.mem_cons_self ..)
  obtain ⟨n1,n2⟩:=List.nodup_cons.1 hn
  have h1:=h.stands hv g0 g1 hp
  have hr:=h.gr g g0 g1
  obtain ⟨q1,pl',q2,q3,q4,q5,q6,q7⟩:=Rl.standsL hv L (N.arrive g) (S.stand g) _ h1 (m.arrive g) (fun k hk=>by
   obtain ⟨a1,a2,a3⟩:=hL k (List.mem_cons_of_mem _ hk)
   exact ⟨a1,a2,by rw [Cl (show k≠g from fun c=>n1 (by rw [← c];exact hk))];exact a3⟩) n2
  refine ⟨fun k hk=>?_,pl',q2,q3,fun k hk=>?_,fun k hk=>?_,fun k k0 hk=>?_,by rw [List.foldl_cons,q7];rfl⟩
  ·cases k with
   | zero=>exact h.arr_ok hv g0 g1 (hr.c1 hp).2.2.1
   | succ k=>exact q1 k (by simpa using hk)
  ·have hk1:k≠g:=fun c=>hk (c▸List.mem_cons_self ..)
   rw [q4 k fun c=>hk (List.mem_cons_of_mem _ c),Cl hk1]
  ·rcases List.mem_cons.1 hk with rfl | hk
   ·rw [q4 k n1,AD]
   ·exact q5 k hk
  ·have hk1:k≠g:=fun c=>hk (c▸List.mem_cons_self ..)
   rw [List.foldl_cons,q6 k k0 fun c=>hk (List.mem_cons_of_mem _ c),Ngt.arrive_pa_ne (by omega)]
theorem Rl.walks (h:Rl w B G 0 e N S pl up fx) (hk:∀ g:Int,0<=g->g<G.length->pl g=1->N.tick+1<=(N.pa g).comes):Rl w B G 1 e N S pl up fx:={ h with wk:=hk }
theorem Rl.come_ (h:Rl w B G 0 e N S pl [] fx) (hv:Val w B G) (m:Mo G N) (ht:N.tick<=4000) (hreg:∀ g:Int,0<=g->g<G.length->pl g<=4) (h0:∀ g:Int,0<=g->g<G.length->(pl g=0↔N.tick<=(gd G g).came)):
  U2 N/\∃ pl',Rl w B G 1 e N.come S.come pl' [] fx/\Mo G N.come/\N.come.tick=N.tick/\∀ g:Int,0<=g->g<G.length->pl' g<=4/\(pl' g=0↔N.tick+1<=(gd G g).came):=by
 have ht0:=h.t0
 have hgd:∀ g:Int,0<=g->g<G.length->(N.pa g).g=gd G g:=fun g g0 g1=>h.pg g0 g1
 have hA:∀ g∈(Bn G.length).filter N.isA,0<=g/\g<G.length/\(gd G g).came=N.tick:=fun g hg=>by
  obtain ⟨h1,h2⟩:=List.mem_filter.1 hg
  obtain ⟨g0,g1⟩:=BN.1 h1
  unfold Ngt.isA at h2
  rw [decide_eq_true_eq,hgd g g0 g1] at h2
  exact ⟨g0,g1,h2⟩
 have hA':∀ g:Int,0<=g->g<G.length->(gd G g).came=N.tick->g∈(Bn G.length).filter N.isA:=fun g g0 g1 hc=>by
  refine List.mem_filter.2 ⟨BN.2 ⟨g0,g1⟩,?_⟩
  unfold Ngt.isA
  rw [decide_eq_true_eq,hgd g g0 g1]
  exact hc
 have hnA:((Bn G.length).filter N.isA).Nodup:=(DR _).sublist List.filter_sublist
 have h1:=h.hand0 ((Bn G.length).filter N.isA) fun g hg=>by
  obtain ⟨g0,g1,hc⟩:=hA g hg
  exact (h0 g g0 g1).2 (by omega)
 obtain ⟨q1,pl1,q2,q3,q4,q5,q6,q7⟩:=Rl.goes hv (by omega) _ _ _ _ h1 m (by omega) (fun g hg=>by
  obtain ⟨g0,g1,hc⟩:=hA g hg
  exact ⟨g0,g1,if_pos hg⟩) hnA
 have hfA:=N.foldA
 have hSA:(Bn G.length).filter S.comeA=(Bn G.length).filter N.isA:=by
  apply List.filter_congr
  intro g hg
  obtain ⟨g0,g1⟩:=BN.1 hg
  have hr:=h.gr g g0 g1
  have hst:=hr.st_of (hreg g g0 g1)
  have hp0:=h0 g g0 g1
  unfold Pl.comeA Ngt.isA
  have e1:S.gr g=gd G g:=by unfold Pl.gr;rw [h.sg];rfl
  rw [hst,e1,h.tk,hgd g g0 g1]
  by_cases c:(gd G g).came=N.tick
  ·rw [decide_eq_true (hp0.2 (by omega)),Bool.true_and]
  ·rw [decide_eq_false c,Bool.and_false]
 generalize hLA:(Bn G.length).filter N.isA=LA at *
 generalize hN1:LA.foldl Ngt.next N=N1 at *
 have hN1t:N1.tick=N.tick:=q7
 have hB1:∀ g:Int,0<=g->g<G.length->((N1.pa g).comes=N.tick↔(S.gu g).st=1/\S.now-(S.gu g).since=w):=fun g g0 g1=>by
  have hr:=h.gr g g0 g1
  have hst:=hr.st_of (hreg g g0 g1)
  have htk:=h.tk
  by_cases c:g∈LA
  ·have hp0:pl g=0:=(h0 g g0 g1).2 (by have:=(hA g c).2.2;omega)
   have hr1:=q2.gr g g0 g1
   rcases q5 g c with h5 | h5 | ⟨h5,h6,h7⟩
   ·have:=hr1.cm (by omega);omega
   ·have:=hr1.cm (by omega);omega
   ·omega
  ·have hpa:=q6 g g0 c
   rw [hpa]
   by_cases hp1:pl g=1
   ·obtain ⟨c1,c2,c3,c4,c5,c6,c7⟩:=hr.c1 hp1
    omega
   ·have:=hr.cm hp1
    omega
 have hSB:(Bn G.length).filter S.comeB=(Bn G.length).filter N1.isB:=by
  apply List.filter_congr
  intro g hg
  obtain ⟨g0,g1⟩:=BN.1 hg
  have:=hB1 g g0 g1
  unfold Pl.comeB Ngt.isB
  rw [h.sw,hN1t,← Bool.decide_and]
  exact decide_eq_decide.2 this.symm
 have hB:∀ g∈(Bn G.length).filter N1.isB,0<=g/\g<G.length/\pl1 g=1:=fun g hg=>by
  obtain ⟨h1,h2⟩:=List.mem_filter.1 hg
  obtain ⟨g0,g1⟩:=BN.1 h1
  unfold Ngt.isB at h2
  rw [decide_eq_true_eq] at h2
  refine ⟨g0,g1,?_⟩
  by_cases c:pl1 g=1
  ·exact c
  ·have:=(q2.gr g g0 g1).cm c
   omega
 obtain ⟨r1,pl2,r2,r3,r4,r5,r6,r7⟩:=Rl.standsL hv _ _ _ _ q2 q3 hB ((DR _).sublist List.filter_sublist)
 have hcome:N.come=((Bn G.length).filter N1.isB).foldl Ngt.arrive N1:=by
  unfold Ngt.come
  rw [h.np,hfA,hLA,hN1,N1.foldB]
 have hScome:S.come=((Bn G.length).filter N1.isB).foldl Pl.stand (LA.foldl Pl.on S):=by
  unfold Pl.come
  rw [h.sg,Pl.come_fold _ _ (DR _) (fun g hg=>(BN.1 hg).1) (fun hw g hg=>?_),hSA,hSB]
  obtain ⟨g0,g1⟩:=BN.1 hg
  have hr:=h.gr g g0 g1
  have hst:=hr.st_of (hreg g g0 g1)
  unfold Pl.comeB
  rw [hst]
  by_cases c:pl g=1
  ·have:=(hr.c1 c).2.2.2.2.1
   rw [h.sw] at hw
   exact absurd hw this
  ·rw [decide_eq_false c,Bool.false_and]
 have hfin:∀ g:Int,0<=g->g<G.length->pl2 g=1->N.tick+1<=((((Bn G.length).filter N1.isB).foldl Ngt.arrive N1).pa g).comes:=fun g g0 g1 hp=>by
  by_cases c:g∈(Bn G.length).filter N1.isB
  ·have:=r5 g c;omega
  ·rw [r6 g g0 c]
   rw [r4 g c] at hp
   have hne:(N1.pa g).comes≠N.tick:=fun e=>c (List.mem_filter.2 ⟨BN.2 ⟨g0,g1⟩,by unfold Ngt.isB;rw [decide_eq_true_eq,hN1t];exact e⟩)
   have:=q2.wk g g0 g1 hp
   rw [hN1t] at this
   omega
 refine ⟨⟨fun k hk hc=>?_,fun k hk hc=>?_⟩,pl2,?_,?_,?_,fun g g0 g1=>?_⟩
 ·rw [h.np] at hk
  rw [hfA k] at hc ⊢
  have hst:(((Bn k).filter N.isA).foldl Ngt.next N).stat B.length G:=BG (fun N g h=>N.next_stat h g) _ _ h.stat
  have htk:∀ (L:List Int) (M:Ngt),(L.foldl Ngt.next M).tick=M.tick:=fun L=>by
   induction L with
   | nil=>intro M;rfl
   | cons a L ih=>intro M;rw [List.foldl_cons,ih,(M.next_rest a).2.1]
  have hpk:((((Bn k).filter N.isA).foldl Ngt.next N).pa k).g=gd G k:=by
   have hg:(k:Int).toNat<(((Bn k).filter N.isA).foldl Ngt.next N).parties.length:=by rw [hst.len];exact hk
   have e2:(((((Bn k).filter N.isA).foldl Ngt.next N).parties.map Pty.g).getD (k:Int).toNat Grp.d)=((((Bn k).filter N.isA).foldl Ngt.next N).pa k).g:=by simp only [Ngt.pa,List.getD,List.getElem?_map];simp only [List.getElem?_eq_getElem hg];rfl
   rw [← e2,hst.2]
   rfl
  rw [hpk,htk] at hc
  have hik:N.isA k=true:=by
   unfold Ngt.isA
   rw [decide_eq_true_eq,hgd k (by omega) (by omega)]
   exact hc
  obtain ⟨s1,s2,s3⟩:=NZ (n:=G.length) hk hik
  simp only [hLA] at s1 s2 s3
  have:=q1 _ s2
  rw [s1,s3] at this
  exact this
 ·rw [h.np] at hk hc ⊢
  rw [hfA,hLA,hN1,N1.foldB] at hc ⊢
  have hpk:((((Bn k).filter N1.isB).foldl Ngt.arrive N1).pa k)=N1.pa k:=by
   have:∀ (L:List Int) (M:Ngt),(∀ j∈L,(k:Int).toNat≠j.toNat)->(L.foldl Ngt.arrive M).pa k=M.pa k:=fun L=>by
    induction L with
    | nil=>intro M _;rfl
    | cons a L ih=>intro M hM;rw [List.foldl_cons,ih _ fun j hj=>hM j (List.mem_cons_of_mem _ hj),Ngt.arrive_pa_ne (hM a (List.mem_cons_self ..))]
   refine this _ _ fun j hj=>?_
   have:=BN.1 (List.mem_filter.1 hj).1
   omega
  have htk:∀ (L:List Int) (M:Ngt),(L.foldl Ngt.arrive M).tick=M.tick:=fun L=>by
   induction L with
   | nil=>intro M;rfl
   | cons a L ih=>intro M;rw [List.foldl_cons,ih];rfl
  rw [hpk,htk] at hc
  have hik:N1.isB k=true:=by unfold Ngt.isB;rw [decide_eq_true_eq];exact hc
  obtain ⟨s1,s2,s3⟩:=NZ (n:=G.length) hk hik
  have:=r1 _ s2
  rw [s1,s3] at this
  exact this
 ·rw [hcome,hScome]
  exact r2.walks (by rw [r7,hN1t];exact hfin)
 ·rw [hcome];exact r3
 ·rw [hcome,r7,hN1t]
 ·have hp0:=h0 g g0 g1
  have hre:=hreg g g0 g1
  by_cases c:g∈(Bn G.length).filter N1.isB
  ·have h2:=r5 g c
   have h1':=(hB g c).2.2
   refine ⟨by omega,⟨fun e=>by omega,fun e=>?_⟩⟩
   by_cases cA:g∈LA
   ·have:=(hA g cA).2.2;omega
   ·rw [q4 g cA,if_neg cA] at h1'
    omega
  ·rw [r4 g c]
   by_cases cA:g∈LA
   ·have hc:=(hA g cA).2.2
    rcases q5 g cA with h5 | h5 | ⟨h5,_⟩<;>omega
   ·rw [q4 g cA,if_neg cA]
    refine ⟨hre,?_⟩
    rw [hp0]
    constructor
    ·intro e
     have:(gd G g).came≠N.tick:=fun e'=>cA (hA' g g0 g1 e')
     omega
    ·intro e;omega
end
def Pl.quits (S:Pl) (g:Int):Bool:=decide ((S.gu g).st=2)&&decide ((S.gr g).patience<S.now-(S.gu g).since)
def Pl.quit (S:Pl) (g:Int):Pl:=S.leave g false
def Pl.leaves (S:Pl):Pl:=(Bn S.G.length).foldl (fun S g=>if S.quits g=true then S.quit g else S) S
theorem Pl.quit_eq (S:Pl) (g:Int):S.quit g=(S.unq g false).on g:=rfl
theorem Pl.quit_ne {S:Pl} {g k:Int} (h:k.toNat≠g.toNat):(S.quit g).gu k=S.gu k:=by
 rw [S.quit_eq,Pl.on_ne h]
 rfl
theorem Pl.quits_quit (S:Pl) (g k:Int) (g0:0<=g) (k0:0<=k) (h:k≠g):(S.quit g).quits k=S.quits k:=by
 obtain ⟨a1,_,a3,_,_,_⟩:=(S.unq g false).on_same g
 unfold Pl.quits Pl.gr
 rw [Pl.quit_ne (by omega),S.quit_eq,a1,a3]
 rfl
theorem Ngt.leaveK_all (N:Ngt) {r:Int} (h:r.toNat<N.rides.length):(N.leaveK N.rides.length).bo r=N.stay1 (N.bo r):=by
 unfold Ngt.leaveK Ngt.bo
 simp [List.getD,h]
theorem Ngt.goneK_mem2 (N:Ngt) {x:Int×Int}:∀ k:Nat,k<=N.rides.length->(x∈N.goneK k↔∃ r:Nat,r<k/\x∈(N.bo r).queue/\N.quits x=true)
 | 0,_=>by simp [Ngt.goneK]
 | k+1,h=>by
  rw [N.goneK_succ (by omega),List.mem_append,N.goneK_mem2 k (by omega)]
  constructor
  ·rintro (⟨r,h1,h2⟩ | h1)
   ·exact ⟨r,by omega,h2⟩
   ·exact ⟨k,by omega,List.mem_filter.1 h1⟩
  ·rintro ⟨r,h1,h2,h3⟩
   by_cases e:r=k
   ·subst e;exact .inr (List.mem_filter.2 ⟨h2,h3⟩)
   ·exact .inl ⟨r,by omega,h2,h3⟩
section
variable {w:Int} {B:List BthG} {G:List Grp} {d e:Int} {N:Ngt} {S:Pl} {pl:Int->Int} {up:List Int} {fx:Int}
theorem Rl.goneK_nodup (h:Rl w B G d e N S pl up fx):∀ k:Nat,k<=N.rides.length->((N.goneK k).map Prod.fst).Nodup
 | 0,_=>by simp [Ngt.goneK]
 | k+1,hk=>by
  have hr:=h.nr
  rw [N.goneK_succ (by omega),List.map_append]
  refine List.nodup_append.2 ⟨h.goneK_nodup k (by omega),(h.qn k (by omega) (by omega)).sublist (List.Sublist.map _ List.filter_sublist),fun a ha b hb=>?_⟩
  obtain ⟨x,hx,rfl⟩:=List.mem_map.1 ha
  obtain ⟨y,hy,rfl⟩:=List.mem_map.1 hb
  obtain ⟨r,r1,r2,_⟩:=(N.goneK_mem2 k (by omega)).1 hx
  have hy:=(List.mem_filter.1 hy).1
  have h1:=(h.qe r (by omega) (by omega) x r2).2.2.2.1
  have h2:=(h.qe k (by omega) (by omega) y hy).2.2.2.1
  intro e'
  rw [e'] at h1
  omega
theorem Rl.quitL (hv:Val w B G) (hd:d<=1):∀ (P:List (Int×Int)) (N:Ngt) (S:Pl) (pl:Int->Int),Rl w B G d e N S pl [] fx->Mo G N->N.tick<=5000->(∀ x∈P,0<=x.1/\x.1<G.length/\pl x.1=6/\x.2=(S.gu x.1).since)->(P.map Prod.fst).Nodup ->
  (∀ k,(hk:k<P.length)->((P.take k).foldl Ngt.quit N).Dne P[k].1/\(((P.take k).foldl Ngt.quit N).done P[k] false).Nxt P[k].1) /\
  ∃ pl',Rl w B G d e (P.foldl Ngt.quit N) ((P.map Prod.fst).foldl Pl.quit S) pl' [] fx/\Mo G (P.foldl Ngt.quit N) /\
   (∀ k,k ∉ P.map Prod.fst->pl' k=pl k)/\(∀ k∈P.map Prod.fst,pl' k=4∨pl' k=2∨pl' k=1)/\(P.foldl Ngt.quit N).tick=N.tick
 | [],N,S,pl,h,m,_,_,_=>⟨fun k hk=>absurd hk (Nat.not_lt_zero _),pl,h,m,fun _ _=>rfl,fun k hk=>(by cases hk),rfl⟩
 | (g,c)::P,N,S,pl,h,m,ht,hL,hn=>by
  obtain ⟨g0,g1,hp,hc⟩:=hL (g,c) (List.mem_cons_self ..)
  simp only at g0 g1 hp hc
  subst hc
  obtain ⟨n1,n2⟩:=List.nodup_cons.1 hn
  have hr:=h.gr g g0 g1
  have h6:=hr.c6 hp
  have h1:=h.leaves hv g0 g1 hp false
  have m1:=m.done h.t0 g0 g1 (c:=(S.gu g).since) false hr.w0
  have h2:=h1.both hv hd g0 g1 AD
  have m2:=m1.next g
  have htk:(N.quit (g,(S.gu g).since)).tick=N.tick:=((N.done (g,(S.gu g).since) false).next_rest g).2.1
  obtain ⟨q1,pl',q2,q3,q4,q5,q7⟩:=Rl.quitL hv hd P (N.quit (g,(S.gu g).since)) (S.quit g) _ h2 m2 (by rw [htk];exact ht) (fun x hx=>by
   obtain ⟨a1,a2,a3,a4⟩:=hL x (List.mem_cons_of_mem _ hx)
   have hne:x.1≠g:=fun e=>n1 (by show g∈P.map Prod.fst;rw [← e];exact List.mem_map_of_mem hx)
   exact ⟨a1,a2,by rw [Cl hne,Cl hne];exact a3,by rw [Pl.quit_ne (by omega)];exact a4⟩) n2
  refine ⟨fun k hk=>?_,pl',q2,q3,fun k hk=>?_,fun k hk=>?_,by rw [List.foldl_cons,q7,htk]⟩
  ·cases k with
   | zero=>exact ⟨h.dne_ok hv (by have:=h.vlen hv m;omega) g0 g1 h6.2.2.1,h1.nxt_ok hv ht g0 g1⟩
   | succ k=>exact q1 k (by simpa using hk)
  ·have hk1:k≠g:=fun c=>hk (c▸List.mem_cons_self ..)
   rw [q4 k fun c=>hk (List.mem_cons_of_mem _ c),Cl hk1,Cl hk1]
  ·rcases List.mem_cons.1 hk with hk | hk
   ·have hk:k=g:=hk
    subst hk
    rw [q4 k n1,AD]
    have:=U0 w (wn G k) ((N.done (k,(S.gu k).since) false).pa k).wish
    omega
   ·exact q5 k hk
theorem RW {xs:List (Int×Int)} (h:(xs.map Prod.fst).Nodup):((Rq xs).map Prod.fst).Pairwise (· < ·):=by
 have h1:(Rq xs).Pairwise fun a b=>decide (a.1<=b.1)=true:=Ew (le:=fun a b:Int×Int=>decide (a.1<=b.1)) (fun a b c h1 h2=>decide_eq_true (Int.le_trans (of_decide_eq_true h1) (of_decide_eq_true h2))) (fun a b=>by simp only [decide_eq_true_eq];omega) xs
 have h2:((Rq xs).map Prod.fst).Nodup:=((Cn _ xs).map Prod.fst).nodup_iff.2 h
 have h3:((Rq xs).map Prod.fst).Pairwise fun a b=>a<=b:=List.pairwise_map.2 (h1.imp fun h=>of_decide_eq_true h)
 exact h3.imp₂ (fun _ _ h4 h5=>by omega) h2
theorem Rl.leave_ (h:Rl w B G 1 e N S pl [] fx) (hv:Val w B G) (m:Mo G N) (ht:N.tick<=4000) (hreg:∀ g:Int,0<=g->g<G.length->pl g<=4):
  SD N/\∃ pl',Rl w B G 1 e N.leave S.leaves pl' [] fx/\Mo G N.leave/\N.leave.tick=N.tick/\∀ g:Int,0<=g->g<G.length->pl' g<=4/\(pl' g=0↔pl g=0):=by
 have hnr:=h.nr
 have hgd:∀ g:Int,0<=g->g<G.length->(N.pa g).g=gd G g:=fun g g0 g1=>h.pg g0 g1
 have hqk:∀ r:Int,0<=r->r<B.length->∀ x∈(N.bo r).queue,N.quits x=decide ((gd G x.1).patience<N.tick-(S.gu x.1).since):=fun r r0 r1 x hx=>by
  obtain ⟨a1,a2,a3,a4,a5⟩:=h.qe r r0 r1 x hx
  unfold Ngt.quits
  rw [hgd _ a1 a2,a5]
 have hnd:=h.goneK_nodup N.rides.length (Nat.le_refl _)
 have hG:=fun x=>N.goneK_mem2 (x:=x) N.rides.length (Nat.le_refl _)
 have h1:=h.take (fun g=>decide ((gd G g).patience<N.tick-(S.gu g).since)) (N':=N.leaveK N.rides.length) rfl rfl rfl rfl (by
  unfold Ngt.leaveK
  simp only [List.take_length,List.drop_length,List.append_nil,List.map_map]
  apply List.map_congr_left
  intro x _
  rfl) fun r r0 r1=>by
   rw [N.leaveK_all (by omega)]
   unfold Ngt.stay1
   congr 1
   apply List.filter_congr
   intro x hx
   rw [hqk r r0 r1 x hx]
 have m1:Mo G (N.leaveK N.rides.length):=by
  refine m.keep rfl ?_ rfl rfl rfl (Int.le_refl _)
  unfold Ngt.takesL Ngt.leaveK
  simp only [List.take_length,List.drop_length,List.append_nil,List.map_map]
  apply List.map_congr_left
  intro x _
  rfl
 have hmem:∀ x,x∈N.gone↔x∈N.goneK N.rides.length:=fun x=>Rs
 have hP:∀ x∈N.gone,0<=x.1/\x.1<G.length/\(if pl x.1=2/\decide ((gd G x.1).patience<N.tick-(S.gu x.1).since)=true then (6:Int) else pl x.1)=6/\x.2=(S.gu x.1).since:=fun x hx=>by
  obtain ⟨r,r1,r2,r3⟩:=(hG x).1 ((hmem x).1 hx)
  obtain ⟨a1,a2,a3,a4,a5⟩:=h.qe r (by omega) (by omega) x r2
  rw [hqk r (by omega) (by omega) x r2] at r3
  exact ⟨a1,a2,if_pos ⟨a3,r3⟩,a5⟩
 have hnd2:(N.gone.map Prod.fst).Nodup:=((Cn _ _).map Prod.fst).nodup_iff.2 hnd
 obtain ⟨q1,pl',q2,q3,q4,q5,q7⟩:=Rl.quitL hv (by omega) N.gone _ _ _ h1 m1 (show N.tick<=5000 by omega) hP hnd2
 have hS:S.leaves=(N.gone.map Prod.fst).foldl Pl.quit S:=by
  unfold Pl.leaves
  rw [Gm (c:=Pl.quits) (f:=Pl.quit) Pl.quits_quit _ _ (DR _) fun g hg=>(BN.1 hg).1]
  congr 1
  refine Mi ((Ko _).sublist List.filter_sublist) (RW hnd) fun g=>?_
  rw [List.mem_filter,BN,h.sg]
  have hq:∀ (g0:0<=g) (g1:g<G.length),S.quits g=true↔pl g=2/\(gd G g).patience<N.tick-(S.gu g).since:=fun g0 g1=>by
   have hr:=h.gr g g0 g1
   have e1:S.gr g=gd G g:=by unfold Pl.gr;rw [h.sg];rfl
   unfold Pl.quits
   rw [Bool.and_eq_true,decide_eq_true_eq,decide_eq_true_eq,hr.st_of (hreg g g0 g1),e1,h.tk]
  show _↔g∈N.gone.map Prod.fst
  constructor
  ·rintro ⟨⟨g0,g1⟩,hq1⟩
   obtain ⟨p1,p2⟩:=(hq g0 g1).1 hq1
   have hr:=h.gr g g0 g1
   have h2:=hr.c2 p1
   have hvw:=hv.want hr.w0 h2.2.2.1
   have hm:=h.qc g g0 g1 p1
   refine List.mem_map.2 ⟨(g,(S.gu g).since),(hmem _).2 ((hG _).2 ⟨(gt (wn G g) (N.pa g).wish).toNat,by omega,hm,?_⟩),rfl⟩
   rw [hqk _ hvw.1 hvw.2 _ hm]
   exact decide_eq_true p2
  ·intro hm
   obtain ⟨x,hx,rfl⟩:=List.mem_map.1 hm
   obtain ⟨r,r1,r2,r3⟩:=(hG x).1 ((hmem x).1 hx)
   obtain ⟨a1,a2,a3,a4,a5⟩:=h.qe r (by omega) (by omega) x r2
   rw [hqk r (by omega) (by omega) x r2] at r3
   exact ⟨⟨a1,a2⟩,(hq a1 a2).2 ⟨a3,of_decide_eq_true r3⟩⟩
 refine ⟨⟨fun i=>by have:=h.qlen i;have:=hv.n;omega,fun i s hs=>?_,⟨h.t0,by omega⟩,hnd,q1⟩,pl',?_,q3,q7,fun g g0 g1=>?_⟩
 ·by_cases hi:i.toNat<N.rides.length
  ·have e0:N.bo i=N.bo (i.toNat:Int):=rfl
   rw [e0] at hs
   obtain ⟨a1,a2,a3,a4,a5⟩:=h.qe i.toNat (by omega) (by omega) s hs
   have:=(h.gr _ a1 a2).c2 a3
   have hnp:=h.np
   exact ⟨a1,by omega,by omega,by omega⟩
  ·have:N.bo i=Bth.d:=by unfold Ngt.bo;simp [List.getD,hi]
   rw [this] at hs
   cases hs
 ·rw [hS]
  exact q2
 ·by_cases c:g∈N.gone.map Prod.fst
  ·obtain ⟨x,hx,rfl⟩:=List.mem_map.1 c
   obtain ⟨r,r1,r2,r3⟩:=(hG x).1 ((hmem x).1 hx)
   have:=(h.qe r (by omega) (by omega) x r2).2.2.1
   rcases q5 _ c with h5 | h5 | h5<;>omega
  ·rw [q4 g c]
   have hre:=hreg g g0 g1
   by_cases c2:pl g=2/\decide ((gd G g).patience<N.tick-(S.gu g).since)=true
   ·exfalso
    have hr:=h.gr g g0 g1
    have h2:=hr.c2 c2.1
    have hvw:=hv.want hr.w0 h2.2.2.1
    have hm:=h.qc g g0 g1 c2.1
    refine c (List.mem_map.2 ⟨(g,(S.gu g).since),(hmem _).2 ((hG _).2 ⟨(gt (wn G g) (N.pa g).wish).toNat,by omega,hm,?_⟩),rfl⟩)
    rw [hqk _ hvw.1 hvw.2 _ hm]
    exact c2.2
   ·rw [if_neg c2]
    exact ⟨hre,Iff.rfl⟩
end
def Pl.bad (S:Pl) (r g:Int):Bool:=decide ((S.bt r).seats<(S.gr g).size)||decide ((S.gu g).tokens<(S.gr g).size*(S.bt r).price)
def BU (r:Int):List Int->Int->Pl->Pl×Int
 | [],left,S=>(S,left)
 | g::q,left,S=>
  if S.bad r g=true then BU r q left (S.leave g false)
  else if (S.gr g).size<=left then BU r q (left-(S.gr g).size) (S.leave g true)
  else if (S.bt r).fill=true then BU r q left S
  else (S,left)
def Pl.goesOn (S:Pl) (r:Int):Bool:=decide (0<=gt S.began r)||(decide (0<=gt S.ended r)&&decide (S.now-gt S.ended r<(S.bt r).pause))
def Pl.setB (S:Pl) (r t:Int):Pl:={ S with began:=S.began.set r.toNat t }
def Pl.begin (S:Pl) (r:Int):Pl:=
 if S.goesOn r=true then S
 else if (BU r (S.qu r) (S.bt r).seats S).2<(S.bt r).seats then (BU r (S.qu r) (S.bt r).seats S).1.setB r S.now else (BU r (S.qu r) (S.bt r).seats S).1
def Fl.vis (F:Fl) (i:Int) (q:List (Int×Int)):Ngt:=F.N.setR i { F.N.bo i with queue:=F.stay++q }
def Ngt.board (N:Ngt) (i g c:Int):Ngt:=(N.setP g { N.pa g with purse:=(N.pa g).purse-c }).setR i { N.bo i with takes:=(N.bo i).takes+c,on:=(N.bo i).on++[g] }
theorem Fl.vis_keep (F:Fl) (i:Int) (s:Int×Int) (q:List (Int×Int)):(F.keep s).vis i q=F.vis i (s::q):=by
 unfold Fl.vis Fl.keep
 simp only [List.append_assoc,List.singleton_append]
theorem Fl.vis_ride (F:Fl) {i:Int} {s:Int×Int} (q:List (Int×Int)) (hg:s.1.toNat<F.N.parties.length) (hi:i.toNat<F.N.rides.length):(F.ride i s).vis i q=((F.vis i q).done s true).board i s.1 (F.N.cost i s):=by
 have e1:(F.N.gets i s).pa s.1={ F.N.pa s.1 with purse:=(F.N.pa s.1).purse-F.N.cost i s }:=by
  show (F.N.setP s.1 _).pa s.1=_
  rw [Ngt.pa_setP hg,if_pos rfl]
 have e2:((F.vis i q).done s true).pa s.1={ F.N.pa s.1 with wish:=(F.N.pa s.1).wish+1 }:=by
  show (F.N.setP s.1 _).pa s.1=_
  rw [Ngt.pa_setP hg,if_pos rfl]
  rfl
 have e3:((F.N.gets i s).done s true).bo i={ F.N.bo i with takes:=(F.N.bo i).takes+F.N.cost i s,on:=(F.N.bo i).on++[s.1] }:=by
  show (F.N.setR i _).bo i=_
  rw [Ngt.bo_setR hi,if_pos rfl]
 have e4:((F.vis i q).done s true).bo i={ F.N.bo i with queue:=F.stay++q }:=by
  show (F.N.setR i _).bo i=_
  rw [Ngt.bo_setR hi,if_pos rfl]
 unfold Fl.vis at e2 e4
 unfold Fl.vis Ngt.board
 show ((F.N.gets i s).done s true).setR i { ((F.N.gets i s).done s true).bo i with queue:=F.stay++q }=_
 rw [e3,e2,e4]
 unfold Ngt.done
 rw [e1]
 unfold Ngt.setR Ngt.setP Ngt.setV Ngt.gets Ngt.pays Ngt.setP Ngt.setR
 simp only [List.set_set,Ngt.mk.injEq,true_and]
 rfl
section
variable {w:Int} {B:List BthG} {G:List Grp} {d e:Int} {N:Ngt} {S:Pl} {pl:Int->Int} {up:List Int} {fx:Int}
theorem Rl.boards (h:Rl w B G d e N S pl up fx) {g:Int} (g0:0<=g) (g1:g<G.length) (f0:0<=fx) (f1:fx<B.length) (hp:pl g=5) (hw:gt (wn G g) ((N.pa g).wish-1)=fx) (hw0:1<=(N.pa g).wish) (c:Int) (x:Gs) (hx:x=⟨3,(S.gu g).want,S.now,(S.gu g).tokens-c⟩):
  Rl w B G d e (N.board fx g c) ((S.setG g x).setT fx (gt S.takes fx+c)) (plu pl g 3) up fx:=by
 have hr:=h.gr g g0 g1
 have hgl:g.toNat<N.parties.length:=by rw [h.np];omega
 have hgl2:g.toNat<S.guests.length:=by rw [h.lg];omega
 have hil:fx.toNat<N.rides.length:=by rw [h.nr];omega
 have hpa:∀ k:Int,0<=k->(N.board fx g c).pa k=if k=g then { N.pa g with purse:=(N.pa g).purse-c } else N.pa k:=fun k hk=>by
  show (N.setP g _).pa k=_
  rw [Ngt.pa_setP hgl]
  simp only [Bb hk g0]
 have hbo:∀ r:Int,0<=r->(N.board fx g c).bo r=if r=fx then { N.bo r with takes:=(N.bo r).takes+c,on:=(N.bo r).on++[g] } else N.bo r:=fun r hr'=>by
  show (N.setR fx _).bo r=_
  rw [Ngt.bo_setR hil]
  simp only [Bb hr' f0]
  by_cases e':r=fx
  ·rw [if_pos e',if_pos e',e']
  ·rw [if_neg e',if_neg e']
 have hgu:∀ k:Int,0<=k->((S.setG g x).setT fx (gt S.takes fx+c)).gu k=if k=g then x else S.gu k:=fun k hk=>by
  show (S.setG g x).gu k=_
  rw [Pl.gu_setG hgl2]
  simp only [Bb hk g0]
 have hpk:∀ k:Int,0<=k->((N.board fx g c).pa k).wish=(N.pa k).wish:=fun k hk=>by
  rw [hpa k hk]
  by_cases e':k=g
  ·rw [if_pos e',e']
  ·rw [if_neg e']
 have hpl:∀ k:Int,k≠g->plu pl g 3 k=pl k:=fun k hk=>Cl hk
 have harr:∀ r,arr w G (N.board fx g c) up r=arr w G N up r:=fun r=>by
  unfold arr
  split
  ·apply List.filter_congr
   intro k hk
   rw [hpk k (h.ue k hk).1]
  ·rfl
 have hbq:∀ r:Int,0<=r->((N.board fx g c).bo r).queue=(N.bo r).queue/\((N.board fx g c).bo r).ended=(N.bo r).ended/\((N.board fx g c).bo r).begun=(N.bo r).begun/\((N.board fx g c).bo r).b=(N.bo r).b/\((N.board fx g c).bo r).line=(N.bo r).line:=fun r hr'=>by
  rw [hbo r hr']
  split<;>exact ⟨rfl,rfl,rfl,rfl,rfl⟩
 refine { nw:=h.nw,nb:=?_,ng:=?_,sw:=h.sw,sb:=h.sb,sg:=h.sg,lg:=by show (S.guests.set _ _).length=_;rw [List.length_set];exact h.lg,lh:=h.lh,lq:=h.lq,lb:=h.lb,le:=h.le,lt:=by show (S.takes.set _ _).length=_;rw [List.length_set];exact h.lt,ll:=h.ll,tk:=h.tk,t0:=h.t0,vs:=h.vs,gr:=?_,wk:=?_,qu:=?_,ql:=?_,qe:=?_,qn:=?_,qc:=?_,oe:=?_,on:=?_,oc:=?_,re:=?_,rb:=?_,rt:=?_,ue:=?_,un:=h.un,uc:=?_ }
 ·rw [← h.nb]
  exact Ngt.setR_nb (N:=N.setP g _) rfl
 ·exact (h.stat.setP (g:=g) (p:={ N.pa g with purse:=(N.pa g).purse-c }) rfl).2
 ·intro k k0 k1
  show RG w N.tick (wn G k) _ _ (gt S.homes k) _
  rw [hpa k k0,hgu k k0]
  by_cases e':k=g
  ·subst e'
   rw [if_pos rfl,if_pos rfl,AD,hx]
   have h5:=hr.c5 hp
   refine ⟨hr.w0,hr.w1,?_,fun _=>hr.cm (by omega),?_,fun h'=>by omega,fun h'=>by omega,fun h'=>by omega,fun _=>⟨rfl,h5,by show 0<=(S.gu k).want;omega⟩,fun h'=>by omega,fun h'=>by omega,fun h'=>by omega,fun h'=>by omega,by omega⟩
   ·show (S.gu k).tokens-c=(N.pa k).purse-c
    rw [hr.tk]
   ·rcases hr.hm with h' | h'
    ·exact .inl h'
    ·omega
  ·rw [if_neg e',if_neg e',hpl k e']
   exact h.gr k k0 k1
 ·intro k k0 k1 hk
  by_cases e':k=g
  ·subst e';rw [AD] at hk;omega
  ·rw [hpl k e'] at hk
   rw [hpa k k0,if_neg e']
   exact h.wk k k0 k1 hk
 ·intro r r0 r1
  rw [harr,(hbq r r0).1,← h.qu r r0 r1]
  show (S.qu r).filter _=_
  exact E8 (.inl ⟨by omega,by omega⟩)
 ·intro r r0 r1 k hk
  obtain ⟨a1,a2,a3⟩:=h.ql r r0 r1 k hk
  refine ⟨a1,a2,fun h6=>?_⟩
  rw [hpk k a1]
  refine a3 ?_
  by_cases e':k=g
  ·subst e';rw [AD] at h6;omega
  ·rwa [hpl k e'] at h6
 ·intro r r0 r1 y hy
  rw [(hbq r r0).1] at hy
  obtain ⟨a1,a2,a3,a4,a5⟩:=h.qe r r0 r1 y hy
  have e':y.1≠g:=fun e'=>by rw [e'] at a3;omega
  rw [hpl _ e',hpk _ a1,hgu _ a1,if_neg e']
  exact ⟨a1,a2,a3,a4,a5⟩
 ·intro r r0 r1
  rw [(hbq r r0).1]
  exact h.qn r r0 r1
 ·intro k k0 k1 hk
  by_cases e':k=g
  ·subst e';rw [AD] at hk;omega
  ·rw [hpl k e'] at hk
   rw [hpk k k0,hgu k k0,if_neg e']
   have hm:=h.qc k k0 k1 hk
   by_cases hneg:0<=gt (wn G k) (N.pa k).wish
   ·rw [(hbq _ hneg).1]
    exact hm
   ·have e0:∀ M:Ngt,M.bo (gt (wn G k) (N.pa k).wish)=M.bo 0:=fun M=>by
     unfold Ngt.bo
     rw [show (gt (wn G k) (N.pa k).wish).toNat=(0:Int).toNat by omega]
    rw [e0] at hm ⊢
    rw [(hbq 0 (by omega)).1]
    exact hm
 ·intro r r0 r1 k hk
  rw [hbo r r0] at hk
  have key:k∈(N.bo r).on∨r=fx/\k=g:=by
   split at hk
   ·rename_i e'
    rcases List.mem_append.1 hk with hk | hk
    ·exact .inl hk
    ·exact .inr ⟨e',List.mem_singleton.1 hk⟩
   ·exact .inl hk
  rcases key with hk | ⟨e1,e2⟩
  ·obtain ⟨a1,a2,a3,a4⟩:=h.oe r r0 r1 k hk
   have e':k≠g:=fun e'=>by rw [e'] at a3;omega
   rw [hpl k e',hpk k a1]
   exact ⟨a1,a2,a3,a4⟩
  ·subst e2
   rw [hpk k g0,e1]
   exact ⟨g0,g1,AD,hw⟩
 ·intro r r0 r1
  rw [hbo r r0]
  have hn:=h.on r r0 r1
  split
  ·refine List.nodup_append.2 ⟨hn,by simp,fun a ha b hb=>?_⟩
   rw [List.mem_singleton.1 hb]
   intro e'
   have:=(h.oe r r0 r1 a ha).2.2.1
   rw [e'] at this
   omega
  ·exact hn
 ·intro k k0 k1 hk
  rw [hpk k k0]
  by_cases e':k=g
  ·subst e'
   rw [hw,hbo fx f0,if_pos rfl]
   simp
  ·rw [hpl k e'] at hk
   have hm:=h.oc k k0 k1 hk
   have hmm:∀ r:Int,0<=r->k∈(N.bo r).on->k∈((N.board fx g c).bo r).on:=fun r r0 hm=>by
    rw [hbo r r0]
    split
    ·exact List.mem_append_left _ hm
    ·exact hm
   by_cases hneg:0<=gt (wn G k) ((N.pa k).wish-1)
   ·exact hmm _ hneg hm
   ·have e0:∀ M:Ngt,M.bo (gt (wn G k) ((N.pa k).wish-1))=M.bo 0:=fun M=>by
     unfold Ngt.bo
     rw [show (gt (wn G k) ((N.pa k).wish-1)).toNat=(0:Int).toNat by omega]
    rw [e0] at hm ⊢
    exact hmm 0 (by omega) hm
 ·intro r r0 r1
  rw [(hbq r r0).2.1]
  exact h.re r r0 r1
 ·intro r r0 r1
  obtain ⟨b1,b2,b3,b4,b5⟩:=hbq r r0
  obtain ⟨a1,a2,a3,a4,a5⟩:=h.rb r r0 r1
  rw [b3,b4]
  refine ⟨a1,a2,fun hf=>?_,fun hf hon=>?_,a5⟩
  ·rw [hbo r r0,if_neg hf]
   exact a3 hf
  ·rw [hbo r r0,if_neg hf] at hon
   exact a4 hf hon
 ·intro r r0 r1
  obtain ⟨a1,a2⟩:=h.rt r r0 r1
  rw [(hbq r r0).2.2.2.2]
  refine ⟨?_,a2⟩
  show gt (S.takes.set fx.toNat (gt S.takes fx+c)) r=_
  rw [hbo r r0]
  unfold gt
  rw [BF (by rw [h.lt];omega)]
  simp only [Bb r0 f0]
  by_cases e':r=fx
  ·rw [if_pos e',if_pos e',← e']
   show gt S.takes r+c=(N.bo r).takes+c
   rw [a1]
  ·rw [if_neg e',if_neg e']
   exact a1
 ·intro k hk
  obtain ⟨a1,a2,a3⟩:=h.ue k hk
  rw [hpl k fun e'=>by rw [e'] at a3;omega]
  exact ⟨a1,a2,a3⟩
 ·intro k k0 k1 hk
  by_cases e':k=g
  ·subst e';rw [AD] at hk;omega
  ·rw [hpl k e'] at hk
   exact h.uc k k0 k1 hk
theorem Mo.board {i g c:Int} (h:Mo G N) (i0:0<=i) (i1:i<N.rides.length) (g0:0<=g) (g1:g<G.length) (c0:0<=c) (c1:c<=(N.pa g).purse):Mo G (N.board i g c):=by
 have ht:i<N.takesL.length:=by unfold Ngt.takesL;rw [List.length_map];exact i1
 have hp:g<N.purseL.length:=by unfold Ngt.purseL;rw [List.length_map,h.lp];exact g1
 have e1:(N.board i g c).takesL=N.takesL.set i.toNat (gt N.takesL i+c):=by
  rw [← N.bo_takes]
  unfold Ngt.takesL Ngt.board Ngt.setR Ngt.setP
  simp only
  rw [List.map_set]
 have e2:(N.board i g c).purseL=N.purseL.set g.toNat (gt N.purseL g-c):=by
  rw [← N.pa_purse]
  unfold Ngt.purseL Ngt.board Ngt.setR Ngt.setP
  simp only
  rw [List.map_set]
 have e3:(N.board i g c).wishL=N.wishL:=Ngt.setP_wishL (N:=N) rfl
 have hm:=h.mt
 refine ⟨(List.length_set ..).trans h.lp,?_,?_,?_,by rw [e3];exact h.vl,by rw [e3];exact h.vk,h.vu⟩
 ·rw [e1,e2,OO i0 ht,OO g0 hp]
  omega
 ·rw [e1]
  intro x hx
  rcases List.mem_or_eq_of_mem_set hx with hx | hx
  ·exact h.tp x hx
  ·rw [hx]
   rcases OT (xs:=N.takesL) i with hm | hm
   ·have:=h.tp _ hm;omega
   ·omega
 ·rw [e2]
  intro x hx
  rcases List.mem_or_eq_of_mem_set hx with hx | hx
  ·exact h.pp x hx
  ·rw [hx,← N.pa_purse]
   omega
theorem Rl.afterL (hv:Val w B G) (hd:d<=1):∀ (L:List Int) (N:Ngt) (pl:Int->Int),Rl w B G d e N S pl L fx->Mo G N->N.tick<=5000 ->
  (∀ k,(hk:k<L.length)->((L.take k).foldl Ngt.next N).Nxt L[k])/\∃ pl',Rl w B G d e (L.foldl Ngt.next N) S pl' [] fx/\Mo G (L.foldl Ngt.next N) /\
   (∀ k,k ∉ L->pl' k=pl k)/\(∀ k∈L,pl' k=4∨pl' k=2∨pl' k=1)/\(L.foldl Ngt.next N).tick=N.tick
 | [],N,pl,h,m,_=>⟨fun k hk=>absurd hk (Nat.not_lt_zero _),pl,h,m,fun _ _=>rfl,fun k hk=>(by cases hk),rfl⟩
 | g::L,N,pl,h,m,ht=>by
  obtain ⟨g0,g1,hp⟩:=h.ue g (List.mem_cons_self ..)
  obtain ⟨n1,n2⟩:=List.nodup_cons.1 h.un
  have h1:=h.after hv hd
  have ht1:(N.next g).tick=N.tick:=(N.next_rest g).2.1
  obtain ⟨q1,pl',q2,q3,q4,q5,q7⟩:=Rl.afterL hv hd L (N.next g) _ h1 (m.next g) (by rw [ht1];exact ht)
  refine ⟨fun k hk=>?_,pl',q2,q3,fun k hk=>?_,fun k hk=>?_,by rw [List.foldl_cons,q7,ht1]⟩
  ·cases k with
   | zero=>exact h.nxt_ok hv ht g0 g1
   | succ k=>exact q1 k (by simpa using hk)
  ·have hk1:k≠g:=fun c=>hk (c▸List.mem_cons_self ..)
   rw [q4 k fun c=>hk (List.mem_cons_of_mem _ c),Cl hk1]
  ·rcases List.mem_cons.1 hk with rfl | hk
   ·rw [q4 k n1,AD]
    have:=U0 w (wn G k) (N.pa k).wish
    omega
   ·exact q5 k hk
end
theorem Jw (i:Int):∀ (q:List (Int×Int)) (F:Fl),(Cb i q F).away.length<=F.away.length+q.length
 | [],F=>Nat.le_refl _
 | s::q,F=>by
  unfold Cb
  split
  ·have:=Jw i q (F.out s)
   have e:(F.out s).away.length=F.away.length+1:=List.length_append
   simp only [List.length_cons]
   omega
  ·split
   ·split
    ·have:=Jw i q (F.keep s)
     have e:(F.keep s).away.length=F.away.length:=rfl
     simp only [List.length_cons]
     omega
    ·exact Nat.le_add_right _ _
   ·have:=Jw i q (F.ride i s)
    have e:(F.ride i s).away.length=F.away.length:=rfl
    simp only [List.length_cons]
    omega
section
variable {w:Int} {B:List BthG} {G:List Grp} {d e:Int} {N:Ngt} {S:Pl} {pl:Int->Int} {up:List Int} {fx:Int}
theorem Rl.bt_eq (h:Rl w B G d e N S pl up fx) {r:Int} (r0:0<=r) (r1:r<B.length):S.bt r=(N.bo r).b:=by rw [h.bb r0 r1];unfold Pl.bt;rw [h.sb]
theorem Rl.gr_eq (h:Rl w B G d e N S pl up fx) {g:Int} (g0:0<=g) (g1:g<G.length):S.gr g=(N.pa g).g:=by rw [h.pg g0 g1];unfold Pl.gr;rw [h.sg]
structure Fm (w:Int) (B:List BthG) (G:List Grp) (i:Int) (q:List (Int×Int)) (F:Fl) (S:Pl) (pl:Int->Int) (t:Int):Prop where
 r:Rl w B G 1 1 (F.vis i q) S pl F.away i
 m:Mo G (F.vis i q)
 tk:F.N.tick=t
 t1:t<=4000
 s:F.seats<=(F.N.bo i).b.seats
 s0:0<=F.seats
 so:F.seats<(F.N.bo i).b.seats↔(F.N.bo i).on≠[]
 p:∀ g:Int,0<=g->g<G.length->pl g<=4∨pl g=7
theorem Fl.vis_bo (F:Fl) {i:Int} {q:List (Int×Int)} (hi:i.toNat<F.N.rides.length):(F.vis i q).bo i={ F.N.bo i with queue:=F.stay++q }:=by
 unfold Fl.vis
 rw [Ngt.bo_setR hi,if_pos rfl]
theorem Fl.vis_bo_ne (F:Fl) {i r:Int} {q:List (Int×Int)} (h:r.toNat≠i.toNat):(F.vis i q).bo r=F.N.bo r:=by
 unfold Fl.vis Ngt.bo Ngt.setR
 simp only [List.getD,List.getElem?_set]
 rw [if_neg fun e=>h e.symm]
theorem Rl.first {F:Fl} {s:Int×Int} {q:List (Int×Int)} {i:Int} (h:Rl w B G d e (F.vis i (s::q)) S pl up fx) (i0:0<=i) (i1:i<B.length):
  (0<=s.1/\s.1<G.length/\pl s.1=2/\gt (wn G s.1) (F.N.pa s.1).wish=i/\s.2=(S.gu s.1).since) /\
  Rl w B G d e (F.vis i q) S (plu pl s.1 6) up fx:=by
 have hil:i.toNat<F.N.rides.length:=by
  have:=h.nr
  unfold Fl.vis Ngt.setR at this
  simp only [List.length_set] at this
  omega
 have hbo:(F.vis i (s::q)).bo i={ F.N.bo i with queue:=F.stay++s::q }:=F.vis_bo hil
 have hq:=h.qe i i0 i1 s (by rw [hbo];simp)
 obtain ⟨a1,a2,a3,a4,a5⟩:=hq
 have hpa:∀ k,(F.vis i (s::q)).pa k=F.N.pa k:=fun k=>rfl
 have hqn:=h.qn i i0 i1
 rw [hbo] at hqn
 have hqn:((F.stay++s::q).map Prod.fst).Nodup:=hqn
 have h1:=h.take (fun g=>decide (g=s.1)) (N':=F.vis i q) rfl rfl rfl rfl ?_ ?_
 ·refine ⟨⟨a1,a2,a3,a4,a5⟩,?_⟩
  have e1:(fun g=>if pl g=2/\decide (g=s.1)=true then 6 else pl g)=plu pl s.1 6:=by
   funext k
   unfold plu
   by_cases c:k=s.1
   ·rw [if_pos c,if_pos ⟨by rw [c];exact a3,decide_eq_true c⟩]
   ·rw [if_neg c,if_neg fun h'=>c (of_decide_eq_true h'.2)]
  rw [e1] at h1
  exact h1
 ·have e1:(F.vis i q).rides.map Bth.b=F.N.rides.map Bth.b:=Ngt.setR_nb rfl
  have e2:(F.vis i (s::q)).rides.map Bth.b=F.N.rides.map Bth.b:=Ngt.setR_nb rfl
  rw [e1,e2]
 ·intro r r0 r1
  by_cases c:r=i
  ·subst c
   rw [hbo,F.vis_bo hil]
   simp only [Bth.mk.injEq,true_and,and_true]
   rw [List.map_append,List.map_cons] at hqn
   obtain ⟨_,n2,n3⟩:=List.nodup_append.1 hqn
   obtain ⟨n4,_⟩:=List.nodup_cons.1 n2
   rw [List.filter_append,List.filter_cons,if_neg (by simp)]
   congr 1
   ·symm
    rw [List.filter_eq_self]
    intro x hx
    have:x.1≠s.1:=n3 x.1 (List.mem_map_of_mem hx) s.1 (List.mem_cons_self ..)
    simp [this]
   ·symm
    rw [List.filter_eq_self]
    intro x hx
    have:x.1≠s.1:=fun e'=>n4 (by rw [← e'];exact List.mem_map_of_mem hx)
    simp [this]
  ·have hne:r.toNat≠i.toNat:=by omega
   rw [F.vis_bo_ne hne,F.vis_bo_ne hne]
   have hf:(F.N.bo r).queue.filter (fun x=>!decide (x.1=s.1))=(F.N.bo r).queue:=by
    rw [List.filter_eq_self]
    intro x hx
    have hx':x∈((F.vis i (s::q)).bo r).queue:=by rw [F.vis_bo_ne hne];exact hx
    obtain ⟨b1,b2,b3,b4,b5⟩:=h.qe r r0 r1 x hx'
    have:x.1≠s.1:=fun e'=>by
     rw [e'] at b4
     have b4:gt (wn G s.1) (F.N.pa s.1).wish=r:=b4
     have a4:gt (wn G s.1) (F.N.pa s.1).wish=i:=a4
     omega
    simp [this]
   rw [hf]
theorem Mo.vis_cons {F:Fl} {s:Int×Int} {q:List (Int×Int)} {i:Int} (h:Mo G (F.vis i (s::q))):Mo G (F.vis i q):=by
 refine h.keep rfl ?_ rfl rfl rfl (Int.le_refl _)
 have e1:(F.vis i q).takesL=F.N.takesL:=Ngt.setR_takesL rfl
 have e2:(F.vis i (s::q)).takesL=F.N.takesL:=Ngt.setR_takesL rfl
 rw [e1,e2]
theorem Fm.go (hv:Val w B G) {i:Int} (i0:0<=i) (i1:i<B.length) {t:Int}:∀ (q:List (Int×Int)) (F:Fl) (S:Pl) (pl:Int->Int),Fm w B G i q F S pl t ->
  KD i q F/\∃ pl',Fm w B G i [] (Cb i q F) (BU i (q.map Prod.fst) F.seats S).1 pl' t/\(BU i (q.map Prod.fst) F.seats S).2=(Cb i q F).seats/\∀ g:Int,0<=g->g<G.length->(pl' g=0↔pl g=0)
 | [],F,S,pl,h=>⟨trivial,pl,h,rfl,fun _ _ _=>Iff.rfl⟩
 | s::q,F,S,pl,h=>by
  obtain ⟨⟨g0,g1,hp,hwi,hsi⟩,hr1⟩:=h.r.first i0 i1
  obtain ⟨g,c⟩:=s
  simp only at g0 g1 hp hwi hsi hr1
  subst hsi
  have hr:=h.r.gr g g0 g1
  have hnr:F.N.rides.length=B.length:=by
   have:=h.r.nr
   unfold Fl.vis Ngt.setR at this
   simpa using this
  have hnp:F.N.parties.length=G.length:=h.r.np
  have hil:i.toNat<F.N.rides.length:=by omega
  have hgl:g.toNat<F.N.parties.length:=by omega
  have hbo:=F.vis_bo (q:=(g,(S.gu g).since)::q) hil
  have hbt:S.bt i=(F.N.bo i).b:=by rw [h.r.bt_eq i0 i1,hbo]
  have hgr:S.gr g=(F.N.pa g).g:=h.r.gr_eq g0 g1
  have hbv:=h.r.bv hv i0 i1
  rw [hbo] at hbv
  simp only at hbv
  have hgv:_/\(1<=(F.N.pa g).g.size/\(F.N.pa g).g.size<=40)/\_:=h.r.gv hv g0 g1
  have hpu:0<=(F.N.pa g).purse/\(F.N.pa g).purse<=600000:=h.m.purse hv g
  have hta:0<=(F.N.bo i).takes/\(F.N.bo i).takes<=600000:=by have:=h.m.take hv i;rw [hbo] at this;exact this
  have htk:(S.gu g).tokens=(F.N.pa g).purse:=hr.tk
  have hvn:=hv.n
  have hcost:F.N.cost i (g,(S.gu g).since)=(F.N.pa g).g.size*(F.N.bo i).b.price:=rfl
  have hc0:=Int.mul_nonneg (show 0<=(F.N.pa g).g.size by omega) hbv.2.1.1
  have hbad:S.bad i g=F.bad i (g,(S.gu g).since):=by
   unfold Pl.bad Fl.bad
   rw [hbt,hgr,htk,hcost]
  have hfl:(decide ((S.gr g).size<=F.seats))=!F.full (g,(S.gu g).since):=by
   unfold Fl.full
   rw [hgr]
   show decide ((F.N.pa g).g.size<=F.seats)=!decide (F.seats<(F.N.pa g).g.size)
   by_cases c':F.seats<(F.N.pa g).g.size
   ·rw [decide_eq_true c',decide_eq_false (by omega)];rfl
   ·rw [decide_eq_false c',decide_eq_true (by omega)];rfl
  have hwish:(F.N.pa g).wish<(wn G g).length:=(hr.c2 hp).2.2.1
  have hwish0:0<=(F.N.pa g).wish:=hr.w0
  have hwt:(S.gr g).wants=wn G g:=h.r.sgw g
  have hsw:(S.gu g).want=(F.N.pa g).wish:=(hr.c2 hp).2.1
  have hvl:F.N.visits.length<=4000000000:=by have:=h.r.vlen hv h.m;exact Nat.le_trans this (by omega)
  have hdne:∀ M:Ngt,M.parties.length=F.N.parties.length->M.visits=F.N.visits->(M.pa g).wish=(F.N.pa g).wish->(M.pa g).g=(F.N.pa g).g->M.Dne g:=fun M e1 e2 e3 e4=>by
   have ew:(F.N.pa g).g.wants=wn G g:=h.r.pw g0 g1
   exact ⟨g0,by omega,by rw [e3];exact hwish0,by rw [e3,e4,ew];exact hwish,by rw [e4,ew];have:=hv.wlen g;omega,by rw [e2];exact hvl⟩
  have hstl:F.stay.length+((g,(S.gu g).since)::q).length<=60:=by
   have:=h.r.qlen i
   rw [hbo] at this
   have this:(F.stay++(g,(S.gu g).since)::q).length<=G.length:=this
   rw [List.length_append] at this
   omega
  have hawl:F.away.length<=60:=by
   have:=Cr G.length F.away h.r.un fun x hx=>by have:=h.r.ue x hx;omega
   omega
  have honl:(F.N.bo i).on.length<=60:=by
   have:=h.r.olen i
   rw [hbo] at this
   have this:(F.N.bo i).on.length<=G.length:=this
   omega
  have hB:FlB i F (g,(S.gu g).since) q:=by
   refine ⟨g0,hgl,hil,by show 0<=(F.N.pa g).g.size/\(F.N.pa g).g.size<=1000;omega,by omega,?_,?_,?_,by omega,by omega,?_⟩
   ·have:=h.s;have:=h.s0;omega
   ·show _<=(F.N.pa g).purse/\(F.N.pa g).purse<=_;omega
   ·omega
   ·simp only [List.length_cons] at hstl;omega
  have hb6:(F.N.bo i).b=(F.N.bo i).b:=rfl
  have hp7:∀ (p:Int->Int),(∀ k:Int,0<=k->k<G.length->pl k<=4∨pl k=7)->∀ x:Int,(x<=4∨x=7)->(∀ k,k≠g->p k=pl k)->p g=x->∀ k:Int,0<=k->k<G.length->p k<=4∨p k=7:=fun p h1 x hx h2 h3 k k0 k1=>by
   by_cases c':k=g
   ·rw [c',h3];exact hx
   ·rw [h2 k c'];exact h1 k k0 k1
  rw [List.map_cons]
  by_cases cb:F.bad i (g,(S.gu g).since)=true
  ·-- given up
   have h2:=(hr1.leaves hv g0 g1 AD false).go hv g0 g1 AD
   have m2:=h.m.vis_cons.done h.r.t0 g0 g1 (c:=(S.gu g).since) false hr.w0
   have e1:plu (plu (plu pl g 6) g 5) g 7=plu pl g 7:=by
    funext k;unfold plu;split<;>rfl
   rw [e1] at h2
   have hF:Fm w B G i q (F.out (g,(S.gu g).since)) (S.leave g false) (plu pl g 7) t:=by
    refine ⟨?_,m2,h.tk,h.t1,h.s,h.s0,h.so,hp7 _ h.p 7 (.inr rfl) (fun k hk=>Cl hk) AD⟩
    exact h2
   obtain ⟨q1,pl',q2,q3,q4⟩:=Fm.go hv i0 i1 q _ _ _ hF
   refine ⟨⟨hB,fun _=>⟨hdne F.N rfl rfl rfl rfl,q1⟩,(fun c'=>by rw [cb] at c';cases c'),fun c'=>by rw [cb] at c';cases c'⟩,pl',?_,?_,fun k k0 k1=>?_⟩
   ·rw [Cb,if_pos cb,BU,if_pos (by rw [hbad];exact cb)]
    exact q2
   ·rw [Cb,if_pos cb,BU,if_pos (by rw [hbad];exact cb)]
    exact q3
   ·rw [q4 k k0 k1]
    by_cases c':k=g
    ·rw [c',AD];omega
    ·rw [Cl c']
  ·have cb':F.bad i (g,(S.gu g).since)=false:=by simpa using cb
   by_cases cf:F.full (g,(S.gu g).since)=true
   ·have hns:¬ (S.gr g).size<=F.seats:=by rw [cf] at hfl;exact of_decide_eq_false hfl
    by_cases cl:(F.N.bo i).b.fill=true
    ·have hF:Fm w B G i q (F.keep (g,(S.gu g).since)) S pl t:=by
      refine ⟨?_,?_,h.tk,h.t1,h.s,h.s0,h.so,h.p⟩
      ·rw [F.vis_keep];exact h.r
      ·rw [F.vis_keep];exact h.m
     obtain ⟨q1,pl',q2,q3,q4⟩:=Fm.go hv i0 i1 q _ _ _ hF
     refine ⟨⟨hB,fun c'=>absurd c' cb,fun _ _ _=>q1,fun _ c'=>by rw [cf] at c';cases c'⟩,pl',?_,?_,q4⟩
     ·rw [Cb,if_neg cb,if_pos cf,if_pos cl,BU,if_neg (by rw [hbad];exact cb),if_neg hns,if_pos (by rw [hbt];exact cl)]
      exact q2
     ·rw [Cb,if_neg cb,if_pos cf,if_pos cl,BU,if_neg (by rw [hbad];exact cb),if_neg hns,if_pos (by rw [hbt];exact cl)]
      exact q3
    ·refine ⟨⟨hB,fun c'=>absurd c' cb,fun _ _ c'=>absurd c' cl,fun _ c'=>by rw [cf] at c';cases c'⟩,pl,?_,?_,fun _ _ _=>Iff.rfl⟩
     ·rw [Cb,if_neg cb,if_pos cf,if_neg cl,BU,if_neg (by rw [hbad];exact cb),if_neg hns,if_neg (by rw [hbt];exact cl)]
      have e1:({ F with stay:=F.stay++(g,(S.gu g).since)::q }:Fl).vis i []=F.vis i ((g,(S.gu g).since)::q):=by
       unfold Fl.vis
       simp only [List.append_nil]
      exact ⟨by rw [e1];exact h.r,by rw [e1];exact h.m,h.tk,h.t1,h.s,h.s0,h.so,h.p⟩
     ·rw [Cb,if_neg cb,if_pos cf,if_neg cl,BU,if_neg (by rw [hbad];exact cb),if_neg hns,if_neg (by rw [hbt];exact cl)]
   ·have cf':F.full (g,(S.gu g).since)=false:=by simpa using cf
    have hsz:(S.gr g).size<=F.seats:=by rw [cf'] at hfl;exact of_decide_eq_true hfl
    have hcp:(F.N.pa g).g.size*(F.N.bo i).b.price<=(F.N.pa g).purse:=by
     unfold Fl.bad at cb'
     rw [Bool.or_eq_false_iff] at cb'
     have this:¬ (F.N.pa g).purse<(F.N.pa g).g.size*(F.N.bo i).b.price:=of_decide_eq_false cb'.2
     omega
    have h2:=hr1.leaves hv g0 g1 AD true
    have m2:=h.m.vis_cons.done h.r.t0 g0 g1 (c:=(S.gu g).since) true hr.w0
    have hgx:(((F.vis i q).done (g,(S.gu g).since) true).pa g)={ F.N.pa g with wish:=(F.N.pa g).wish+1 }:=by
     show (F.N.setP g _).pa g=_
     rw [Ngt.pa_setP hgl,if_pos rfl]
     rfl
    have hpr:S.price g=(F.N.pa g).g.size*(F.N.bo i).b.price:=by
     unfold Pl.price
     rw [hwt,hsw,hwi,hbt,hgr,Int.mul_comm]
    have h3:=h2.boards g0 g1 i0 i1 AD (by rw [hgx];show gt (wn G g) ((F.N.pa g).wish+1-1)=i;rw [show (F.N.pa g).wish+1-1=(F.N.pa g).wish by omega];exact hwi) (by rw [hgx];show 1<=(F.N.pa g).wish+1;omega) (S.price g) { S.gu g with st:=3,since:=S.now,tokens:=(S.gu g).tokens-S.price g } rfl
    have m3:=m2.board (i:=i) (g:=g) (c:=S.price g) i0 (by show i<(F.vis i q).rides.length;unfold Fl.vis Ngt.setR;simp only [List.length_set];omega) g0 g1 (by rw [hpr];exact hc0) (by rw [hgx,hpr];exact hcp)
    have e1:plu (plu (plu pl g 6) g 5) g 3=plu pl g 3:=by
     funext k;unfold plu;split<;>rfl
    rw [e1] at h3
    have eN:(F.ride i (g,(S.gu g).since)).vis i q=((F.vis i q).done (g,(S.gu g).since) true).board i g (S.price g):=by
     rw [F.vis_ride q hgl hil,hpr]
     rfl
    have eS:S.leave g true=((S.unq g true).setG g { S.gu g with st:=3,since:=S.now,tokens:=(S.gu g).tokens-S.price g }).setT i (gt (S.unq g true).takes i+S.price g):=by
     unfold Pl.leave
     rw [if_pos rfl,hwt,hsw,hwi]
     rfl
    have hbo3:((F.ride i (g,(S.gu g).since)).N.bo i)={ F.N.bo i with takes:=(F.N.bo i).takes+F.N.cost i (g,(S.gu g).since),on:=(F.N.bo i).on++[g] }:=by
     show (F.N.setR i _).bo i=_
     rw [Ngt.bo_setR hil,if_pos rfl]
    have hF:Fm w B G i q (F.ride i (g,(S.gu g).since)) (S.leave g true) (plu pl g 3) t:=by
     have hsz2:(F.N.pa g).g.size<=F.seats:=by rw [← hgr];exact hsz
     have hs:=h.s
     refine ⟨by rw [eN,eS];exact h3,by rw [eN];exact m3,h.tk,h.t1,?_,?_,?_,hp7 _ h.p 3 (.inl (by omega)) (fun k hk=>Cl hk) AD⟩
     ·rw [hbo3]
      show F.seats-(F.N.pa g).g.size<=(F.N.bo i).b.seats
      omega
     ·show 0<=F.seats-(F.N.pa g).g.size
      omega
     ·rw [hbo3]
      show F.seats-(F.N.pa g).g.size<(F.N.bo i).b.seats↔(F.N.bo i).on++[g]≠[]
      exact ⟨fun _=>by simp,fun _=>by omega⟩
    obtain ⟨q1,pl',q2,q3,q4⟩:=Fm.go hv i0 i1 q _ _ _ hF
    have hse:(F.ride i (g,(S.gu g).since)).seats=F.seats-(S.gr g).size:=by rw [hgr];rfl
    refine ⟨⟨hB,fun c'=>absurd c' cb,(fun _ c'=>by rw [cf'] at c';cases c'),fun _ _=>⟨?_,q1⟩⟩,pl',?_,?_,fun k k0 k1=>?_⟩
    ·have e2:((F.N.gets i (g,(S.gu g).since)).pa g)={ F.N.pa g with purse:=(F.N.pa g).purse-F.N.cost i (g,(S.gu g).since) }:=by
      show (F.N.setP g _).pa g=_
      rw [Ngt.pa_setP hgl,if_pos rfl]
     exact hdne _ (List.length_set ..) rfl (by rw [e2]) (by rw [e2])
    ·rw [Cb,if_neg cb,if_neg cf,BU,if_neg (by rw [hbad];exact cb),if_pos hsz,← hse]
     exact q2
    ·rw [Cb,if_neg cb,if_neg cf,BU,if_neg (by rw [hbad];exact cb),if_pos hsz,← hse]
     exact q3
    ·rw [q4 k k0 k1]
     by_cases c':k=g
     ·rw [c',AD];omega
     ·rw [Cl c']
theorem Rl.begin_ (h:Rl w B G 1 1 N S pl [] (-1)) (hv:Val w B G) (m:Mo G N) (ht:N.tick<=4000) (hreg:∀ g:Int,0<=g->g<G.length->pl g<=4) {i:Int} (i0:0<=i) (i1:i<B.length):
  Vn N i/\∃ pl',Rl w B G 1 1 (N.begin i) (S.begin i) pl' [] (-1)/\Mo G (N.begin i)/\(N.begin i).tick=N.tick/\∀ g:Int,0<=g->g<G.length->pl' g<=4/\(pl' g=0↔pl g=0):=by
 have hnr:=h.nr
 have hil:i.toNat<N.rides.length:=by omega
 have hvn:=hv.n
 obtain ⟨re1,re2,re3⟩:=h.re i i0 i1
 obtain ⟨rb1,rb2,rb3,rb4,rb5⟩:=h.rb i i0 i1
 have rb3:=rb3 (by omega)
 have hbt:=h.bt_eq i0 i1
 have hbv:=h.bv hv i0 i1
 have harr:arr w G N [] i=[]:=by unfold arr;split<;>rfl
 have hqu:S.qu i=(N.bo i).queue.map Prod.fst:=by
  have h1:=h.qu i i0 i1
  rw [harr,List.append_nil] at h1
  rw [← h1,eq_comm,List.filter_eq_self]
  intro k hk
  obtain ⟨a1,a2,_⟩:=h.ql i i0 i1 k hk
  have:=hreg k a1 a2
  exact decide_eq_true (by omega)
 have hql:=h.qlen i
 have haw:=Jw i (N.bo i).queue (N.fl0 i)
 have haw0:(N.fl0 i).away.length=0:=rfl
 have hgo:S.goesOn i=(decide (0<(N.bo i).on.length)||(decide (0<=(N.bo i).ended)&&decide (N.tick-(N.bo i).ended<(N.bo i).b.pause))):=by
  unfold Pl.goesOn
  rw [rb3,re1,hbt,h.tk]
  congr 1
  by_cases c:(N.bo i).on=[]
  ·rw [if_pos c,c];rfl
  ·rw [if_neg c,decide_eq_true rb1,decide_eq_true (List.length_pos_iff.2 c)]
 by_cases hsh:N.shut i=true
 ·refine ⟨⟨by omega,⟨h.t0,by omega⟩,(fun c=>by rw [hsh] at c;cases c),by omega,?_,(fun c=>by rw [hsh] at c;cases c)⟩,pl,?_,?_,?_,fun g g0 g1=>⟨hreg g g0 g1,Iff.rfl⟩⟩
  ·show (Cb i (N.bo i).queue (N.fl0 i)).away.length<=_
   omega
  ·rw [Ngt.begin,if_pos hsh]
   unfold Pl.begin
   by_cases hg:S.goesOn i=true
   ·rw [if_pos hg];exact h
   ·rw [if_neg hg]
    have hq0:(N.bo i).queue=[]:=by
     unfold Ngt.shut at hsh
     rw [hgo] at hg
     have:(N.bo i).queue.length=0:=by
      simp only [Bool.or_eq_true,decide_eq_true_eq,Bool.and_eq_true,not_or] at hsh hg
      omega
     exact List.length_eq_zero_iff.1 this
    rw [hqu,hq0]
    show Rl w B G 1 1 N (if (S.bt i).seats<(S.bt i).seats then _ else S) pl [] (-1)
    rw [if_neg (by omega)]
    exact h
  ·rw [Ngt.begin,if_pos hsh];exact m
  ·rw [Ngt.begin,if_pos hsh]
 ·have hsh':N.shut i=false:=by simpa using hsh
  have hon:(N.bo i).on=[]:=by
   unfold Ngt.shut at hsh'
   rw [Bool.or_eq_false_iff] at hsh'
   have:=of_decide_eq_false hsh'.1
   exact List.length_eq_zero_iff.1 (by omega)
  have hg:¬ S.goesOn i=true:=by
   rw [hgo]
   unfold Ngt.shut at hsh'
   rw [Bool.or_eq_false_iff,Bool.or_eq_false_iff] at hsh'
   rw [hsh'.1,hsh'.2.1]
   simp
  have hvis:(N.fl0 i).vis i (N.bo i).queue=N:=by
   unfold Fl.vis Ngt.fl0
   simp only [List.nil_append]
   rw [Ngt.bo_setR hil,if_pos rfl,Ngt.setR_setR]
   exact N.setR_self i
  have hbo0:(N.fl0 i).N.bo i={ N.bo i with queue:=[] }:=by
   show (N.setR i _).bo i=_
   rw [Ngt.bo_setR hil,if_pos rfl]
  have h0:Rl w B G 1 1 N S pl [] i:=by
   refine { h with rb:=fun r r0 r1=>?_ }
   obtain ⟨a1,a2,a3,a4,a5⟩:=h.rb r r0 r1
   refine ⟨a1,a2,fun _=>a3 (by omega),fun _=>a4 (by omega),fun e'=>?_⟩
   rw [e',rb3,if_pos hon]
  have hF:Fm w B G i (N.bo i).queue (N.fl0 i) S pl N.tick:=by
   refine ⟨by rw [hvis];exact h0,by rw [hvis];exact m,rfl,ht,?_,?_,?_,fun g g0 g1=>.inl (hreg g g0 g1)⟩
   ·rw [hbo0];exact Int.le_refl _
   ·show 0<=(N.bo i).b.seats;omega
   ·rw [hbo0]
    show (N.bo i).b.seats<(N.bo i).b.seats↔(N.bo i).on≠[]
    rw [hon]
    exact ⟨fun h'=>absurd h' (Int.lt_irrefl _),fun h'=>absurd rfl h'⟩
  obtain ⟨q1,pl',q2,q3,q4⟩:=Fm.go hv i0 i1 _ _ _ _ hF
  change Fm w B G i [] (N.fl i) _ pl' N.tick at q2
  change _=(N.fl i).seats at q3
  have hes:(N.fl0 i).seats=(N.bo i).b.seats:=rfl
  rw [hes] at q2 q3
  have hback:(N.fl i).vis i []=(N.fl i).back i:=by
   unfold Fl.vis Fl.back
   rw [List.append_nil]
  have hSb:S.begin i=if (N.fl i).seats<(N.bo i).b.seats then (BU i ((N.bo i).queue.map Prod.fst) (N.bo i).b.seats S).1.setB i S.now else (BU i ((N.bo i).queue.map Prod.fst) (N.bo i).b.seats S).1:=by
   unfold Pl.begin
   rw [if_neg hg,hqu,hbt,q3]
  generalize (BU i ((N.bo i).queue.map Prod.fst) (N.bo i).b.seats S).1=S1 at *
  have qr:=q2.r
  have qm:=q2.m
  rw [hback] at qr qm
  have hbt2:((N.fl i).back i).tick=N.tick:=q2.tk
  obtain ⟨r1,pl2,r2,r3,r4,r5,r7⟩:=Rl.afterL hv (by omega) (N.fl i).away _ _ qr qm (by rw [hbt2];omega)
  change Rl w B G 1 1 (N.gone1 i) S1 pl2 [] i at r2
  change Mo G (N.gone1 i) at r3
  change (N.gone1 i).tick=_ at r7
  rw [hbt2] at r7
  have hnrf:(N.fl i).N.rides.length=B.length:=by
   have:=q2.r.nr
   unfold Fl.vis Ngt.setR at this
   simpa using this
  have hbof:((N.fl i).back i).bo i={ (N.fl i).N.bo i with queue:=(N.fl i).stay }:=by
   unfold Fl.back
   rw [Ngt.bo_setR (by omega),if_pos rfl]
  have hnext:∀ (L:List Int) (M:Ngt),((L.foldl Ngt.next M).bo i).on=(M.bo i).on/\((L.foldl Ngt.next M).bo i).b=(M.bo i).b:=fun L=>by
   induction L with
   | nil=>intro M;exact ⟨rfl,rfl⟩
   | cons a L ih=>
    intro M
    rw [List.foldl_cons]
    obtain ⟨i1',i2'⟩:=ih (M.next a)
    have:((M.next a).bo i).on=(M.bo i).on/\((M.next a).bo i).b=(M.bo i).b:=by
     unfold Ngt.next
     split
     ·exact ⟨rfl,rfl⟩
     ·split
      ·unfold Ngt.arrive
       have key:∀ (K:Ngt) (j:Int) (Q:List (Int×Int)),((K.setR j { K.bo j with queue:=Q }).bo i).on=(K.bo i).on/\((K.setR j { K.bo j with queue:=Q }).bo i).b=(K.bo i).b:=fun K j Q=>by
        by_cases hj:j.toNat<K.rides.length
        ·rw [Ngt.bo_setR hj]
         by_cases c:i.toNat=j.toNat
         ·rw [if_pos c]
          have:K.bo i=K.bo j:=by unfold Ngt.bo;rw [c]
          rw [this]
          exact ⟨rfl,rfl⟩
         ·rw [if_neg c]
          exact ⟨rfl,rfl⟩
        ·have:K.setR j { K.bo j with queue:=Q }=K:=by
          unfold Ngt.setR
          rw [List.set_eq_of_length_le (by omega)]
         rw [this]
         exact ⟨rfl,rfl⟩
       exact key (M.setP a _) _ _
      ·exact ⟨rfl,rfl⟩
    rw [i1',i2',this.1,this.2]
    exact ⟨rfl,rfl⟩
  obtain ⟨on1,on2⟩:=hnext (N.fl i).away ((N.fl i).back i)
  change ((N.gone1 i).bo i).on=_ at on1
  change ((N.gone1 i).bo i).b=_ at on2
  rw [hbof] at on1 on2
  have hbb2:((N.fl i).N.bo i).b=(N.bo i).b:=by
   have e1:=r2.bb i0 i1
   have e2:=h.bb i0 i1
   rw [on2] at e1
   rw [e2]
   exact e1
  have hso:=q2.so
  rw [hbb2] at hso
  have hlen1:i.toNat<(N.gone1 i).rides.length:=by rw [r2.nr];omega
  have hfin:∀ g:Int,0<=g->g<G.length->pl2 g<=4/\(pl2 g=0↔pl g=0):=fun g g0 g1=>by
   have e1:=q4 g g0 g1
   by_cases c:g∈(N.fl i).away
   ·have h7:=(q2.r.ue g c).2.2
    have:=r5 g c
    omega
   ·rw [r4 g c]
    have:=q2.p g g0 g1
    have h7:pl' g≠7:=fun h7=>c (q2.r.uc g g0 g1 h7)
    omega
  refine ⟨⟨by omega,⟨h.t0,by omega⟩,fun _=>q1,by omega,?_,fun _=>r1⟩,pl2,?_,?_,?_,hfin⟩
  ·show (Cb i (N.bo i).queue (N.fl0 i)).away.length<=_
   omega
  ·rw [hSb,Ngt.begin,if_neg hsh,Ngt.start]
   by_cases c:0<((N.gone1 i).bo i).on.length
   ·have c2:((N.fl i).N.bo i).on≠[]:=by
     rw [on1] at c
     exact List.length_pos_iff.1 c
    rw [if_pos c,if_pos (hso.2 c2)]
    have hbo:∀ r:Int,0<=r->((N.gone1 i).setR i { (N.gone1 i).bo i with begun:=(N.gone1 i).tick }).bo r=if r=i then { (N.gone1 i).bo r with begun:=(N.gone1 i).tick } else (N.gone1 i).bo r:=fun r r0=>by
     rw [Ngt.bo_setR hlen1]
     simp only [Bb r0 i0]
     by_cases e':r=i
     ·rw [if_pos e',if_pos e',e']
     ·rw [if_neg e',if_neg e']
    have hboo:∀ r:Int,0<=r->(((N.gone1 i).setR i { (N.gone1 i).bo i with begun:=(N.gone1 i).tick }).bo r).queue=((N.gone1 i).bo r).queue/\(((N.gone1 i).setR i { (N.gone1 i).bo i with begun:=(N.gone1 i).tick }).bo r).on=((N.gone1 i).bo r).on/\(((N.gone1 i).setR i { (N.gone1 i).bo i with begun:=(N.gone1 i).tick }).bo r).ended=((N.gone1 i).bo r).ended/\(((N.gone1 i).setR i { (N.gone1 i).bo i with begun:=(N.gone1 i).tick }).bo r).takes=((N.gone1 i).bo r).takes/\(((N.gone1 i).setR i { (N.gone1 i).bo i with begun:=(N.gone1 i).tick }).bo r).line=((N.gone1 i).bo r).line/\(((N.gone1 i).setR i { (N.gone1 i).bo i with begun:=(N.gone1 i).tick }).bo r).b=((N.gone1 i).bo r).b:=fun r r0=>by
     rw [hbo r r0]
     split<;>exact ⟨rfl,rfl,rfl,rfl,rfl,rfl⟩
    have hneg:∀ (M:Ngt) (r:Int),¬ 0<=r->M.bo r=M.bo 0:=fun M r hr=>by unfold Ngt.bo;rw [show r.toNat=(0:Int).toNat by omega]
    refine { nw:=r2.nw,nb:=(Ngt.setR_nb (N:=N.gone1 i) (i:=i) (r:={ (N.gone1 i).bo i with begun:=(N.gone1 i).tick }) rfl).trans r2.nb,ng:=r2.ng,sw:=r2.sw,sb:=r2.sb,sg:=r2.sg,lg:=r2.lg,lh:=r2.lh,lq:=r2.lq,lb:=(List.length_set ..).trans r2.lb,le:=r2.le,lt:=r2.lt,ll:=r2.ll,tk:=r2.tk,t0:=r2.t0,vs:=r2.vs,gr:=r2.gr,wk:=r2.wk,qu:=?_,ql:=r2.ql,qe:=?_,qn:=?_,qc:=?_,oe:=?_,on:=?_,oc:=?_,re:=?_,rb:=?_,rt:=?_,ue:=r2.ue,un:=r2.un,uc:=r2.uc }
    ·intro r r0 r1'
     rw [(hboo r r0).1]
     exact r2.qu r r0 r1'
    ·intro r r0 r1'
     rw [(hboo r r0).1]
     exact r2.qe r r0 r1'
    ·intro r r0 r1'
     rw [(hboo r r0).1]
     exact r2.qn r r0 r1'
    ·intro k k0 k1 hk
     have hm:=r2.qc k k0 k1 hk
     show _∈(((N.gone1 i).setR i _).bo (gt (wn G k) ((N.gone1 i).pa k).wish)).queue
     by_cases hr:0<=gt (wn G k) ((N.gone1 i).pa k).wish
     ·rw [(hboo _ hr).1];exact hm
     ·rw [hneg _ _ hr] at hm ⊢
      rw [(hboo 0 (by omega)).1];exact hm
    ·intro r r0 r1'
     rw [(hboo r r0).2.1]
     exact r2.oe r r0 r1'
    ·intro r r0 r1'
     rw [(hboo r r0).2.1]
     exact r2.on r r0 r1'
    ·intro k k0 k1 hk
     have hm:=r2.oc k k0 k1 hk
     show _∈(((N.gone1 i).setR i _).bo (gt (wn G k) (((N.gone1 i).pa k).wish-1))).on
     by_cases hr:0<=gt (wn G k) (((N.gone1 i).pa k).wish-1)
     ·rw [(hboo _ hr).2.1];exact hm
     ·rw [hneg _ _ hr] at hm ⊢
      rw [(hboo 0 (by omega)).2.1];exact hm
    ·intro r r0 r1'
     rw [(hboo r r0).2.2.1]
     exact r2.re r r0 r1'
    ·intro r r0 r1'
     obtain ⟨a1,a2,a3,a4,a5⟩:=r2.rb r r0 r1'
     have hgb:gt (S1.setB i S.now).began r=if r=i then S.now else gt S1.began r:=by
      unfold Pl.setB gt
      simp only
      rw [BF (by rw [r2.lb];omega)]
      simp only [Bb r0 i0]
     rw [hbo r r0,hgb]
     by_cases e':r=i
     ·rw [if_pos e',if_pos e']
      have ht0:=r2.t0
      refine ⟨ht0,Int.le_refl _,fun _=>?_,fun _ _=>?_,fun e2=>by omega⟩
      ·show S.now=if ((N.gone1 i).bo r).on=[] then -1 else (N.gone1 i).tick
       rw [e',on1,if_neg c2,h.tk,r7]
      ·show (N.gone1 i).tick+1<=(N.gone1 i).tick+((N.gone1 i).bo r).b.cycle
       have:=r2.bv hv r0 r1'
       omega
     ·rw [if_neg e',if_neg e']
      exact ⟨a1,a2,fun _=>a3 e',fun _=>a4 e',fun e2=>by omega⟩
    ·intro r r0 r1'
     rw [(hboo r r0).2.2.2.1,(hboo r r0).2.2.2.2.1]
     exact r2.rt r r0 r1'
   ·have c2:((N.fl i).N.bo i).on=[]:=by
     rw [on1] at c
     have c:¬ 0<((N.fl i).N.bo i).on.length:=c
     exact List.length_eq_zero_iff.1 (by omega)
    rw [if_neg c,if_neg fun h'=>hso.1 h' c2]
    refine { r2 with rb:=fun r r0 r1'=>?_ }
    obtain ⟨a1,a2,a3,a4,a5⟩:=r2.rb r r0 r1'
    by_cases e':r=i
    ·subst e'
     refine ⟨a1,a2,fun _=>?_,fun _ hne=>?_,fun e2=>by omega⟩
     ·rw [on1]
      show gt S1.began r=if ((N.fl r).N.bo r).on=[] then -1 else _
      rw [c2,if_pos rfl]
      exact a5 rfl
     ·rw [on1] at hne
      exact absurd c2 hne
    ·exact ⟨a1,a2,fun _=>a3 e',fun _=>a4 e',fun e2=>by omega⟩
  ·rw [Ngt.begin,if_neg hsh,Ngt.start]
   split
   ·exact r3.keep rfl (Ngt.setR_takesL rfl) rfl rfl rfl (Int.le_refl _)
   ·exact r3
  ·rw [Ngt.begin,if_neg hsh,Ngt.start]
   split
   ·exact r7
   ·exact r7
end
end Go.Proofs.YtoelhdjloaknbaaGreat
