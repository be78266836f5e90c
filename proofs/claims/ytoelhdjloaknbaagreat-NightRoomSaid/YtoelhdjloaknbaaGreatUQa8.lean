/- What this claim rests on. -/
import Derived.Test.YtoelhdjloaknbaaGreatUQa7
namespace Go.Proofs.YtoelhdjloaknbaaGreat
open Go.RowKit Go.Proofs.Tryz
theorem Ngt.lineK_tick (N:Ngt) (k:Nat):(N.lineK k).tick=N.tick:=rfl
theorem Ngt.tick1_eq (N:Ngt):N.tick1=((N.rest.begins N.rest.rides.length).lineK N.rest.rides.length).setT (N.tick+1):=rfl
theorem Ak.other {e:TypeId} {ss:List Sh} {σ1 σ:Hp} {A:aA} {n c:Nat} {xs:List (TyR ss)} (h:Ak e ss σ1 A n c xs σ) {k:Nat} {x:Obj×Bool} (hk:σ k=some x) (hA:∀ b off,A=some ⟨b,off,none⟩->k≠b):σ1 k=some x:=by
 rcases h with ⟨_,_,_,_,rfl⟩ | ⟨b,off,cells,hA',_,_,hb,rfl,_⟩
 ·exact hk
 ·rwa [Hp.ins_ne _ (hA b off hA')] at hk
theorem Ak.blk {e:TypeId} {ss:List Sh} {σ1 σ:Hp} {A:aA} {n c:Nat} {xs:List (TyR ss)} (h:Ak e ss σ1 A n c xs σ) {b off:Nat} (hA:A=some ⟨b,off,none⟩):∃ y,σ b=some y:=by
 rcases h with ⟨h1,_⟩ | ⟨b',off',cells,hA',_,_,hb,rfl,_⟩
 ·rw [h1] at hA;cases hA
 ·rw [hA'] at hA;cases hA;exact ⟨_,Hp.ins_same ..⟩
section
variable {σ:Hp} {w:Int} {r l:SL} {B:List BthG} {ws:Nat->SL} {G:List Grp}
set_option maxRecDepth 20000 in
theorem AaX (he:EvR σ r B l ws G) (hB:B.length<=1000) (hG:G.length<=1000)
  (hok:∀ k,k<=4000->UV (Ngt.run w B G k)) (htk:∀ k,k<=4001->(Ngt.run w B G k).tick=k) (hv:Yu (Ngt.run w B G 4001).visits):
  Af prog 105 #[.agg #[r.v,aD w],l.v] σ (Aby σ B.length G (Ngt.played w B G)):=by
 unfold Ngt.played
 have hst0:∀ k,(Ngt.run w B G k).stat B.length G:=fun k=>Ngt.run_stat k
 have hrun0:∀ k,Ngt.run w B G (k+1)=(Ngt.run w B G k).tick1:=fun _=>rfl
 have hrunz:Ngt.run w B G 0=Ngt.init w B G:=rfl
 generalize Ngt.run w B G=f at *
 apply PD
 unfold IU
 have hrl:=he.lenR
 have hll:=he.lenL
 refine Ah fun J3 h3=>?_
 have hbs:∀ k,k<B.length->(Ngt.init w B G).rides.take (k+1)=(Ngt.init w B G).rides.take k++[⟨B.getD k ⟨0,0,0,0,false⟩,[],0,-1,[],0,0⟩]:=by
  intro k hk
  have hk':k<(Ngt.init w B G).rides.length:=by simpa [Ngt.init] using hk
  rw [List.take_succ_eq_append_getElem hk']
  simp [Ngt.init,hk]
 have hgs:∀ k,k<G.length->(Ngt.init w B G).parties.take (k+1)=(Ngt.init w B G).parties.take k++[⟨G.getD k ⟨0,0,0,[],0⟩,0,(G.getD k ⟨0,0,0,[],0⟩).tokens,-1,-1⟩]:=by
  intro k hk
  have hk':k<(Ngt.init w B G).parties.length:=by simpa [Ngt.init] using hk
  rw [List.take_succ_eq_append_getElem hk']
  simp [Ngt.init,hk]
 have hbl:∀ k,k<=B.length->((Ngt.init w B G).rides.take k).length=k:=fun k hk=>by simp [Ngt.init];omega
 have hgl:∀ k,k<=G.length->((Ngt.init w B G).parties.take k).length=k:=fun k hk=>by simp [Ngt.init];omega
 have k3:∀ (rs:List Nat) σ2,rs.length=B.length->Lse (CI (bpL rs (Ngt.init w B G).rides)) σ σ2->J3 w (rs.map pto) none 0 0 0 none 0 0 σ2:=by
  intro rs σ2 hrs hst
  rw [h3]
  intro _
  refine Ah fun J11 h11=>?_
  have k11:∀ (ps:List Nat) (A:aA) (n c:Nat) sa s10,ps.length=G.length->Lse (CI (bpL rs (Ngt.init w B G).rides++ppL ps ws (Ngt.init w B G).parties)) σ sa->Ak 162 [.ptr] sa A n c (ps.map pto) s10->J11 w A n c 0 none 0 0 s10:=by
   intro ps A13 l13 c13 sa s10 hps hst2 hop
   rw [h11]
   intro _
   refine Ah fun J18 h18=>?_
   have k18:∀ (W:NW) s0 s17,Hp.Sub σ s0->NSt W s0 B.length G->Ar W s0 s17 (f 4001)->J18 (some ⟨W.nb,0,none⟩) s17:=by
    intro W s0 s17 hs0 hS hn
    rw [h18]
    intro _
    obtain ⟨v,σ1,hb,ho,hk⟩:=hn.turn
    refine AG (Bu hb rfl (AW (aV 170) (SR _ _ _ _ _ _ ho hv.l hv.b hv.u) ?_))
    rintro _ s24 ⟨rfl,h24⟩
    exact Al ⟨W,s0,rfl,hs0,hS,hk _ _ h24⟩
   refine ⟨fun m p τ=>∃ (k:Nat) (W:NW) (s0:Hp),m=4001-k/\k<=4001/\p=some ⟨W.nb,0,none⟩/\Hp.Sub σ s0/\NSt W s0 B.length G/\Ar W s0 τ (f k),⟨4001,?_⟩,?_⟩
   ·intro A29 l29 c29 s30 hor b31 n31
    obtain ⟨sx,x1,x2⟩:=Lse.own_down (Ay.star Ll) hst2 hop
    obtain ⟨sy,y1,y2⟩:=Lse.own_down (Ay.star Ll) x2 hor
    have hcore:T5 ⟨b31,⟨A29,l29,c29⟩,⟨A13,l13,c13⟩,rs,ps,ws⟩ (Ngt.init w B G) s30 (s30.ins b31 (.cells #[aD w,aN A29 l29 c29,aN A13 l13 c13,aD 0,aN none 0 0] 186)):=
     ⟨⟨none,0,0⟩,_,⟨n31,rfl⟩,Ak.nil ..⟩
    obtain ⟨σz,z1,z2⟩:=y2
    obtain ⟨σw,w1,w2⟩:=Ay.core.less hcore z2
    refine ⟨0,⟨b31,⟨A29,l29,c29⟩,⟨A13,l13,c13⟩,rs,ps,ws⟩,sy,rfl,by omega,rfl,x1.sub.trans y1.sub,⟨y1.rd,RdS.sub x1.rd y1.sub,fun i hi=>(he.w i hi).sub (x1.sub.trans y1.sub),hrs,hps⟩,by rw [hrunz];exact ⟨σw,⟨σz,z1,w1⟩,w2⟩⟩
   rintro m p τ ⟨k,W,s0,rfl,hk,rfl,hs0,hS,hn⟩ _
   obtain ⟨vn,hnb,_⟩:=hn.nblk
   have ht:=htk k hk
   refine AG (Bh hnb rfl (AF (fun hle=>?_) (fun hgt=>?_)))
   ·have hk4:k<=4000:=by omega
    have ok:=hok k hk4
    have ht2:=htk (k+1) (by omega)
    have hrun:=hrun0 k
    have hst:=hst0 k
    generalize f k=N at *
    have s1:=Ngt.end_stat hst
    have s2:=Ngt.come_stat s1
    have s3:=Ngt.rest_stat hst
    refine Ah fun J39 h39=>?_
    have k39:∀ s38 X,X=(N.rest.begins N.rest.rides.length).lineK N.rest.rides.length->Ar W s0 s38 X->J39 s38:=by
     intro s38 X hX h38
     rw [h39]
     intro _
     obtain ⟨v3,hnb3,_⟩:=h38.nblk
     have et:X.tick=N.tick:=by rw [hX,Ngt.lineK_tick];exact ok.bt
     have hrunX:f (k+1)=X.setT (N.tick+1):=by rw [hrun,Ngt.tick1_eq,← hX]
     clear hX
     refine AG (Bh hnb3 rfl (AS (by rw [et];omega) (AG ?_)))
     obtain ⟨w1,w2⟩:=h38.stN (N':=X.setT (N.tick+1)) (k:=3) (v:=aD (N.tick+1)) (by omega) rfl rfl rfl fun _=>rfl
     rw [et]
     refine ⟨w1,Be (4001-(k+1)) (by omega) ⟨k+1,W,s0,rfl,by omega,rfl,hs0,hS,?_⟩⟩
     rw [hrunX]
     exact w2
    refine Abu hS hst hn hB ok.e fun v s50 h50=>?_
    refine AaU hS s1 h50 hG ok.c fun v s52 h52=>?_
    refine ZN hS s2 h52 hB hG ok.l fun v s54 h54=>?_
    change Ar W s0 s54 N.rest at h54
    have hNb:=ok.b
    have hNl:=ok.n
    have hrr:N.rest.rides.length=B.length:=s3.1
    generalize N.rest=M at *
    have sb:∀ k,(M.begins k).stat B.length G:=fun k=>Ngt.begins_stat s3 k
    refine Ah fun J57 h57=>?_
    have k57:∀ s56,Ar W s0 s56 (M.begins M.rides.length)->J57 s56:=by
     intro s56 h56
     rw [h57]
     intro _
     have hst5:=sb M.rides.length
     generalize M.begins M.rides.length=Nb at *
     have hlr:Nb.rides.length=M.rides.length:=by rw [hst5.1,hrr]
     obtain ⟨v5,hnb5,_⟩:=h56.nblk
     have hrn:W.r.n=B.length:=by rw [hS.r.1,← hS.lr];exact List.length_map ..
     refine AG (Bu hnb5 rfl ?_)
     refine ⟨fun m i t'=>∃ j:Nat,m=M.rides.length-j/\i=j/\j<=M.rides.length/\Ar W s0 t' (Nb.lineK j),⟨_,0,rfl,rfl,by omega,by rw [Nb.lineK_zero];exact h56⟩,?_⟩
     rintro m i t' ⟨j,rfl,rfl,hj,hj'⟩ _
     refine AF (fun hlt=>?_) (fun hlt=>?_)
     ·have hjl:j<Nb.rides.length:=by omega
      have hsj:=Ngt.lineK_stat hst5 j
      have hji:(j:Int).toNat<(Nb.lineK j).rides.length:=by rw [Nb.lineK_len];exact hjl
      have hSt:=hS.sub hj'.sub
      refine Ah fun J68 h68=>?_
      have k68:∀ s67,Ar W s0 s67 (Nb.lineK (j+1))->J68 s67:=by
       intro s67 h67
       rw [h68]
       intro _
       exact AS (by omega) (Be _ (by omega) ⟨j+1,rfl,by omega,by omega,h67⟩)
      refine hSt.rix hsj (by omega) hji (Ah fun J77 h77=>?_)
      obtain ⟨o,q,hrb,hro,hrq⟩:=hj'.rblk hji
      rw [Nb.lineK_bo] at hrb hro hrq
      have k77:J77 (Nb.guests (Nb.bo j).queue) t':=by
       rw [h77]
       intro _
       refine AG (Bh hrb rfl (AG ?_))
       obtain ⟨w1,w2⟩:=hj'.stR hji (k:=10) (v:=aD (if (Nb.bo j).line<Nb.guests (Nb.bo j).queue then Nb.guests (Nb.bo j).queue else (Nb.bo j).line)) (r':=Nb.line1 (Nb.bo j)) (by omega) (by rw [Nb.lineK_bo];rfl) (by rw [Nb.lineK_bo];rfl) (fun o q=>by rw [Nb.lineK_bo];rfl)
       refine ⟨?_,?_⟩
       ·exact w1
       ·refine k68 _ ?_
        rw [Nb.lineK_succ hjl]
        exact w2
      have hql:=hNl.ql j
      have hqs:=hNl.qs j
      have hqn:=hrq.lenQ
      refine AG (Bu hrb rfl ?_)
      generalize hq:(Nb.bo j).queue=Q at *
      have hbd:∀ t,t<=Q.length->0<=Nb.guests (Q.take t)/\Nb.guests (Q.take t)<=1000*1000:=by
       intro t ht
       have h1:=SE (xs:=(Q.take t).map fun s=>(Nb.pa s.1).g.size) (m:=1000) (fun x hx=>by
        obtain ⟨s,hs,rfl⟩:=List.mem_map.1 hx
        have:=hqs s (List.mem_of_mem_take hs)
        exact this.2.2)
       rw [List.length_map,List.length_take] at h1
       unfold Ngt.guests
       omega
      refine ⟨fun m gu i t2=>∃ t:Nat,m=Q.length-t/\i=t/\t<=Q.length/\gu=Nb.guests (Q.take t)/\t2=t',⟨_,0,rfl,rfl,by omega,rfl,rfl⟩,?_⟩
      rintro m gu i t2 ⟨t,rfl,rfl,ht,rfl,rfl⟩ _
      refine AF (fun hlt2=>?_) (fun hlt2=>?_)
      ·have htl:t<Q.length:=by omega
       refine qix hrq (by omega) (by omega) ?_
       rw [Qh htl]
       have hst:=hqs _ (List.getElem_mem htl)
       have hpn:(Nb.lineK j).parties.length=Nb.parties.length:=rfl
       have hpb:=hj'.pblk (g:=Q[t].1) hst.2.1
       obtain ⟨v6,hnb6,_⟩:=hj'.nblk
       have b1:=hbd t ht
       have b2:=hbd (t+1) htl
       have e2:Nb.guests (Q.take (t+1))=Nb.guests (Q.take t)+(Nb.pa Q[t].1).g.size:=by
        unfold Ngt.guests
        rw [List.take_succ_eq_append_getElem htl,List.map_append,Ua]
        simp [CO]
       refine AG (Bu hnb6 rfl (hSt.pix hsj hst.1 hst.2.1 (AG (Bh hpb rfl ?_))))
       refine AS ?_ (AS (by omega) (Be _ (by omega) ⟨t+1,rfl,by omega,by omega,?_,rfl⟩))
       ·show _<=Nb.guests (Q.take t)+(Nb.pa Q[t].1).g.size/\Nb.guests (Q.take t)+(Nb.pa Q[t].1).g.size<=_
        omega
       ·exact e2.symm
      ·have:t=Q.length:=by omega
       subst this
       rw [List.take_length]
       exact k77
     ·have:j=M.rides.length:=by omega
      subst this
      exact k39 _ _ rfl hj'
    obtain ⟨v4,hnb4,_⟩:=h54.nblk
    have hrn:W.r.n=B.length:=by rw [hS.r.1,← hS.lr];exact List.length_map ..
    refine AG (Bu hnb4 rfl ?_)
    refine ⟨fun m i t'=>∃ j:Nat,m=M.rides.length-j/\i=j/\j<=M.rides.length/\Ar W s0 t' (M.begins j),⟨_,0,rfl,rfl,by omega,h54⟩,?_⟩
    rintro m i t' ⟨j,rfl,rfl,hj,hj'⟩ _
    refine AF (fun hlt=>?_) (fun hlt=>?_)
    ·have hjl:j<M.rides.length:=by omega
     refine ZP hS (sb j) hj' (by omega) (by rw [(sb j).1,← hrr];exact hjl) (hNb j hjl) fun v s120 h120=>?_
     refine AS (by omega) (Be _ (by omega) ⟨j+1,rfl,by omega,by omega,?_⟩)
     have:M.begins (j+1)=(M.begins j).begin j:=DB (f:=fun (M:Ngt) (i:Nat)=>M.begin i) (b:=M) (k:=j)
     rw [this]
     exact h120
    ·have:j=M.rides.length:=by omega
     subst this
     exact k57 _ hj'
   ·have:k=4001:=by omega
    subst this
    exact k18 W s0 τ hs0 hS hn
  refine ⟨fun m i wk A n c t A' n' c' τ=>∃ (k:Nat) (ps:List Nat) (sa:Hp),m=G.length-k/\i=k/\k<=G.length/\w=wk/\t=0/\A'=none/\n'=0/\c'=0/\ps.length=k /\
    Lse (CI (bpL rs (Ngt.init w B G).rides++ppL ps ws ((Ngt.init w B G).parties.take k))) σ sa/\Ak 162 [.ptr] sa A n c (ps.map pto) τ,
   ⟨_,0,[],σ2,rfl,rfl,by omega,rfl,rfl,rfl,rfl,rfl,rfl,by simpa [ppL] using hst,Ak.nil ..⟩,?_⟩
  rintro m i wk A n c t A' n' c' τ ⟨k,ps,sa,rfl,rfl,hk,rfl,rfl,rfl,rfl,rfl,hpl,hst2,hop⟩ _
  refine AF (fun hlt=>?_) (fun hlt=>?_)
  ·have hkl:k<G.length:=by omega
   have hsa:=hst2.sub (Ay.star Ll)
   have het:=he.sub (hsa.trans hop.sub)
   refine het.group hkl fun b o c0 c1 c2 c3 c4=>?_
   refine ⟨_,c0,_,c1,_,c2,_,_,_,c3,_,c4,?_⟩
   intro b140 n140 b142 n142
   refine ⟨Hp.Sub.ins _ n142,?_⟩
   obtain ⟨sa',p1,p2⟩:=Ay.swap (R:=fun σ σ'=>Ak 162 [.ptr] σ A n c (ps.map pto) σ') (S:=Blk b140 (.cells #[aD G[k].came,aD G[k].size,aD G[k].tokens,(ws k).v,aD G[k].patience,aD 0,aD G[k].tokens,aD (-1),aD (-1)] 165 (0,0))) Ay.own Ay.blk hop ⟨n140,rfl⟩
   obtain ⟨sa2,q1,q2⟩:=Ak.junk p2 (Hp.Sub.ins (.cells #[.pointer (some ⟨b140,0,none⟩)] 162) n142)
   refine CH q1 ⟨[pto b140],?_,AY (by show (ps.map pto:List (aA)).length+1<=_;rw [List.length_map];omega) (AS (by omega) (Be (G.length-(k+1)) (by omega) ?_))⟩
   ·refine RdS.sub (σ:=sa2) ⟨rfl,.inr ⟨b142,0,#[.pointer (some ⟨b140,0,none⟩)],162,(0,0),true,rfl,?_,?_⟩⟩ (Hp.Sub.refl _)
    ·refine q1.other (Hp.ins_same ..) fun b' off' hA' e'=>?_
     obtain ⟨y,hy⟩:=p2.blk hA'
     rw [← e'] at hy
     cases n142.symm.trans hy
    ·intro i j hi hj
     have hi0:i=0:=Nat.lt_one_iff.1 hi
     have hj0:j=0:=by simpa using hj
     subst hi0 hj0
     rfl
   intro A150 l150 c150 s151 o151
   refine ⟨k+1,ps++[b140],sa2,rfl,by omega,by omega,rfl,rfl,rfl,rfl,rfl,by simp [hpl],?_,?_⟩
   ·rw [hgs k hkl,Xx (by rw [hpl,hgl k (by omega)]),← List.append_assoc]
    refine (Lse.snoc Ll Ay.party hst2 ?_).up q2
    rw [hgl k (by omega)]
    have e:G.getD k ⟨0,0,0,[],0⟩=G[k]:=by simp [List.getD,hkl]
    rw [e]
    exact p1
   ·have e:(ps++[b140]).map pto=ps.map pto++[pto b140]:=by simp
    exact (congrArg (fun z:List (aA)=>Ak 162 [.ptr] sa2 A150 l150 c150 z s151) e).mpr o151
  ·have:k=G.length:=by omega
   subst this
   have e:(Ngt.init w B G).parties.take G.length=(Ngt.init w B G).parties:=List.take_of_length_le (by simp [Ngt.init])
   rw [e] at hst2
   exact k11 ps A n c sa τ hpl hst2 hop
 refine ⟨fun m i wk xs A n c t A' n' c' τ=>∃ (k:Nat) (rs:List Nat),m=B.length-k/\i=k/\k<=B.length/\w=wk/\xs=rs.map pto/\A=none/\n=0/\c=0/\t=0/\A'=none/\n'=0/\c'=0/\rs.length=k /\
   Lse (CI (bpL rs ((Ngt.init w B G).rides.take k))) σ τ,
  ⟨B.length,Fi.2 ⟨0,[],rfl,rfl,by omega,rfl,rfl,rfl,rfl,rfl,rfl,rfl,rfl,rfl,rfl,by simpa [bpL] using Lse.of (R:=CI []) rfl⟩⟩,?_⟩
 rintro m i wk xs A n c t A' n' c' τ ⟨k,rs,rfl,rfl,hk,rfl,rfl,rfl,rfl,rfl,rfl,rfl,rfl,rfl,hrs,hst⟩ _
 refine AF (fun hlt=>?_) (fun hlt=>?_)
 ·have hkl:k<B.length:=by omega
  have hsa:=hst.sub (Ay.star Qp)
  refine (he.sub hsa).ride hkl fun b o c0 c1 c2 c3 c4=>?_
  refine ⟨_,c0,_,c1,_,c2,_,c3,_,c4,?_⟩
  intro b171 n171 b173 n173
  refine ⟨Hp.Sub.ins _ n173,[pto b171],?_,AY (by simp;omega) (AS (by omega) (Be (B.length-(k+1)) (by omega) ⟨k+1,rs++[b171],rfl,by omega,by omega,rfl,by simp,rfl,rfl,rfl,rfl,rfl,rfl,rfl,by simp [hrs],?_⟩))⟩
  ·refine ⟨rfl,.inr ⟨b173,0,#[.pointer (some ⟨b171,0,none⟩)],168,(0,0),true,rfl,Hp.ins_same ..,?_⟩⟩
   intro i j hi hj
   have hi0:i=0:=Nat.lt_one_iff.1 hi
   have hj0:j=0:=by simpa using hj
   subst hi0 hj0
   rfl
  ·rw [hbs k hkl,YO (by rw [hrs,hbl k (by omega)])]
   refine (Lse.snoc Qp Ay.booth hst (σ2:=τ.ins b171 _) ⟨⟨none,0,0⟩,⟨none,0,0⟩,_,⟨_,⟨n171,rfl⟩,Ak.nil ..⟩,?_⟩).up (Hp.Sub.ins _ n173)
   have e:B.getD k ⟨0,0,0,0,false⟩=B[k]:=by simp [List.getD,hkl]
   rw [e]
   exact Ak.nil ..
 ·have:k=B.length:=by omega
  subst this
  have e:(Ngt.init w B G).rides.take B.length=(Ngt.init w B G).rides:=List.take_of_length_le (by simp [Ngt.init])
  rw [e] at hst
  exact k3 rs τ hrs hst
end
end Go.Proofs.YtoelhdjloaknbaaGreat
