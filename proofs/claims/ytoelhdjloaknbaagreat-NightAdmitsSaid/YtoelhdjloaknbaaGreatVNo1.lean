/- What this claim rests on. -/
import Derived.Test.YtoelhdjloaknbaaGreatVNf1
import Derived.Test.YtoelhdjloaknbaaGreatVNe5
import Derived.Test.YtoelhdjloaknbaaGreatVB18
namespace Go.Proofs.YtoelhdjloaknbaaGreat
set_option maxRecDepth 100000
open Go.RowKit Go.Proofs.Tryz
def wzK (op:List Int) (x:Grp) (i k:Nat):List Int:=if i<k then Ot op x.wants else x.wants
theorem AbC {op:List Int} {x:Grp} {i k:Nat} (h:i<k):wzK op x i k=Ot op x.wants:=if_pos h
theorem Ae0 {op:List Int} {x:Grp} {i k:Nat} (h:¬ i<k):wzK op x i k=x.wants:=if_neg h
def rdK (op ws:List Int) (j:Nat):List Int:=(LG op ws j).map (gt ws)
theorem AdL (op ws:List Int) (j:Nat):(rdK op ws j).length<=j:=by
 unfold rdK
 rw [List.length_map]
 exact QM op ws j
theorem Adw {op ws:List Int} {j:Nat}:rdK op ws (j+1)=if gt ws (j:Nat)∈op then rdK op ws j++[gt ws (j:Nat)] else rdK op ws j:=by
 unfold rdK
 rw [Sk]
 split
 ·rw [List.map_append];rfl
 ·rfl
section
variable {σ:Hp} {W:GaW} {g:Gal} {l:SL} {ws:Nat->SL} {G:List Grp}
theorem Vn {r:SL} {B:List BthG} (hr:EvR σ r B l ws G) (hG:G.length<=4294967296) (hW:∀ k,(h:k<G.length)->G[k].wants.length<=4294967296):Af prog 51 #[l.v] σ fun v σ'=>∃ (l':SL) (ws':Nat->SL) (sx:Hp),v=l'.v/\Hp.Sub σ sx/\Aj 65 sG sx l'.A l'.n l'.c (G.mapIdx (Cy ws')) σ'/\∀ i,(h:i<G.length)->RdS aM sx (ws' i).A (ws' i).n G[i].wants:=by
 apply Fz
 unfold CT
 refine ⟨_,hr.l,AY (by rw [List.length_nil,Nat.zero_add];exact Nat.le_trans (Nat.le_of_eq (List.length_mapIdx ..)) hG) ?_⟩
 refine Ad fun J4 h4=>?_
 refine ⟨fun m A n c i τ=>∃ (k:Nat) (ws':Nat->SL) (sx:Hp),m=G.length-k/\i=k/\k<=G.length/\Hp.Sub σ sx/\Aj 65 sG sx A n c (G.mapIdx (Cy ws')) τ/\(∀ i,(h:i<G.length)->RdS aM sx (ws' i).A (ws' i).n G[i].wants),⟨G.length,?_⟩,?_⟩
 ·intro A n c σ' ho
  exact ⟨0,ws,σ,rfl,rfl,by omega,Hp.Sub.refl _,ho,hr.w⟩
 rintro m A n c i τ ⟨k,ws',sx,rfl,rfl,hk,hs,ho,hw⟩ _
 have hlen:n=G.length:=by rw [ho.len];exact List.length_mapIdx ..
 refine Az (fun hlt=>?_) (fun hlt=>?_)
 ·have hkl:k<G.length:=by omega
  have hW:=hW k hkl
  have hrd:=ho.rd
  have hk':(k:Int).toNat<(G.mapIdx (Cy ws')).length:=by simpa using hkl
  refine DC hrd rfl (by omega) hk' fun b o hc=>?_
  have e:(G.mapIdx (Cy ws'))[(k:Int).toNat]'hk'=Cy ws' k G[k]:=by simp
  rw [e] at hc
  refine ⟨_,_,_,hc 3 (by show 3<5;omega),G[k].wants,(hw k hkl).sub ho.sub,AY (by rw [List.length_nil,Nat.zero_add];exact hW) ?_⟩
  have hk2:k<(G.mapIdx (Cy ws')).length:=by simpa using hkl
  obtain ⟨b1,off1,hA1,_⟩:=ho.putX hk2
  rw [hA1]
  refine ⟨by omega,by omega,?_⟩
  rw [Cm]
  intro A20 l20 c20 s21 o21
  obtain ⟨sx',o1,o2⟩:=ho.swap o21
  obtain ⟨b',off',hA',_,hput⟩:=o2.putX hk2
  rw [hA1] at hA'
  cases hA'
  have eg:(G.mapIdx (Cy ws'))[k]=Cy ws' k G[k]:=by simp
  obtain ⟨wz,z1,z2⟩:∃ wz:Nat->SL,wz k=⟨A20,l20,c20⟩/\∀ i,i≠k->wz i=ws' i:=⟨fun i=>if i=k then ⟨A20,l20,c20⟩ else ws' i,if_pos rfl,fun i h=>if_neg h⟩
  obtain ⟨w1,w2⟩:=hput 3 (aN A20 l20 c20) (Cy wz k G[k]) (by rw [eg];unfold Cy;rw [z1];rfl)
  have e5:off1+(k*(sG).length+3)=off1+k*5+3:=(Nat.add_assoc ..).symm
  rw [e5] at w1 w2
  refine ⟨w1,AQ (by omega) (AX _ (by omega) ⟨k+1,wz,sx',rfl,by omega,by omega,hs.trans o1.sub,?_,fun i hi=>?_⟩)⟩
  ·have:=O0 (G:=G) (ws:=ws') (ws':=wz) hkl rfl z2
   rw [this,hA1] at w2
   exact w2
  ·by_cases c':i=k
   ·subst c'
    rw [z1]
    exact o1.rd
   ·rw [z2 i c']
    exact (hw i hi).sub o1.sub
 ·obtain rfl:k=G.length:=by omega
  rw [h4]
  intro _
  exact Ai ⟨⟨A,n,c⟩,ws',sx,rfl,hs,ho,hw⟩
theorem UO (h:GaR σ W g) (he:EvR σ W.r g.B l ws G) (hB:g.B.length<=4294967296) (hc:W.e.n<=W.e.c) (hG:G.length<=4294967296) (hW:∀ k,(h:k<G.length)->G[k].wants.length<=4294967296):Af prog 52 #[W.v g,l.v] σ fun v σ'=>v=aD (g.chkG G)/\σ'=σ:=by
 apply La
 unfold DL
 refine clI (aW 39) (Adb h hB hc) (Bs (fun e=>Ai ⟨?_,rfl⟩) (fun e=>clI (aW 77) (Ps he hB hG hW) (Ai ⟨?_,rfl⟩)))
 ·have:g.chkG G=g.chk:=if_neg e
  rw [this]
 ·have:g.chkG G=Ey g.w g.B G:=if_pos e
  rw [this]
theorem YK {wz:Nat->SL}:(g.red G).mapIdx (Cy wz)=G.mapIdx (Cy wz):=by
 apply List.ext_getElem
 ·simp [Gal.red]
 ·intro i h1 h2
  simp only [List.getElem_mapIdx,Gal.red,List.getElem_map]
  rfl
theorem Aen (h:GaR σ W g) (he:EvR σ W.r g.B l ws G) (hg:GK g) (hq:Ey g.w g.B G=0) (hc:W.e.n<=W.e.c):Af prog 57 #[W.v g,l.v] σ fun v σ'=>∃ (s q:SL) (ws':Nat->SL) (ys:List (aA×Nat×Nat)),v=.tuple #[s.v,q.v]/\Hp.Sub σ σ'/\EvR σ' W.r g.B s ws' (g.red G) /\
  RdS [.slc] σ' q.A q.n ys/\ys.length=G.length/\∀ i,(h:i<G.length)->(h':i<ys.length)->RdS aM σ' ys[i].1 ys[i].2.1 (wis g.open G[i].wants):=by
 apply Tb
 unfold K2
 have hv:=CB hq
 have hn60:=hv.n
 have hln:=he.lenL
 have hm8:=hv.m
 refine Bd (aW 41) (Ad1 h hg hc) ?_
 rintro v σ2 ⟨A3,n3,c3,rfl,ho3⟩
 have hs2:=ho3.sub
 have hr3:=ho3.rd
 have hfl:(g.flg g.open).length=g.B.length:=Gal.flg_len
 clear ho3
 refine ⟨_,_,_,rfl,?_⟩
 refine Bd (aW 51) (Vn (he.sub hs2) (by omega) (fun k hk=>by have:=(hv.g _ (List.getElem_mem hk)).2.2.2.1;omega)) ?_
 rintro v s5 ⟨l',ws0,sx0,rfl,hsx0,hoG0,hwG0⟩
 refine ⟨_,_,_,rfl,Ad fun J9 h9=>?_⟩
 have hln':l'.n=G.length:=by rw [hoG0.len];exact List.length_mapIdx ..
 refine ⟨fun q ys i τ=>∃ (k:Nat) (ws':Nat->SL) (sx:Hp),q=G.length-k/\i=k/\k<=G.length/\Hp.Sub σ2 sx/\Aj 65 sG sx l'.A l'.n l'.c (G.mapIdx (Cy ws')) τ /\
  (∀ i,(h:i<G.length)->RdS aM sx (ws' i).A (ws' i).n (wzK g.open G[i] i k))/\ys.length=k/\∀ i,(h:i<G.length)->(h':i<ys.length)->RdS aM sx ys[i].1 ys[i].2.1 (wis g.open G[i].wants),
  ⟨_,Dz.2 ⟨0,ws0,sx0,rfl,rfl,by omega,hsx0,hoG0,fun i hi=>by rw [Ae0 (Nat.not_lt_zero i)];exact hwG0 i hi,rfl,fun i _ h'=>absurd h' (Nat.not_lt_zero i)⟩⟩,?_⟩
 rintro q ys i τ ⟨k,ws',sx,rfl,rfl,hk,hsx,hoG,hw,hyl,hy⟩ _
 have het:=he.sub (hs2.trans (hsx.trans hoG.sub))
 have hr3t:=hr3.sub (hsx.trans hoG.sub)
 refine Az (fun hlt=>?_) (fun hlt=>?_)
 ·have hkl:k<G.length:=by omega
  obtain ⟨_,_,_,hw10,_,hwr⟩:=hv.g _ (List.getElem_mem hkl)
  refine Ad fun J23 h23=>Ad fun J30 h30=>?_
  have k30:∀ A n c A' n' c' sa t',Aj 3 aM τ A n c (Ot g.open G[k].wants) sa->Aj 3 aM sa A' n' c' (wis g.open G[k].wants) t'->J30 A n c A' n' c' t':=by
   intro A n c A' n' c' sa t' hoa hob
   rw [h30]
   intro _
   obtain ⟨sx1,o1,o2⟩:=hoG.swap hoa
   obtain ⟨sx2,o3,o4⟩:=o2.swap hob
   have hk2:k<(G.mapIdx (Cy ws')).length:=by simpa using hkl
   obtain ⟨b1,off1,hA1,_,hput⟩:=o4.putX hk2
   have eg:(G.mapIdx (Cy ws'))[k]=Cy ws' k G[k]:=by simp
   obtain ⟨wz,z1,z2⟩:∃ wz:Nat->SL,wz k=⟨A,n,c⟩/\∀ i,i≠k->wz i=ws' i:=⟨fun i=>if i=k then ⟨A,n,c⟩ else ws' i,if_pos rfl,fun i h=>if_neg h⟩
   obtain ⟨w1,w2⟩:=hput 3 (aN A n c) (Cy wz k G[k]) (by rw [eg];unfold Cy;rw [z1];rfl)
   have e5:off1+(k*(sG).length+3)=off1+k*5+3:=(Nat.add_assoc ..).symm
   rw [e5] at w1 w2
   rw [hA1]
   refine ⟨by omega,by omega,?_⟩
   rw [Cm]
   refine ⟨w1,AY (by show ys.length+1<=_;omega) ?_⟩
   rw [h23]
   intro _
   refine AQ (by omega) (AX _ (by omega) ⟨k+1,wz,sx2,rfl,by omega,by omega,hsx.trans (o1.sub.trans o3.sub),?_,fun i hi=>?_,by simp [hyl],fun i hi h'=>?_⟩)
   ·have:=O0 (G:=G) (ws:=ws') (ws':=wz) hkl rfl z2
    rw [this,hA1] at w2
    rw [hA1]
    exact w2
   ·by_cases c':i=k
    ·subst c'
     rw [z1,AbC (by omega)]
     exact o1.rd.sub o3.sub
    ·rw [z2 i c']
     have:=(hw i hi).sub (o1.sub.trans o3.sub)
     have e6:wzK g.open G[i] i (k+1)=wzK g.open G[i] i k:=by
      unfold wzK
      have e7:(i<k+1)=(i<k):=propext (by omega)
      simp only [e7]
     rw [e6]
     exact this
   ·rcases Nat.lt_or_ge i k with h3 | h3
    ·rw [List.getElem_append_left (by omega)]
     exact (hy i hi (by omega)).sub (o1.sub.trans o3.sub)
    ·have hi2:i=k:=by
      have:i<ys.length+1:=by simpa using h'
      omega
     subst hi2
     have e:(ys++[(A',n',c')])[i]'h'=(A',n',c'):=by rw [List.getElem_append_right (by omega)];simp [hyl]
     rw [e]
     exact o3.rd
  clear h30 h23
  refine ⟨fun q A n c A' n' c' i t'=>∃ (j:Nat) (sa:Hp),q=G[k].wants.length-j/\i=j/\j<=G[k].wants.length/\Aj 3 aM τ A n c (rdK g.open G[k].wants j) sa/\Aj 3 aM sa A' n' c' (LG g.open G[k].wants j) t',⟨_,0,τ,rfl,rfl,by omega,Aj.nil ..,Aj.nil ..⟩,?_⟩
  rintro q A n c A' n' c' i t' ⟨j,sa,rfl,rfl,hj,hoa,hob⟩ _
  have hss:=hoa.sub.trans hob.sub
  have het':=het.sub hss
  have hw0:=het'.w k hkl
  have hwn:(ws k).n=G[k].wants.length:=hw0.lenI
  refine het'.group hkl fun b o _ _ _ c3 _=>CI c3 (Az (fun hlt2=>?_) (fun hlt2=>?_))
  ·have hjl:j<G[k].wants.length:=by omega
   have es:=Sk (op:=g.open) (ws:=G[k].wants) (k:=j)
   have hvl:=QM g.open G[k].wants j
   refine Ad fun J48 h48=>het'.group hkl fun b o _ _ _ c3 _=>CI c3 (Ch hw0 (by omega) (by omega) ?_)
   have k48:∀ A n c A' n' c' sa t2,Aj 3 aM τ A n c (rdK g.open G[k].wants (j+1)) sa->Aj 3 aM sa A' n' c' (LG g.open G[k].wants (j+1)) t2->J48 A n c A' n' c' t2:=by
    intro A n c A' n' c' sa t2 h1 h2
    rw [h48]
    intro _
    exact AQ (by omega) (AX _ (by omega) ⟨j+1,sa,rfl,by omega,by omega,h1,h2⟩)
   rw [es,Adw] at k48
   have hr:=hwr (gt G[k].wants (j:Nat)) (by rw [BJ hjl];exact List.getElem_mem hjl)
   obtain ⟨r,er⟩:=Int.eq_ofNat_of_zero_le hr.1
   have hrl:r<g.B.length:=by omega
   have ef:(g.flg g.open)[r]'(by omega)=decide ((r:Int)∈g.open):=by unfold Gal.flg;simp
   rw [er]
   rw [er] at k48
   refine AdO (hr3t.sub hss) (by omega) ?_
   rw [ef]
   refine Az (fun e3=>het'.group hkl fun b o _ _ _ c3 _=>CI c3 (Ch hw0 (by omega) (by omega) ?_)) (fun e3=>?_)
   ·rw [if_pos e3,if_pos e3] at k48
    obtain ⟨s1,p1,p2⟩:=hoa.swap hob
    refine BX p2 (AY ?_ (BX p1 (AY ?_ ?_)))
    ·show (rdK g.open G[k].wants j).length+1<=_
     have:=AdL g.open G[k].wants j
     omega
    ·show (LG g.open G[k].wants j).length+1<=_
     omega
    ·rw [er]
     intro A73 n73 c73 s74 o74 A75 n75 c75 s76 o76
     exact k48 _ _ _ _ _ _ _ _ o74 o76
   ·rw [if_neg e3,if_neg e3] at k48
    exact k48 _ _ _ _ _ _ _ _ hoa hob
  ·obtain rfl:j=G[k].wants.length:=by omega
   exact k30 _ _ _ _ _ _ _ _ hoa hob
 ·obtain rfl:k=G.length:=by omega
  rw [h9]
  intro _ A11 n11 c11 s12 o11
  have hs3:=hoG.sub.trans o11.sub
  refine Ai ⟨l',⟨A11,n11,c11⟩,ws',ys,rfl,hs2.trans (hsx.trans hs3),⟨(het.sub o11.sub).r,?_,fun i hi=>?_⟩,o11.rd,hyl,fun i h1 h2=>(hy i h1 h2).sub hs3⟩
  ·rw [YK]
   exact hoG.rd.sub o11.sub
  ·have hi':i<G.length:=by rwa [Gal.red_len] at hi
   have e3:(g.red G)[i].wants=Ot g.open G[i].wants:=congrArg Grp.wants (Gal.red_get hi hi')
   have:=(hw i hi').sub hs3
   rw [AbC hi'] at this
   rw [e3]
   exact this
end
section
variable {σ:Hp} {W:GaW} {g:Gal} {l:SL} {ws:Nat->SL} {G:List Grp}
theorem Adk (hq:Ey g.w g.B G=0):∀ k,(h:k<(g.red G).length)->(g.red G)[k].wants.length<=4294967296:=fun k hk=>by
 have:=((CB (Gal.red_chk hq)).g _ (List.getElem_mem hk)).2.2.2.1
 omega
theorem Adj (h:GaR σ W g) (he:EvR σ W.r g.B l ws G) (hg:GK g) (hq:Ey g.w g.B G=0) (hc:W.e.n<=W.e.c):Af prog 53 #[W.v g,l.v] σ fun v σ'=>∃ s:SL,v=s.v/\Hp.Sub σ σ'/\RdS aM σ' s.A s.n (g.homes G):=by
 apply Sg
 unfold IW
 have hv:=CB hq
 have hn60:=hv.n
 have hm8:=hv.m
 refine Bd (aW 57) (Aen h he hg hq hc) ?_
 rintro v σ2 ⟨s,q,ws',ys,rfl,hs2,he2,_⟩
 refine ⟨_,_,_,_,_,_,rfl,?_⟩
 refine Bd (aW 96) (AaI (w:=g.w) he2 (by omega) (by rw [Gal.red_len];omega) (Adk hq)) ?_
 rintro v σ6 ⟨s6,rfl,hs6,hr6⟩
 have eh:ofL (Ey g.w g.B (g.red G)) ((Ngt.played g.w g.B (g.red G)).parties.map Pty.home)=g.homes G:=Uz (Gal.red_chk hq)
 have hr6:RdS aM σ6 s6.A s6.n (g.homes G):=(congrArg (fun z:List Int=>RdS aM σ6 s6.A s6.n z) eh).mp hr6
 exact ⟨_,_,_,_,rfl,Ai ⟨s6,rfl,hs2.trans hs6,hr6⟩⟩
theorem Aba (h:GaR σ W g) (he:EvR σ W.r g.B l ws G):Af prog 18 #[W.v g,l.v] σ fun v σ'=>v=.bool (Aco g||Zj g.B G)/\σ'=σ:=by
 apply OM
 unfold GG
 refine clB (aW 10) (AfR h) (BO (fun e=>Ai ⟨?_,rfl⟩) (fun e=>clB (aW 45) (Af2 (w:=g.w) he) (Ai ⟨?_,rfl⟩)))
 ·rw [e];rfl
 ·rw [e];rfl
theorem YO (he:EvR σ W.r g.B l ws G) (hG:G.length<=4294967296) (hW:∀ k,(h:k<G.length)->G[k].wants.length<=4294967296):Af prog 20 #[l.v] σ fun v σ'=>∃ (l':SL) (ws':Nat->SL),v=l'.v/\Hp.Sub σ σ'/\∀ {r:SL} {B:List BthG},RdS sB σ' r.A r.n (B.map Mp)->EvR σ' r B l' ws' G:=by
 apply QB
 unfold Hu
 refine Bd (aW 51) (VZ he hG hW) ?_
 rintro v σ2 ⟨l',ws',rfl,hs,h1,h2⟩
 exact ⟨_,_,_,rfl,Ai ⟨l',ws',rfl,hs,fun hr=>⟨hr,h1,h2⟩⟩⟩
end
end Go.Proofs.YtoelhdjloaknbaaGreat
