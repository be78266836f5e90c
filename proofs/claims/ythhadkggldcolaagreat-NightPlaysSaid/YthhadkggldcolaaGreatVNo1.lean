/- Trimmed by wip/trim.py to what this claim rests on. -/
import Derived.Test.YthhadkggldcolaaGreatVNf1
import Derived.Test.YthhadkggldcolaaGreatVNe5
import Derived.Test.YthhadkggldcolaaGreatVB18
namespace Go.Proofs.YthhadkggldcolaaGreat
set_option maxRecDepth 100000
open Go.RowKit
def wzK (op:List Int) (x:Grp) (i k:Nat):List Int:=if i<k then OC op x.wants else x.wants
theorem Abu {op:List Int} {x:Grp} {i k:Nat} (h:i<k):wzK op x i k=OC op x.wants:=if_pos h
theorem AdE {op:List Int} {x:Grp} {i k:Nat} (h:¬ i<k):wzK op x i k=x.wants:=if_neg h
def rdK (op ws:List Int) (j:Nat):List Int:=(Lm op ws j).map (gt ws)
theorem Adm (op ws:List Int) (j:Nat):(rdK op ws j).length<=j:=by
 unfold rdK
 rw [List.length_map]
 exact PG op ws j
theorem AbK {op ws:List Int} {j:Nat}:rdK op ws (j+1)=if gt ws (j:Nat)∈op then rdK op ws j++[gt ws (j:Nat)] else rdK op ws j:=by
 unfold rdK
 rw [RN]
 split
 ·rw [List.map_append];rfl
 ·rfl
section
variable {σ:Hp} {W:GaW} {g:Gal} {l:SL} {ws:Nat->SL} {G:List Grp}
theorem Uu {r:SL} {B:List BthG} (hr:EvR σ r B l ws G) (hG:G.length<=4294967296) (hW:∀ k,(h:k<G.length)->G[k].wants.length<=4294967296):Af Tryz.prog Hn #[l.v] σ fun v σ'=>∃ (l':SL) (ws':Nat->SL) (σx:Hp),v=l'.v/\Hp.Sub σ σx/\Ai 61 sG σx l'.A l'.n l'.c (G.mapIdx (CG ws')) σ'/\∀ i,(h:i<G.length)->RdS [.int .i64] σx (ws' i).A (ws' i).n G[i].wants:=by
 refine Fo _ _ _ _ _ ?_
 unfold CM
 refine ⟨_,hr.l,Bb (by rw [List.length_nil,Nat.zero_add];exact Nat.le_trans (Nat.le_of_eq (List.length_mapIdx ..)) hG) ?_⟩
 refine Ad fun J4 h4=>?_
 refine ⟨fun m A n c i τ=>∃ (k:Nat) (ws':Nat->SL) (σx:Hp),m=G.length-k/\i=k/\k<=G.length/\Hp.Sub σ σx/\Ai 61 sG σx A n c (G.mapIdx (CG ws')) τ/\(∀ i,(h:i<G.length)->RdS [.int .i64] σx (ws' i).A (ws' i).n G[i].wants),⟨G.length,?_⟩,?_⟩
 ·intro A n c σ' ho
  exact ⟨0,ws,σ,rfl,rfl,by omega,Hp.Sub.refl _,ho,hr.w⟩
 rintro m A n c i τ ⟨k,ws',σx,rfl,rfl,hk,hs,ho,hw⟩ _
 have hlen:n=G.length:=by rw [ho.len];exact List.length_mapIdx ..
 refine AA (fun hlt=>?_) (fun hlt=>?_)
 ·have hkl:k<G.length:=by omega
  have hW:=hW k hkl
  have hrd:=ho.rd
  have hk':((k:Nat):Int).toNat<(G.mapIdx (CG ws')).length:=by simpa using hkl
  refine Da hrd rfl (by omega) hk' fun b o hc=>?_
  have e:(G.mapIdx (CG ws'))[((k:Nat):Int).toNat]'hk'=CG ws' k G[k]:=by simp
  rw [e] at hc
  refine ⟨_,_,_,hc 3 (by show 3<5;omega),G[k].wants,(hw k hkl).sub ho.sub,Bb (by rw [List.length_nil,Nat.zero_add];exact hW) ?_⟩
  have hk2:k<(G.mapIdx (CG ws')).length:=by simpa using hkl
  obtain ⟨b1,off1,hA1,_⟩:=ho.putX hk2
  rw [hA1]
  refine ⟨by omega,by omega,?_⟩
  rw [Ci]
  intro A20 l20 c20 σ21 o21
  obtain ⟨σx',o1,o2⟩:=ho.swap o21
  obtain ⟨b',off',hA',_,hput⟩:=o2.putX hk2
  rw [hA1] at hA'
  cases hA'
  have eg:(G.mapIdx (CG ws'))[k]=CG ws' k G[k]:=by simp
  obtain ⟨wz,z1,z2⟩:∃ wz:Nat->SL,wz k=⟨A20,l20,c20⟩/\∀ i,i≠k->wz i=ws' i:=⟨fun i=>if i=k then ⟨A20,l20,c20⟩ else ws' i,if_pos rfl,fun i h=>if_neg h⟩
  obtain ⟨w1,w2⟩:=hput 3 (.slice A20 l20 c20) (CG wz k G[k]) (by rw [eg];unfold CG;rw [z1];rfl)
  have e5:off1+(k*(sG).length+3)=off1+k*5+3:=(Nat.add_assoc ..).symm
  rw [e5] at w1 w2
  refine ⟨w1,AT (by omega) (A0 _ (by omega) ⟨k+1,wz,σx',rfl,by omega,by omega,hs.trans o1.sub,?_,fun i hi=>?_⟩)⟩
  ·have:=Pa (G:=G) (ws:=ws') (ws':=wz) hkl rfl z2
   rw [this,hA1] at w2
   exact w2
  ·by_cases c':i=k
   ·subst c'
    rw [z1]
    exact o1.rd
   ·rw [z2 i c']
    exact (hw i hi).sub o1.sub
 ·obtain rfl:k=G.length:=by omega
  rw [h4]
  intro _
  exact Ah ⟨⟨A,n,c⟩,ws',σx,rfl,hs,ho,hw⟩
theorem TE (h:GaR σ W g) (he:EvR σ W.r g.B l ws G) (hB:g.B.length<=4294967296) (hc:W.e.n<=W.e.c) (hG:G.length<=4294967296) (hW:∀ k,(h:k<G.length)->G[k].wants.length<=4294967296):Af Tryz.prog NJ #[W.v g,l.v] σ fun v σ'=>v=.int .i64 (g.chkG G)/\σ'=σ:=by
 refine J0 _ _ _ _ _ _ _ _ _ _ _ _ _ _ _ _ _ _ _ _ _ _ _ _ _ _ _ _ _ _ _ _ _ _ _ _ _ ?_
 unfold DC
 refine clI Nn (AaY h hB hc) (Bu (fun e=>Ah ⟨?_,rfl⟩) (fun e=>clI DA (Oa he hB hG hW) (Ah ⟨?_,rfl⟩)))
 ·have:g.chkG G=g.chk:=if_neg e
  rw [this]
 ·have:g.chkG G=Fe g.w g.B G:=if_pos e
  rw [this]
theorem XG {wz:Nat->SL}:(g.red G).mapIdx (CG wz)=G.mapIdx (CG wz):=by
 apply List.ext_getElem
 ·simp [Gal.red]
 ·intro i h1 h2
  simp only [List.getElem_mapIdx,Gal.red,List.getElem_map]
  rfl
theorem Ac6 (h:GaR σ W g) (he:EvR σ W.r g.B l ws G) (hg:Hk g) (hq:Fe g.w g.B G=0) (hc:W.e.n<=W.e.c):Af Tryz.prog VW #[W.v g,l.v] σ fun v σ'=>∃ (s q:SL) (ws':Nat->SL) (ys:List (Option Addr×Nat×Nat)),v=.tuple #[s.v,q.v]/\Hp.Sub σ σ'/\EvR σ' W.r g.B s ws' (g.red G) /\
  RdS [.slc] σ' q.A q.n ys/\ys.length=G.length/\∀ i,(h:i<G.length)->(h':i<ys.length)->RdS [.int .i64] σ' ys[i].1 ys[i].2.1 (wis g.open G[i].wants):=by
 refine SS _ _ _ _ _ _ _ _ _ _ _ _ _ _ _ _ _ _ _ _ _ _ _ _ _ _ _ _ _ _ _ _ _ _ _ _ _ ?_
 unfold Ko
 have hv:=Cp hq
 have hn60:=hv.n
 have hln:=he.lenL
 have hm8:=hv.m
 refine Be O3 (Acz h hg hc) ?_
 rintro v σ2 ⟨A3,n3,c3,rfl,ho3⟩
 have hs2:=ho3.sub
 have hr3:=ho3.rd
 have hfl:(g.flg g.open).length=g.B.length:=Gal.flg_len
 clear ho3
 refine ⟨_,_,_,rfl,?_⟩
 refine Be DP (Uu (he.sub hs2) (by omega) (fun k hk=>by have:=(hv.g _ (List.getElem_mem hk)).2.2.2.1;omega)) ?_
 rintro v σ5 ⟨l',ws0,σx0,rfl,hsx0,hoG0,hwG0⟩
 refine ⟨_,_,_,rfl,Ad fun J9 h9=>?_⟩
 have hln':l'.n=G.length:=by rw [hoG0.len];exact List.length_mapIdx ..
 refine ⟨fun q ys i τ=>∃ (k:Nat) (ws':Nat->SL) (σx:Hp),q=G.length-k/\i=k/\k<=G.length/\Hp.Sub σ2 σx/\Ai 61 sG σx l'.A l'.n l'.c (G.mapIdx (CG ws')) τ /\
  (∀ i,(h:i<G.length)->RdS [.int .i64] σx (ws' i).A (ws' i).n (wzK g.open G[i] i k))/\ys.length=k/\∀ i,(h:i<G.length)->(h':i<ys.length)->RdS [.int .i64] σx ys[i].1 ys[i].2.1 (wis g.open G[i].wants),
  ⟨_,FM.2 ⟨0,ws0,σx0,rfl,rfl,by omega,hsx0,hoG0,fun i hi=>by rw [AdE (Nat.not_lt_zero i)];exact hwG0 i hi,rfl,fun i _ h'=>absurd h' (Nat.not_lt_zero i)⟩⟩,?_⟩
 rintro q ys i τ ⟨k,ws',σx,rfl,rfl,hk,hsx,hoG,hw,hyl,hy⟩ _
 have heτ:=he.sub (hs2.trans (hsx.trans hoG.sub))
 have hr3τ:=hr3.sub (hsx.trans hoG.sub)
 refine AA (fun hlt=>?_) (fun hlt=>?_)
 ·have hkl:k<G.length:=by omega
  obtain ⟨_,_,_,hw10,_,hwr⟩:=hv.g _ (List.getElem_mem hkl)
  refine Ad fun J23 h23=>Ad fun J30 h30=>?_
  have k30:∀ A n c A' n' c' σa τ',Ai 3 [.int .i64] τ A n c (OC g.open G[k].wants) σa->Ai 3 [.int .i64] σa A' n' c' (wis g.open G[k].wants) τ'->J30 A n c A' n' c' τ':=by
   intro A n c A' n' c' σa τ' hoa hob
   rw [h30]
   intro _
   obtain ⟨σx1,o1,o2⟩:=hoG.swap hoa
   obtain ⟨σx2,o3,o4⟩:=o2.swap hob
   have hk2:k<(G.mapIdx (CG ws')).length:=by simpa using hkl
   obtain ⟨b1,off1,hA1,_,hput⟩:=o4.putX hk2
   have eg:(G.mapIdx (CG ws'))[k]=CG ws' k G[k]:=by simp
   obtain ⟨wz,z1,z2⟩:∃ wz:Nat->SL,wz k=⟨A,n,c⟩/\∀ i,i≠k->wz i=ws' i:=⟨fun i=>if i=k then ⟨A,n,c⟩ else ws' i,if_pos rfl,fun i h=>if_neg h⟩
   obtain ⟨w1,w2⟩:=hput 3 (.slice A n c) (CG wz k G[k]) (by rw [eg];unfold CG;rw [z1];rfl)
   have e5:off1+(k*(sG).length+3)=off1+k*5+3:=(Nat.add_assoc ..).symm
   rw [e5] at w1 w2
   rw [hA1]
   refine ⟨by omega,by omega,?_⟩
   rw [Ci]
   refine ⟨w1,Bb (by show ys.length+1<=_;omega) ?_⟩
   rw [h23]
   intro _
   refine AT (by omega) (A0 _ (by omega) ⟨k+1,wz,σx2,rfl,by omega,by omega,hsx.trans (o1.sub.trans o3.sub),?_,fun i hi=>?_,by simp [hyl],fun i hi h'=>?_⟩)
   ·have:=Pa (G:=G) (ws:=ws') (ws':=wz) hkl rfl z2
    rw [this,hA1] at w2
    rw [hA1]
    exact w2
   ·by_cases c':i=k
    ·subst c'
     rw [z1,Abu (by omega)]
     exact o1.rd.sub o3.sub
    ·rw [z2 i c']
     have:=(hw i hi).sub (o1.sub.trans o3.sub)
     have e6:wzK g.open G[i] i (k+1)=wzK g.open G[i] i k:=by
      unfold wzK
      have e7:(i<k+1)=(i<k):=propext (by omega)
      simp only [e7]
     rw [e6]
     exact this
   ·rcases Nat.lt_or_ge i k with h3 | h3
    ·rw [List.getElem_append_left (by omega)]
     exact (hy i hi (by omega)).sub (o1.sub.trans o3.sub)
    ·have hi2:i=k:=by
      have:i<ys.length+1:=by simpa using h'
      omega
     subst hi2
     have e:(ys++[(A',n',c')])[i]'h'=(A',n',c'):=by rw [List.getElem_append_right (by omega)];simp [hyl]
     rw [e]
     exact o3.rd
  clear h30 h23
  refine ⟨fun q A n c A' n' c' i τ'=>∃ (j:Nat) (σa:Hp),q=G[k].wants.length-j/\i=j/\j<=G[k].wants.length/\Ai 3 [.int .i64] τ A n c (rdK g.open G[k].wants j) σa/\Ai 3 [.int .i64] σa A' n' c' (Lm g.open G[k].wants j) τ',⟨_,0,τ,rfl,rfl,by omega,Ai.nil ..,Ai.nil ..⟩,?_⟩
  rintro q A n c A' n' c' i τ' ⟨j,σa,rfl,rfl,hj,hoa,hob⟩ _
  have hss:=hoa.sub.trans hob.sub
  have heτ':=heτ.sub hss
  have hw0:=heτ'.w k hkl
  have hwn:(ws k).n=G[k].wants.length:=hw0.lenI
  refine heτ'.group hkl fun b o _ _ _ c3 _=>CI c3 (AA (fun hlt2=>?_) (fun hlt2=>?_))
  ·have hjl:j<G[k].wants.length:=by omega
   have es:=RN (op:=g.open) (ws:=G[k].wants) (k:=j)
   have hvl:=PG g.open G[k].wants j
   refine Ad fun J48 h48=>heτ'.group hkl fun b o _ _ _ c3 _=>CI c3 (Cx hw0 (by omega) (by omega) ?_)
   have k48:∀ A n c A' n' c' σa τ2,Ai 3 [.int .i64] τ A n c (rdK g.open G[k].wants (j+1)) σa->Ai 3 [.int .i64] σa A' n' c' (Lm g.open G[k].wants (j+1)) τ2->J48 A n c A' n' c' τ2:=by
    intro A n c A' n' c' σa τ2 h1 h2
    rw [h48]
    intro _
    exact AT (by omega) (A0 _ (by omega) ⟨j+1,σa,rfl,by omega,by omega,h1,h2⟩)
   rw [es,AbK] at k48
   have hr:=hwr (gt G[k].wants (j:Nat)) (by rw [Cd hjl];exact List.getElem_mem hjl)
   obtain ⟨r,er⟩:=Int.eq_ofNat_of_zero_le hr.1
   have hrl:r<g.B.length:=by omega
   have ef:(g.flg g.open)[r]'(by omega)=decide ((r:Int)∈g.open):=by unfold Gal.flg;simp
   rw [er]
   rw [er] at k48
   refine Ac1 (hr3τ.sub hss) (by omega) ?_
   rw [ef]
   refine AA (fun e3=>heτ'.group hkl fun b o _ _ _ c3 _=>CI c3 (Cx hw0 (by omega) (by omega) ?_)) (fun e3=>?_)
   ·rw [if_pos e3,if_pos e3] at k48
    obtain ⟨σ1,p1,p2⟩:=hoa.swap hob
    refine BR p2 (Bb ?_ (BR p1 (Bb ?_ ?_)))
    ·show (rdK g.open G[k].wants j).length+1<=_
     have:=Adm g.open G[k].wants j
     omega
    ·show (Lm g.open G[k].wants j).length+1<=_
     omega
    ·rw [er]
     intro A73 n73 c73 σ74 o74 A75 n75 c75 σ76 o76
     exact k48 _ _ _ _ _ _ _ _ o74 o76
   ·rw [if_neg e3,if_neg e3] at k48
    exact k48 _ _ _ _ _ _ _ _ hoa hob
  ·obtain rfl:j=G[k].wants.length:=by omega
   exact k30 _ _ _ _ _ _ _ _ hoa hob
 ·obtain rfl:k=G.length:=by omega
  rw [h9]
  intro _ A11 n11 c11 σ12 o11
  have hs3:=hoG.sub.trans o11.sub
  refine Ah ⟨l',⟨A11,n11,c11⟩,ws',ys,rfl,hs2.trans (hsx.trans hs3),⟨(heτ.sub o11.sub).r,?_,fun i hi=>?_⟩,o11.rd,hyl,fun i h1 h2=>(hy i h1 h2).sub hs3⟩
  ·rw [XG]
   exact hoG.rd.sub o11.sub
  ·have hi':i<G.length:=by rwa [Gal.red_len] at hi
   have e3:(g.red G)[i].wants=OC g.open G[i].wants:=congrArg Grp.wants (Gal.red_get hi hi')
   have:=(hw i hi').sub hs3
   rw [Abu hi'] at this
   rw [e3]
   exact this
end
end Go.Proofs.YthhadkggldcolaaGreat
namespace Go.Proofs.YthhadkggldcolaaGreat
open Go.RowKit
section
variable {σ:Hp} {W:GaW} {g:Gal} {l:SL} {ws:Nat->SL} {G:List Grp}
theorem Abc (hq:Fe g.w g.B G=0):∀ k,(h:k<(g.red G).length)->(g.red G)[k].wants.length<=4294967296:=fun k hk=>by
 have:=((Cp (Gal.red_chk hq)).g _ (List.getElem_mem hk)).2.2.2.1
 omega
theorem Aar (h:GaR σ W g) (he:EvR σ W.r g.B l ws G):Af Tryz.prog R6 #[W.v g,l.v] σ fun v σ'=>v=.bool (Aa0 g||X7 g.B G)/\σ'=σ:=by
 refine Ov _ _ _ _ _ _ _ _ _ _ _ _ _ _ _ _ _ _ _ _ _ _ _ _ _ _ _ _ _ _ _ _ _ _ _ _ _ ?_
 unfold Gb
 refine clB Ps (AeB h) (BI (fun e=>Ah ⟨?_,rfl⟩) (fun e=>clB PA (AeI (w:=g.w) he) (Ah ⟨?_,rfl⟩)))
 ·rw [e];rfl
 ·rw [e];rfl
theorem X6 (he:EvR σ W.r g.B l ws G) (hG:G.length<=4294967296) (hW:∀ k,(h:k<G.length)->G[k].wants.length<=4294967296):Af Tryz.prog TW #[l.v] σ fun v σ'=>∃ (l':SL) (ws':Nat->SL),v=l'.v/\Hp.Sub σ σ'/\∀ {r:SL} {B:List BthG},RdS sB σ' r.A r.n (B.map NR)->EvR σ' r B l' ws' G:=by
 refine Qx _ _ _ _ _ ?_
 unfold Hr
 refine Be DP (Vx he hG hW) ?_
 rintro v σ2 ⟨l',ws',rfl,hs,h1,h2⟩
 exact ⟨_,_,_,rfl,Ah ⟨l',ws',rfl,hs,fun hr=>⟨hr,h1,h2⟩⟩⟩
end
end Go.Proofs.YthhadkggldcolaaGreat
