/- What this claim rests on. -/
import Derived.Test.YtoelhdjloaknbaaGreatYNf1
import Derived.Test.YtoelhdjloaknbaaGreatYNe5
import Derived.Test.YtoelhdjloaknbaaGreatYB18
namespace Go.Proofs.YtoelhdjloaknbaaGreat
set_option maxRecDepth 100000
open Go.RowKit Go.Proofs.Tryz
def wzK (op:List Int) (x:Grp) (i k:Nat):List Int:=if i<k then QU op x.wants else x.wants
theorem AfP {op:List Int} {x:Grp} {i k:Nat} (h:i<k):wzK op x i k=QU op x.wants:=if_pos h
theorem AiY {op:List Int} {x:Grp} {i k:Nat} (h:¬ i<k):wzK op x i k=x.wants:=if_neg h
def rdK (op ws:List Int) (j:Nat):List Int:=(M9 op ws j).map (gt ws)
theorem Ahg (op ws:List Int) (j:Nat):(rdK op ws j).length<=j:=by
 unfold rdK
 rw [List.length_map]
 exact RI op ws j
theorem AeE {op ws:List Int} {j:Nat}:rdK op ws (j+1)=if gt ws (j:Nat)∈op then rdK op ws j++[gt ws (j:Nat)] else rdK op ws j:=by
 unfold rdK
 rw [SX]
 split
 ·rw [List.map_append];rfl
 ·rfl
section
variable {σ:Hp} {W:GaW} {g:Gal} {l:SL} {ws:Nat->SL} {G:List Grp}
theorem W2 {r:SL} {B:List BthG} (hr:EvR σ r B l ws G) (hG:G.length<=4294967296) (hW:∀ k,(h:k<G.length)->G[k].wants.length<=4294967296):Ag prog 51 #[l.v] σ fun v σ'=>∃ (l':SL) (ws':Nat->SL) (sx:Hp),v=l'.v/\Hp.Sub σ sx/\Ak 65 sG sx l'.A l'.n l'.c (G.mapIdx (C1 ws')) σ'/\∀ i,(h:i<G.length)->RdS aM sx (ws' i).A (ws' i).n G[i].wants:=by
 apply FS
 unfold CY
 refine ⟨_,hr.l,Bb (by rw [List.length_nil,Nat.zero_add];exact Nat.le_trans (Nat.le_of_eq (List.length_mapIdx ..)) hG) ?_⟩
 refine Ae fun J4 h4=>?_
 refine ⟨fun m A n c i τ=>∃ (k:Nat) (ws':Nat->SL) (sx:Hp),m=G.length-k/\i=k/\k<=G.length/\Hp.Sub σ sx/\Ak 65 sG sx A n c (G.mapIdx (C1 ws')) τ/\(∀ i,(h:i<G.length)->RdS aM sx (ws' i).A (ws' i).n G[i].wants),⟨G.length,?_⟩,?_⟩
 ·intro A n c σ' ho
  exact ⟨0,ws,σ,rfl,rfl,by omega,Hp.Sub.refl _,ho,hr.w⟩
 rintro m A n c i τ ⟨k,ws',sx,rfl,rfl,hk,hs,ho,hw⟩ _
 have hlen:n=G.length:=by rw [ho.len];exact List.length_mapIdx ..
 refine Ay (fun hlt=>?_) (fun hlt=>?_)
 ·have hkl:k<G.length:=by omega
  have hW:=hW k hkl
  have hrd:=ho.rd
  have hk':(k:Int).toNat<(G.mapIdx (C1 ws')).length:=by simpa using hkl
  refine Dn hrd rfl (by omega) hk' fun b o hc=>?_
  have e:(G.mapIdx (C1 ws'))[(k:Int).toNat]'hk'=C1 ws' k G[k]:=by simp
  rw [e] at hc
  refine ⟨_,_,_,hc 3 (by show 3<5;omega),G[k].wants,(hw k hkl).sub ho.sub,Bb (by rw [List.length_nil,Nat.zero_add];exact hW) ?_⟩
  have hk2:k<(G.mapIdx (C1 ws')).length:=by simpa using hkl
  obtain ⟨b1,off1,hA1,_⟩:=ho.putX hk2
  rw [hA1]
  refine ⟨by omega,by omega,?_⟩
  rw [Cu]
  intro A20 l20 c20 s21 o21
  obtain ⟨sx',o1,o2⟩:=ho.swap o21
  obtain ⟨b',off',hA',_,hput⟩:=o2.putX hk2
  rw [hA1] at hA'
  cases hA'
  have eg:(G.mapIdx (C1 ws'))[k]=C1 ws' k G[k]:=by simp
  obtain ⟨wz,z1,z2⟩:∃ wz:Nat->SL,wz k=⟨A20,l20,c20⟩/\∀ i,i≠k->wz i=ws' i:=⟨fun i=>if i=k then ⟨A20,l20,c20⟩ else ws' i,if_pos rfl,fun i h=>if_neg h⟩
  obtain ⟨w1,w2⟩:=hput 3 (aN A20 l20 c20) (C1 wz k G[k]) (by rw [eg];unfold C1;rw [z1];rfl)
  have e5:off1+(k*(sG).length+3)=off1+k*5+3:=(Nat.add_assoc ..).symm
  rw [e5] at w1 w2
  refine ⟨w1,AL (by omega) (AY _ (by omega) ⟨k+1,wz,sx',rfl,by omega,by omega,hs.trans o1.sub,?_,fun i hi=>?_⟩)⟩
  ·have:=QH (G:=G) (ws:=ws') (ws':=wz) hkl rfl z2
   rw [this,hA1] at w2
   exact w2
  ·by_cases c':i=k
   ·subst c'
    rw [z1]
    exact o1.rd
   ·rw [z2 i c']
    exact (hw i hi).sub o1.sub
 ·obtain rfl:k=G.length:=by omega
  rw [h4]
  intro _
  exact Aj ⟨⟨A,n,c⟩,ws',sx,rfl,hs,ho,hw⟩
theorem Wy (h:GaR σ W g) (he:EvR σ W.r g.B l ws G) (hB:g.B.length<=4294967296) (hc:W.e.n<=W.e.c) (hG:G.length<=4294967296) (hW:∀ k,(h:k<G.length)->G[k].wants.length<=4294967296):Ag prog 52 #[W.v g,l.v] σ fun v σ'=>v=aD (g.chkG G)/\σ'=σ:=by
 apply Lp
 unfold D0
 refine clI (aW 39) (AfO h hB hc) (Bu (fun e=>Aj ⟨?_,rfl⟩) (fun e=>clI (aW 77) (Q0 he hB hG hW) (Aj ⟨?_,rfl⟩)))
 ·have:g.chkG G=g.chk:=if_neg e
  rw [this]
 ·have:g.chkG G=DB g.w g.B G:=if_pos e
  rw [this]
theorem Abx {wz:Nat->SL}:(g.red G).mapIdx (C1 wz)=G.mapIdx (C1 wz):=by
 apply List.ext_getElem
 ·simp [Gal.red]
 ·intro i h1 h2
  simp only [List.getElem_mapIdx,Gal.red,List.getElem_map]
  rfl
theorem Ag6 (h:GaR σ W g) (he:EvR σ W.r g.B l ws G) (hg:Iq g) (hq:DB g.w g.B G=0) (hc:W.e.n<=W.e.c):Ag prog 57 #[W.v g,l.v] σ fun v σ'=>∃ (s q:SL) (ws':Nat->SL) (ys:List (aA×Nat×Nat)),v=.tuple #[s.v,q.v]/\Hp.Sub σ σ'/\EvR σ' W.r g.B s ws' (g.red G) /\
  RdS [.slc] σ' q.A q.n ys/\ys.length=G.length/\∀ i,(h:i<G.length)->(h':i<ys.length)->RdS aM σ' ys[i].1 ys[i].2.1 (wis g.open G[i].wants):=by
 apply Vn
 unfold LS
 have hv:=BO hq
 have hn60:=hv.n
 have hln:=he.lenL
 have hm8:=hv.m
 refine AZ (aW 41) (Ahb h hg hc) ?_
 rintro v σ2 ⟨A3,n3,c3,rfl,ho3⟩
 have hs2:=ho3.sub
 have hr3:=ho3.rd
 have hfl:(g.flg g.open).length=g.B.length:=Gal.flg_len
 clear ho3
 refine ⟨_,_,_,rfl,?_⟩
 refine AZ (aW 51) (W2 (he.sub hs2) (by omega) (fun k hk=>by have:=(hv.g _ (List.getElem_mem hk)).2.2.2.1;omega)) ?_
 rintro v s5 ⟨l',ws0,sx0,rfl,hsx0,hoG0,hwG0⟩
 refine ⟨_,_,_,rfl,Ae fun J9 h9=>?_⟩
 have hln':l'.n=G.length:=by rw [hoG0.len];exact List.length_mapIdx ..
 refine ⟨fun q ys i τ=>∃ (k:Nat) (ws':Nat->SL) (sx:Hp),q=G.length-k/\i=k/\k<=G.length/\Hp.Sub σ2 sx/\Ak 65 sG sx l'.A l'.n l'.c (G.mapIdx (C1 ws')) τ /\
  (∀ i,(h:i<G.length)->RdS aM sx (ws' i).A (ws' i).n (wzK g.open G[i] i k))/\ys.length=k/\∀ i,(h:i<G.length)->(h':i<ys.length)->RdS aM sx ys[i].1 ys[i].2.1 (wis g.open G[i].wants),
  ⟨_,E9.2 ⟨0,ws0,sx0,rfl,rfl,by omega,hsx0,hoG0,fun i hi=>by rw [AiY (Nat.not_lt_zero i)];exact hwG0 i hi,rfl,fun i _ h'=>absurd h' (Nat.not_lt_zero i)⟩⟩,?_⟩
 rintro q ys i τ ⟨k,ws',sx,rfl,rfl,hk,hsx,hoG,hw,hyl,hy⟩ _
 have het:=he.sub (hs2.trans (hsx.trans hoG.sub))
 have hr3t:=hr3.sub (hsx.trans hoG.sub)
 refine Ay (fun hlt=>?_) (fun hlt=>?_)
 ·have hkl:k<G.length:=by omega
  obtain ⟨_,_,_,hw10,_,hwr⟩:=hv.g _ (List.getElem_mem hkl)
  refine Ae fun J23 h23=>Ae fun J30 h30=>?_
  have k30:∀ A n c A' n' c' sa t',Ak 3 aM τ A n c (QU g.open G[k].wants) sa->Ak 3 aM sa A' n' c' (wis g.open G[k].wants) t'->J30 A n c A' n' c' t':=by
   intro A n c A' n' c' sa t' hoa hob
   rw [h30]
   intro _
   obtain ⟨sx1,o1,o2⟩:=hoG.swap hoa
   obtain ⟨sx2,o3,o4⟩:=o2.swap hob
   have hk2:k<(G.mapIdx (C1 ws')).length:=by simpa using hkl
   obtain ⟨b1,off1,hA1,_,hput⟩:=o4.putX hk2
   have eg:(G.mapIdx (C1 ws'))[k]=C1 ws' k G[k]:=by simp
   obtain ⟨wz,z1,z2⟩:∃ wz:Nat->SL,wz k=⟨A,n,c⟩/\∀ i,i≠k->wz i=ws' i:=⟨fun i=>if i=k then ⟨A,n,c⟩ else ws' i,if_pos rfl,fun i h=>if_neg h⟩
   obtain ⟨w1,w2⟩:=hput 3 (aN A n c) (C1 wz k G[k]) (by rw [eg];unfold C1;rw [z1];rfl)
   have e5:off1+(k*(sG).length+3)=off1+k*5+3:=(Nat.add_assoc ..).symm
   rw [e5] at w1 w2
   rw [hA1]
   refine ⟨by omega,by omega,?_⟩
   rw [Cu]
   refine ⟨w1,Bb (by show ys.length+1<=_;omega) ?_⟩
   rw [h23]
   intro _
   refine AL (by omega) (AY _ (by omega) ⟨k+1,wz,sx2,rfl,by omega,by omega,hsx.trans (o1.sub.trans o3.sub),?_,fun i hi=>?_,by simp [hyl],fun i hi h'=>?_⟩)
   ·have:=QH (G:=G) (ws:=ws') (ws':=wz) hkl rfl z2
    rw [this,hA1] at w2
    rw [hA1]
    exact w2
   ·by_cases c':i=k
    ·subst c'
     rw [z1,AfP (by omega)]
     exact o1.rd.sub o3.sub
    ·rw [z2 i c']
     have:=(hw i hi).sub (o1.sub.trans o3.sub)
     have e6:wzK g.open G[i] i (k+1)=wzK g.open G[i] i k:=by
      unfold wzK
      have e7:(i<k+1)=(i<k):=propext (by omega)
      simp only [e7]
     rw [e6]
     exact this
   ·rcases Nat.lt_or_ge i k with h3 | h3
    ·rw [List.getElem_append_left (by omega)]
     exact (hy i hi (by omega)).sub (o1.sub.trans o3.sub)
    ·have hi2:i=k:=by
      have:i<ys.length+1:=by simpa using h'
      omega
     subst hi2
     have e:(ys++[(A',n',c')])[i]'h'=(A',n',c'):=by rw [List.getElem_append_right (by omega)];simp [hyl]
     rw [e]
     exact o3.rd
  clear h30 h23
  refine ⟨fun q A n c A' n' c' i t'=>∃ (j:Nat) (sa:Hp),q=G[k].wants.length-j/\i=j/\j<=G[k].wants.length/\Ak 3 aM τ A n c (rdK g.open G[k].wants j) sa/\Ak 3 aM sa A' n' c' (M9 g.open G[k].wants j) t',⟨_,0,τ,rfl,rfl,by omega,Ak.nil ..,Ak.nil ..⟩,?_⟩
  rintro q A n c A' n' c' i t' ⟨j,sa,rfl,rfl,hj,hoa,hob⟩ _
  have hss:=hoa.sub.trans hob.sub
  have het':=het.sub hss
  have hw0:=het'.w k hkl
  have hwn:(ws k).n=G[k].wants.length:=hw0.lenI
  refine het'.group hkl fun b o _ _ _ c3 _=>Dc c3 (Ay (fun hlt2=>?_) (fun hlt2=>?_))
  ·have hjl:j<G[k].wants.length:=by omega
   have es:=SX (op:=g.open) (ws:=G[k].wants) (k:=j)
   have hvl:=RI g.open G[k].wants j
   refine Ae fun J48 h48=>het'.group hkl fun b o _ _ _ c3 _=>Dc c3 (B1 hw0 (by omega) (by omega) ?_)
   have k48:∀ A n c A' n' c' sa t2,Ak 3 aM τ A n c (rdK g.open G[k].wants (j+1)) sa->Ak 3 aM sa A' n' c' (M9 g.open G[k].wants (j+1)) t2->J48 A n c A' n' c' t2:=by
    intro A n c A' n' c' sa t2 h1 h2
    rw [h48]
    intro _
    exact AL (by omega) (AY _ (by omega) ⟨j+1,sa,rfl,by omega,by omega,h1,h2⟩)
   rw [es,AeE] at k48
   have hr:=hwr (gt G[k].wants (j:Nat)) (by rw [Bw hjl];exact List.getElem_mem hjl)
   obtain ⟨r,er⟩:=Int.eq_ofNat_of_zero_le hr.1
   have hrl:r<g.B.length:=by omega
   have ef:(g.flg g.open)[r]'(by omega)=decide ((r:Int)∈g.open):=by unfold Gal.flg;simp
   rw [er]
   rw [er] at k48
   refine Agx (hr3t.sub hss) (by omega) ?_
   rw [ef]
   refine Ay (fun e3=>het'.group hkl fun b o _ _ _ c3 _=>Dc c3 (B1 hw0 (by omega) (by omega) ?_)) (fun e3=>?_)
   ·rw [if_pos e3,if_pos e3] at k48
    obtain ⟨s1,p1,p2⟩:=hoa.swap hob
    refine B2 p2 (Bb ?_ (B2 p1 (Bb ?_ ?_)))
    ·show (rdK g.open G[k].wants j).length+1<=_
     have:=Ahg g.open G[k].wants j
     omega
    ·show (M9 g.open G[k].wants j).length+1<=_
     omega
    ·rw [er]
     intro A73 n73 c73 s74 o74 A75 n75 c75 s76 o76
     exact k48 _ _ _ _ _ _ _ _ o74 o76
   ·rw [if_neg e3,if_neg e3] at k48
    exact k48 _ _ _ _ _ _ _ _ hoa hob
  ·obtain rfl:j=G[k].wants.length:=by omega
   exact k30 _ _ _ _ _ _ _ _ hoa hob
 ·obtain rfl:k=G.length:=by omega
  rw [h9]
  intro _ A11 n11 c11 s12 o11
  have hs3:=hoG.sub.trans o11.sub
  refine Aj ⟨l',⟨A11,n11,c11⟩,ws',ys,rfl,hs2.trans (hsx.trans hs3),⟨(het.sub o11.sub).r,?_,fun i hi=>?_⟩,o11.rd,hyl,fun i h1 h2=>(hy i h1 h2).sub hs3⟩
  ·rw [Abx]
   exact hoG.rd.sub o11.sub
  ·have hi':i<G.length:=by rwa [Gal.red_len] at hi
   have e3:(g.red G)[i].wants=QU g.open G[i].wants:=congrArg Grp.wants (Gal.red_get hi hi')
   have:=(hw i hi').sub hs3
   rw [AfP hi'] at this
   rw [e3]
   exact this
end
section
variable {σ:Hp} {W:GaW} {g:Gal} {l:SL} {ws:Nat->SL} {G:List Grp}
theorem Afx (hq:DB g.w g.B G=0):∀ k,(h:k<(g.red G).length)->(g.red G)[k].wants.length<=4294967296:=fun k hk=>by
 have:=((BO (Gal.red_chk hq)).g _ (List.getElem_mem hk)).2.2.2.1
 omega
theorem Adx (h:GaR σ W g) (he:EvR σ W.r g.B l ws G):Ag prog 18 #[W.v g,l.v] σ fun v σ'=>v=.bool (Aeb g||Aa5 g.B G)/\σ'=σ:=by
 apply Rh
 unfold G6
 refine clB (aW 10) (AiV h) (BR (fun e=>Aj ⟨?_,rfl⟩) (fun e=>clB (aW 45) (Ajt (w:=g.w) he) (Aj ⟨?_,rfl⟩)))
 ·rw [e];rfl
 ·rw [e];rfl
theorem Wj (he:EvR σ W.r g.B l ws G) (hG:G.length<=4294967296) (hW:∀ k,(h:k<G.length)->G[k].wants.length<=4294967296):Ag prog 20 #[l.v] σ fun v σ'=>∃ (l':SL) (ws':Nat->SL),v=l'.v/\Hp.Sub σ σ'/\∀ {r:SL} {B:List BthG},RdS sB σ' r.A r.n (B.map Nv)->EvR σ' r B l' ws' G:=by
 apply Sr
 unfold Ie
 refine AZ (aW 51) (Yh he hG hW) ?_
 rintro v σ2 ⟨l',ws',rfl,hs,h1,h2⟩
 exact ⟨_,_,_,rfl,Aj ⟨l',ws',rfl,hs,fun hr=>⟨hr,h1,h2⟩⟩⟩
end
theorem RdS.vix {σ:Hp} {A:aA} {n:Nat} {xs:List Vis} (h:RdS sV σ A n xs) {i:Nat} (hi:i<xs.length) {x:Vis} (e:xs[i]=x) {K:Nat->Nat->Prop}
  (hk:∀ b o,σ.cell? ⟨b,o,none⟩=some (aD x.1)->σ.cell? ⟨b,o+1,none⟩=some (aD x.2.1)->σ.cell? ⟨b,o+2,none⟩=some (aD x.2.2.1)->σ.cell? ⟨b,o+3,none⟩=some (.bool x.2.2.2.1)->σ.cell? ⟨b,o+4,none⟩=some (aD x.2.2.2.2.1)->σ.cell? ⟨b,o+5,none⟩=some (aD x.2.2.2.2.2)->K b o):ix A n i 6 K:=by
 subst e
 have hk':(i:Int).toNat<(xs:List (TyR sV)).length:=by rw [Int.toNat_natCast];exact hi
 refine Dn (ss:=sV) h rfl (by omega) hk' fun b o hc=>?_
 exact hk b o (hc 0 (by show 0<6;omega)) (hc 1 (by show 1<6;omega)) (hc 2 (by show 2<6;omega)) (hc 3 (by show 3<6;omega)) (hc 4 (by show 4<6;omega)) (hc 5 (by show 5<6;omega))
theorem Ak.st1V {σ σ' τ:Hp} {A:aA} {n c:Nat} {xs:List Vis} (h:Ak 75 sV σ A n c xs σ') (hs:Hp.Sub σ' τ) {b off i j:Nat} {v:Value} {x r:Vis} (hA:A=some ⟨b,off,none⟩) (hi:i<xs.length) (e:xs[i]=x) (hr:setR sV x j v=some r) {K:Hp->Prop}
  (hk:∀ σ2 t2,Ak 75 sV σ A n c (xs.set i r) σ2->Hp.Sub σ2 t2->K t2):st τ b (off+i*6+j) v K:=by
 subst e
 obtain ⟨b',off',hA',hp⟩:=Ak.put (ss:=sV) h hs hi
 rw [hA] at hA'
 cases hA'
 obtain ⟨w1,σ2,w2,w3⟩:=hp j v r hr
 have e1:off+(i*sV.length+j)=off+i*6+j:=by show off+(i*6+j)=_;omega
 rw [e1] at w1 w3
 exact ⟨w1,hk _ _ w2 w3⟩
section
variable {σ:Hp} {w:Int} {r l:SL} {B:List BthG} {ws:Nat->SL} {G:List Grp}
def vsL (c:Int) (vs:List Vis):List Vis:=if c=0 then vs else []
def VsO (σ:Hp) (c:Int) (vs:List Vis):aB:=fun v σ'=>∃ (s:SL) (s1:Hp),v=.tuple #[s.v,aD c]/\Hp.Sub σ s1/\Ak 75 sV s1 s.A s.n s.c (vsL c vs) σ'
theorem VsO.err {c:Int} {vs:List Vis} (h:¬ c=0):VsO σ c vs (.tuple #[aN none 0 0,aD c]) σ:=⟨⟨none,0,0⟩,σ,rfl,Hp.Sub.refl _,by rw [vsL,if_neg h];exact Ak.nil 75 sV σ⟩
theorem VsO.ok {s1 σ':Hp} {s:SL} {vs:List Vis} (hs:Hp.Sub σ s1) (h:Ak 75 sV s1 s.A s.n s.c vs σ'):VsO σ 0 vs (.tuple #[s.v,aD 0]) σ':=⟨s,s1,rfl,hs,by rw [vsL,if_pos rfl];exact h⟩
theorem Az.visR {W:NW} {s0:Hp} {N:Ngt} (h:Az W s0 σ N):∃ (v:SL) (s1:Hp),σ W.nb=some (.cells (JL W N v) 186 (0,0),true)/\Ak 75 sV s1 v.A v.n v.c N.visits σ/\Hp.Sub s0 s1:=by
 obtain ⟨σ3,h1,h2⟩:=h
 obtain ⟨s1,h3,h4⟩:=SG (k:=0) CH (by simp [Cf]) h1
 obtain ⟨s1',h5,h6⟩:=Au.core.junk h4 h2
 obtain ⟨v,s4,h7,h8⟩:=h5
 refine ⟨v,s4,h8.sub _ _ h7.get,h8,?_⟩
 have a1:Hp.Sub s0 s1:=Au.sub (Au.star fun R hR=>CH R (List.mem_of_mem_eraseIdx hR)) h3
 exact (a1.trans h6).trans (Au.blk.sub h7)
theorem Ags (hr:EvR σ r B l ws G):Ag prog 61 #[.agg #[r.v,aD w],l.v] σ (VsO σ (DB w B G) (Ngt.played w B G).visits):=by
 apply UQ
 unfold K9
 refine clI (aW 68) (SK hr) (BR (fun hc=>?_) (fun hc=>?_))
 ·exact Aj (VsO.err (by simpa using hc))
 ·have hc:DB w B G=0:=by simpa using hc
  have hv:=BO hc
  rw [hc]
  have hpl:=QZ hr hv
  generalize Ngt.played w B G=N at *
  refine AZ (aW 105) hpl ?_
  rintro _ τ ⟨W,s1,rfl,hs,hS,ht⟩
  obtain ⟨v,s4,hb,ho,hs1⟩:=ht.visR
  exact ⟨_,rfl,AD (Bg hb rfl (Aj (VsO.ok (s:=v) (hs.trans hs1) ho)))⟩
end
section
variable {σ:Hp} {W:GaW} {g:Gal} {l:SL} {ws:Nat->SL} {G:List Grp}
theorem Ze {w:Int} {B:List BthG} {G:List Grp} (hv:Val w B G):(Ngt.played w B G).visits.length<=600/\∀ v∈(Ngt.played w B G).visits,0<=v.1/\v.1<G.length/\0<=v.2.1/\v.2.1<(wn G v.1).length:=by
 obtain ⟨pl,h1,h2,h3,_⟩:=TC hv 4001 (Nat.le_refl _)
 rw [P1]
 have hp:=CD vle (Ngt.run w B G 4001).visits
 refine ⟨by rw [show (VY (Ngt.run w B G 4001).visits).length=_ from hp.length_eq];exact h1.vlen hv h2,fun v hm=>?_⟩
 obtain ⟨a1,a2,a3,a4,_⟩:=h2.vk v (hp.mem_iff.1 hm)
 have hr:=(h1.gr v.1 a1 a2).w1
 rw [← (Ngt.run w B G 4001).pa_wish] at a4
 exact ⟨a1,a2,a3,by omega⟩
def Gal.tell (g:Gal) (G:List Grp) (v:Vis):Vis:=(v.1,gt (wis g.open (wn G v.1)) v.2.1,v.2.2)
def Gal.tellK (g:Gal) (G:List Grp) (V:List Vis) (k:Nat):List Vis:=(V.take k).map (g.tell G)++V.drop k
theorem Tv {V:List Vis} {k:Nat}:(g.tellK G V k).length=V.length:=by
 unfold Gal.tellK
 rw [List.length_append,List.length_map,List.length_take,List.length_drop];omega
theorem Ahs {V:List Vis}:g.tellK G V 0=V:=by simp [Gal.tellK]
theorem Ac6 {V:List Vis}:g.tellK G V V.length=V.map (g.tell G):=by simp [Gal.tellK]
theorem ZQ {V:List Vis} {k:Nat} (h:k<V.length) (h':k<(g.tellK G V k).length):(g.tellK G V k)[k]=V[k]:=by
 have e:(g.tellK G V k)[k]? = V[k]? := by
  unfold Gal.tellK
  have e1:((V.take k).map (g.tell G)).length=k:=by simp;omega
  rw [List.getElem?_append_right (by omega),e1,Nat.sub_self,List.getElem?_drop,Nat.add_zero]
 rw [List.getElem?_eq_getElem h',List.getElem?_eq_getElem h] at e
 exact Option.some.inj e
theorem Adk {V:List Vis} {k:Nat} (h:k<V.length):(g.tellK G V k).set k (g.tell G V[k])=g.tellK G V (k+1):=by
 unfold Gal.tellK
 have e:((V.take k).map (g.tell G)).length=k:=by simp;omega
 rw [List.set_append_right _ _ (by omega),e,Nat.sub_self,List.drop_eq_getElem_cons h,List.set_cons_zero,List.take_succ_eq_append_getElem h,List.map_append]
 simp
def Gal.vis (g:Gal) (G:List Grp):List Vis:=(Ngt.played g.w g.B (g.red G)).visits.map (g.tell G)
def Gal.plays (g:Gal) (G:List Grp):List Vis:=if g.chkG G=0 then g.vis G else []
theorem Aec {G:List Grp} {i:Int} (h0:0<=i) (h1:i<G.length):wn G i=(G[i.toNat]'(by omega)).wants:=by
 unfold wn
 simp [List.getD,show i.toNat<G.length by omega]
theorem Aif {i:Int} (h0:0<=i) (h1:i<G.length):(wn (g.red G) i).length=(wis g.open (wn G i)).length:=by
 rw [Aec h0 (by rw [Gal.red_len];exact h1),Aec h0 h1]
 have:(g.red G)[i.toNat]'(by rw [Gal.red_len];omega)=AeF g.open (G[i.toNat]'(by omega)):=List.getElem_map ..
 rw [this]
 exact VX
def VnR (σ:Hp) (vs:List Vis) (c:Int):aB:=fun v σ'=>∃ s:SL,v=.tuple #[s.v,aD c]/\Hp.Sub σ σ'/\RdS sV σ' s.A s.n vs
theorem VnR.err (h:¬ g.chkG G=0):VnR σ (g.plays G) (g.chkG G) (.tuple #[aN none 0 0,aD (g.chkG G)]) σ:=⟨⟨none,0,0⟩,rfl,Hp.Sub.refl _,by
 have:g.plays G=[]:=if_neg h
 rw [this]
 exact (Ak.nil 75 sV σ).rd⟩
theorem AgY {s1 σ' τ:Hp} {A:aA} {n c:Nat} {V:List Vis} {k:Nat} {K:Hp->Prop} (h:Ak 75 sV s1 A n c (g.tellK G V k) σ') (hs:Hp.Sub σ' τ) (hk:k<V.length)
  (hK:∀ σ2 t2,Ak 75 sV s1 A n c (g.tellK G V (k+1)) σ2->Hp.Sub σ2 t2->K t2):ix A n (k:Nat) 6 fun b a=>st τ b (a+1) (aD (gt (wis g.open (wn G V[k].1)) V[k].2.1)) K:=by
 have hl:k<(g.tellK G V k).length:=by rw [Tv];exact hk
 obtain ⟨b,off,hA,_⟩:=Ak.someA (ss:=sV) h (show 0<List.length (g.tellK G V k) by omega)
 have hn:n=(g.tellK G V k).length:=h.len
 refine KF hA (by omega) (by omega) ?_
 simp only [Int.toNat_natCast]
 refine h.st1V hs (j:=1) (r:=g.tell G V[k]) hA hl (ZQ hk hl) rfl fun σ2 t2 h2 s2=>hK σ2 t2 ?_ s2
 rw [Adk hk] at h2
 exact h2
theorem Ahm (h:GaR σ W g) (he:EvR σ W.r g.B l ws G):Ag prog 26 #[W.v g,l.v] σ (VnR σ (g.plays G) (g.chkG G)):=by
 apply UN
 unfold Lf
 refine AZ (aW 46) (VT h he) ?_
 rintro v σ2 (⟨e,rfl,rfl⟩ | ⟨e,b,ps,P,rfl,hs2,hN⟩)
 ·exact ⟨_,_,rfl,Bu (fun _=>Aj (VnR.err e)) (fun e2=>absurd e2 e)⟩
 obtain ⟨hg,hq⟩:=Gal.chkG_ok e
 have hv:=BO hq
 have hn60:=hv.n
 have hrd:=Gal.red_chk hq
 have hPl:=hN.pa.1
 have hvr:=BO hrd
 have epl:g.plays G=g.vis G:=if_pos e
 rw [epl,e]
 refine ⟨_,_,rfl,Bu (fun e2=>absurd rfl e2) (fun _=>AD (Bg hN.b rfl (Bx hN.b rfl ?_)))⟩
 refine AZ (aW 54) (SW hN (h.r.sub hs2) (by omega)) ?_
 rintro v s10 ⟨s,ws',rfl,hs10,he10⟩
 refine ⟨_,_,_,rfl,hs10,?_⟩
 refine AZ (aW 61) (Ags (w:=g.w) he10) ?_
 rintro v σ13 ⟨s13,s1,rfl,hs1,ho⟩
 rw [hrd] at ho ⊢
 have evl:vsL 0 (Ngt.played g.w g.B (g.red G)).visits=(Ngt.played g.w g.B (g.red G)).visits:=if_pos rfl
 rw [evl] at ho
 obtain ⟨hvl,hvin⟩:=Ze hvr
 have evi:g.vis G=(Ngt.played g.w g.B (g.red G)).visits.map (g.tell G):=rfl
 rw [evi]
 clear evl evi epl
 generalize (Ngt.played g.w g.B (g.red G)).visits=V at *
 refine ⟨_,_,_,_,rfl,Ae fun J18 h18=>?_⟩
 refine ⟨fun q i τ=>∃ (k:Nat) (σ':Hp),q=V.length-k/\i=k/\k<=V.length/\Ak 75 sV s1 s13.A s13.n s13.c (g.tellK G V k) σ'/\Hp.Sub σ' τ,⟨_,0,σ13,rfl,rfl,by omega,by rw [Ahs];exact ho,Hp.Sub.refl _⟩,?_⟩
 rintro q i τ ⟨k,σ',rfl,rfl,hk,hown,hs'⟩ _
 have hn13:s13.n=V.length:=by rw [hown.len];exact Tv
 have hlk:(g.tellK G V k).length=V.length:=Tv
 refine Ay (fun hlt=>?_) (fun hlt=>?_)
 ·have hkl:k<V.length:=by omega
  obtain ⟨a1,a2,a3,a4⟩:=hvin V[k] (List.getElem_mem hkl)
  rw [Gal.red_len] at a2
  rw [Aif a1 a2] at a4
  have hNt:=hN.sub (hs10.trans (hs1.trans (hown.sub.trans hs')))
  refine RdS.vix (hown.rd.sub hs') (by omega) (ZQ hkl (by omega)) fun b1 o1 c0 c1 c2 c3 c4 c5=>A0 c0 (A0 c1 (A0 c2 (VU c3 (A0 c4 (A0 c5 ?_)))))
  refine AD (Bg hNt.b rfl ?_)
  have hi:V[k].1.toNat<P.length:=by omega
  refine Dn (ss:=sN) hNt.ps rfl a1 hi fun b2 o2 hc2=>Dc (hc2 5 (by decide)) ?_
  have hp:=(hNt.pa.2 V[k].1.toNat (by omega) hi).v
  rw [← Aec a1 a2] at hp
  refine B1 hp a3 a4 (AgY hown hs' hkl fun σ3 t3 h3 s3=>?_)
  exact AL (by omega) (AY _ (by omega) ⟨k+1,σ3,rfl,by omega,by omega,h3,s3⟩)
 ·obtain rfl:k=V.length:=by omega
  rw [h18]
  intro _
  rw [Ac6] at hown
  exact Aj ⟨s13,rfl,hs2.trans (hs10.trans (hs1.trans (hown.sub.trans hs'))),hown.rd.sub hs'⟩
theorem AdP:(g.plays G).length<=600:=by
 unfold Gal.plays
 split
 ·rename_i e
  unfold Gal.vis
  rw [List.length_map]
  exact (Ze (BO (Gal.red_chk (Gal.chkG_ok e).2))).1
 ·exact Nat.zero_le _
end
end Go.Proofs.YtoelhdjloaknbaaGreat
