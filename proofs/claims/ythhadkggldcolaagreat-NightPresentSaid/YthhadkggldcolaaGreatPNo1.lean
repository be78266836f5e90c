/- Trimmed by wip/trim.py to what this claim rests on. -/
import Derived.Test.YthhadkggldcolaaGreatPNf1
import Derived.Test.YthhadkggldcolaaGreatPNe5
import Derived.Test.YthhadkggldcolaaGreatPB18
namespace Go.Proofs.YthhadkggldcolaaGreat
set_option maxRecDepth 100000
open Go.RowKit
def wzK (op:List Int) (x:Grp) (i k:Nat):List Int:=if i < k then N7 op x.wants else x.wants
theorem Aa7 {op:List Int} {x:Grp} {i k:Nat} (h:i < k):wzK op x i k=N7 op x.wants:=if_pos h
theorem Ad8 {op:List Int} {x:Grp} {i k:Nat} (h:¬ i < k):wzK op x i k=x.wants:=if_neg h
def rdK (op ws:List Int) (j:Nat):List Int:=(Lf op ws j).map (gt ws)
theorem Acl (op ws:List Int) (j:Nat):(rdK op ws j).length<=j:=by
 unfold rdK
 rw [List.length_map]
 exact Pd op ws j
theorem AbH {op ws:List Int} {j:Nat}:rdK op ws (j + 1)=if gt ws (j:Nat)∈op then rdK op ws j++[gt ws (j:Nat)] else rdK op ws j:=by
 unfold rdK
 rw [QR]
 split
 ·rw [List.map_append]; rfl
 ·rfl
section
variable {σ:Hp} {W:GaW} {g:Gal} {l:SL} {ws:Nat->SL} {G:List Grp}
theorem TV {r:SL} {B:List BthG} (hr:EvR σ r B l ws G) (hG:G.length<=4294967296) (hW:∀ k,(h:k < G.length)->G[k].wants.length<=4294967296):Af Tryz.prog G1 #[l.v] σ fun v σ'=>∃ (l':SL) (ws':Nat->SL) (σx:Hp),v=l'.v/\Hp.Sub σ σx/\Aj 61 sG σx l'.A l'.n l'.c (G.mapIdx (CA ws')) σ'/\∀ i,(h:i < G.length)->RdS [.int .i64] σx (ws' i).A (ws' i).n G[i].wants:=by
 refine Fd _ _ _ _ _ ?_
 unfold CC
 refine ⟨_,hr.l,AX (by rw [List.length_nil,Nat.zero_add]; exact Nat.le_trans (Nat.le_of_eq (List.length_mapIdx ..)) hG) ?_⟩
 refine Ad fun J4 h4=>?_
 refine ⟨fun m A n c i τ=>∃ (k:Nat) (ws':Nat->SL) (σx:Hp),m=G.length - k/\i=k/\k<=G.length/\Hp.Sub σ σx/\Aj 61 sG σx A n c (G.mapIdx (CA ws')) τ/\(∀ i,(h:i < G.length)->RdS [.int .i64] σx (ws' i).A (ws' i).n G[i].wants),⟨G.length,?_⟩,?_⟩
 ·intro A n c σ' ho
  exact ⟨0,ws,σ,rfl,rfl,by omega,Hp.Sub.refl _,ho,hr.w⟩
 rintro m A n c i τ ⟨k,ws',σx,rfl,rfl,hk,hs,ho,hw⟩ _
 have hlen:n=G.length:=by rw [ho.len]; exact List.length_mapIdx ..
 refine AA (fun hlt=>?_) (fun hlt=>?_)
 ·have hkl:k < G.length:=by omega
  have hW:=hW k hkl
  have hrd:=ho.rd
  have hk':((k:Nat):Int).toNat < (G.mapIdx (CA ws')).length:=by simpa using hkl
  refine DT hrd rfl (by omega) hk' fun b o hc=>?_
  have e:(G.mapIdx (CA ws'))[((k:Nat):Int).toNat]'hk'=CA ws' k G[k]:=by simp
  rw [e] at hc
  refine ⟨_,_,_,hc 3 (by show 3 < 5; omega),G[k].wants,(hw k hkl).sub ho.sub,AX (by rw [List.length_nil,Nat.zero_add]; exact hW) ?_⟩
  have hk2:k < (G.mapIdx (CA ws')).length:=by simpa using hkl
  obtain ⟨b1,off1,hA1,_⟩:=ho.putX hk2
  rw [hA1]
  refine ⟨by omega,by omega,?_⟩
  rw [Cf]
  intro A20 l20 c20 σ21 o21
  obtain ⟨σx',o1,o2⟩:=ho.swap o21
  obtain ⟨b',off',hA',_,hput⟩:=o2.putX hk2
  rw [hA1] at hA'
  cases hA'
  have eg:(G.mapIdx (CA ws'))[k]=CA ws' k G[k]:=by simp
  obtain ⟨wz,z1,z2⟩:∃ wz:Nat->SL,wz k=⟨A20,l20,c20⟩/\∀ i,i≠k->wz i=ws' i:=⟨fun i=>if i=k then ⟨A20,l20,c20⟩ else ws' i,if_pos rfl,fun i h=>if_neg h⟩
  obtain ⟨w1,w2⟩:=hput 3 (.slice A20 l20 c20) (CA wz k G[k]) (by rw [eg]; unfold CA; rw [z1]; rfl)
  have e5:off1 + (k * (sG).length + 3)=off1 + k * 5 + 3:=(Nat.add_assoc ..).symm
  rw [e5] at w1 w2
  refine ⟨w1,AQ (by omega) (AY _ (by omega) ⟨k + 1,wz,σx',rfl,by omega,by omega,hs.trans o1.sub,?_,fun i hi=>?_⟩)⟩
  ·have:=OM (G:=G) (ws:=ws') (ws':=wz) hkl rfl z2
   rw [this,hA1] at w2
   exact w2
  ·by_cases c':i=k
   ·subst c'
    rw [z1]
    exact o1.rd
   ·rw [z2 i c']
    exact (hw i hi).sub o1.sub
 ·obtain rfl:k=G.length:=by omega
  rw [h4]
  intro _
  exact Ah ⟨⟨A,n,c⟩,ws',σx,rfl,hs,ho,hw⟩
theorem Tj (h:GaR σ W g) (he:EvR σ W.r g.B l ws G) (hB:g.B.length<=4294967296) (hc:W.e.n<=W.e.c) (hG:G.length<=4294967296) (hW:∀ k,(h:k < G.length)->G[k].wants.length<=4294967296):Af Tryz.prog NE #[W.v g,l.v] σ fun v σ'=>v=.int .i64 (g.chkG G)/\σ'=σ:=by
 refine Kj _ _ _ _ _ _ _ _ _ _ _ _ _ _ _ _ _ _ _ _ _ _ _ _ _ _ _ _ _ _ _ _ _ _ _ _ _ ?_
 unfold Dz
 refine clI Nr (AaQ h hB hc) (Br (fun e=>Ah ⟨?_,rfl⟩) (fun e=>clI DF (OD he hB hG hW) (Ah ⟨?_,rfl⟩)))
 ·have:g.chkG G=g.chk:=if_neg e
  rw [this]
 ·have:g.chkG G=E9 g.w g.B G:=if_pos e
  rw [this]
theorem Xu {wz:Nat->SL}:(g.red G).mapIdx (CA wz)=G.mapIdx (CA wz):=by
 apply List.ext_getElem
 ·simp [Gal.red]
 ·intro i h1 h2
  simp only [List.getElem_mapIdx,Gal.red,List.getElem_map]
  rfl
theorem Ab3 (h:GaR σ W g) (he:EvR σ W.r g.B l ws G) (hg:Gm g) (hq:E9 g.w g.B G=0) (hc:W.e.n<=W.e.c):Af Tryz.prog U3 #[W.v g,l.v] σ fun v σ'=>∃ (s q:SL) (ws':Nat->SL) (ys:List (Option Addr×Nat×Nat)),v=.tuple #[s.v,q.v]/\Hp.Sub σ σ'/\EvR σ' W.r g.B s ws' (g.red G) /\
  RdS [.slc] σ' q.A q.n ys/\ys.length=G.length/\∀ i,(h:i < G.length)->(h':i < ys.length)->RdS [.int .i64] σ' ys[i].1 ys[i].2.1 (wis g.open G[i].wants):=by
 refine SC _ _ _ _ _ _ _ _ _ _ _ _ _ _ _ _ _ _ _ _ _ _ _ _ _ _ _ _ _ _ _ _ _ _ _ _ _ ?_
 unfold JL
 have hv:=C6 hq
 have hn60:=hv.n
 have hln:=he.lenL
 have hm8:=hv.m
 refine Be NR (Acp h hg hc) ?_
 rintro v σ2 ⟨A3,n3,c3,rfl,ho3⟩
 have hs2:=ho3.sub
 have hr3:=ho3.rd
 have hfl:(g.flg g.open).length=g.B.length:=Gal.flg_len
 clear ho3
 refine ⟨_,_,_,rfl,?_⟩
 refine Be DL (TV (he.sub hs2) (by omega) (fun k hk=>by have:=(hv.g _ (List.getElem_mem hk)).2.2.2.1; omega)) ?_
 rintro v σ5 ⟨l',ws0,σx0,rfl,hsx0,hoG0,hwG0⟩
 refine ⟨_,_,_,rfl,Ad fun J9 h9=>?_⟩
 have hln':l'.n=G.length:=by rw [hoG0.len]; exact List.length_mapIdx ..
 refine ⟨fun q ys i τ=>∃ (k:Nat) (ws':Nat->SL) (σx:Hp),q=G.length - k/\i=k/\k<=G.length/\Hp.Sub σ2 σx/\Aj 61 sG σx l'.A l'.n l'.c (G.mapIdx (CA ws')) τ /\
  (∀ i,(h:i < G.length)->RdS [.int .i64] σx (ws' i).A (ws' i).n (wzK g.open G[i] i k))/\ys.length=k/\∀ i,(h:i < G.length)->(h':i < ys.length)->RdS [.int .i64] σx ys[i].1 ys[i].2.1 (wis g.open G[i].wants),
  ⟨_,FI.2 ⟨0,ws0,σx0,rfl,rfl,by omega,hsx0,hoG0,fun i hi=>by rw [Ad8 (Nat.not_lt_zero i)]; exact hwG0 i hi,rfl,fun i _ h'=>absurd h' (Nat.not_lt_zero i)⟩⟩,?_⟩
 rintro q ys i τ ⟨k,ws',σx,rfl,rfl,hk,hsx,hoG,hw,hyl,hy⟩ _
 have heτ:=he.sub (hs2.trans (hsx.trans hoG.sub))
 have hr3τ:=hr3.sub (hsx.trans hoG.sub)
 refine AA (fun hlt=>?_) (fun hlt=>?_)
 ·have hkl:k < G.length:=by omega
  obtain ⟨_,_,_,hw10,_,hwr⟩:=hv.g _ (List.getElem_mem hkl)
  refine Ad fun J23 h23=>Ad fun J30 h30=>?_
  have k30:∀ A n c A' n' c' σa τ',Aj 3 [.int .i64] τ A n c (N7 g.open G[k].wants) σa->Aj 3 [.int .i64] σa A' n' c' (wis g.open G[k].wants) τ'->J30 A n c A' n' c' τ':=by
   intro A n c A' n' c' σa τ' hoa hob
   rw [h30]
   intro _
   obtain ⟨σx1,o1,o2⟩:=hoG.swap hoa
   obtain ⟨σx2,o3,o4⟩:=o2.swap hob
   have hk2:k < (G.mapIdx (CA ws')).length:=by simpa using hkl
   obtain ⟨b1,off1,hA1,_,hput⟩:=o4.putX hk2
   have eg:(G.mapIdx (CA ws'))[k]=CA ws' k G[k]:=by simp
   obtain ⟨wz,z1,z2⟩:∃ wz:Nat->SL,wz k=⟨A,n,c⟩/\∀ i,i≠k->wz i=ws' i:=⟨fun i=>if i=k then ⟨A,n,c⟩ else ws' i,if_pos rfl,fun i h=>if_neg h⟩
   obtain ⟨w1,w2⟩:=hput 3 (.slice A n c) (CA wz k G[k]) (by rw [eg]; unfold CA; rw [z1]; rfl)
   have e5:off1 + (k * (sG).length + 3)=off1 + k * 5 + 3:=(Nat.add_assoc ..).symm
   rw [e5] at w1 w2
   rw [hA1]
   refine ⟨by omega,by omega,?_⟩
   rw [Cf]
   refine ⟨w1,AX (by show ys.length + 1<=_; omega) ?_⟩
   rw [h23]
   intro _
   refine AQ (by omega) (AY _ (by omega) ⟨k + 1,wz,σx2,rfl,by omega,by omega,hsx.trans (o1.sub.trans o3.sub),?_,fun i hi=>?_,by simp [hyl],fun i hi h'=>?_⟩)
   ·have:=OM (G:=G) (ws:=ws') (ws':=wz) hkl rfl z2
    rw [this,hA1] at w2
    rw [hA1]
    exact w2
   ·by_cases c':i=k
    ·subst c'
     rw [z1,Aa7 (by omega)]
     exact o1.rd.sub o3.sub
    ·rw [z2 i c']
     have:=(hw i hi).sub (o1.sub.trans o3.sub)
     have e6:wzK g.open G[i] i (k + 1)=wzK g.open G[i] i k:=by
      unfold wzK
      have e7:(i < k + 1)=(i < k):=propext (by omega)
      simp only [e7]
     rw [e6]
     exact this
   ·rcases Nat.lt_or_ge i k with h3 | h3
    ·rw [List.getElem_append_left (by omega)]
     exact (hy i hi (by omega)).sub (o1.sub.trans o3.sub)
    ·have hi2:i=k:=by
      have:i < ys.length + 1:=by simpa using h'
      omega
     subst hi2
     have e:(ys++[(A',n',c')])[i]'h'=(A',n',c'):=by rw [List.getElem_append_right (by omega)]; simp [hyl]
     rw [e]
     exact o3.rd
  clear h30 h23
  refine ⟨fun q A n c A' n' c' i τ'=>∃ (j:Nat) (σa:Hp),q=G[k].wants.length - j/\i=j/\j<=G[k].wants.length/\Aj 3 [.int .i64] τ A n c (rdK g.open G[k].wants j) σa/\Aj 3 [.int .i64] σa A' n' c' (Lf g.open G[k].wants j) τ',⟨_,0,τ,rfl,rfl,by omega,Aj.nil ..,Aj.nil ..⟩,?_⟩
  rintro q A n c A' n' c' i τ' ⟨j,σa,rfl,rfl,hj,hoa,hob⟩ _
  have hss:=hoa.sub.trans hob.sub
  have heτ':=heτ.sub hss
  have hw0:=heτ'.w k hkl
  have hwn:(ws k).n=G[k].wants.length:=hw0.lenI
  refine heτ'.group hkl fun b o _ _ _ c3 _=>Db c3 (AA (fun hlt2=>?_) (fun hlt2=>?_))
  ·have hjl:j < G[k].wants.length:=by omega
   have es:=QR (op:=g.open) (ws:=G[k].wants) (k:=j)
   have hvl:=Pd g.open G[k].wants j
   refine Ad fun J48 h48=>heτ'.group hkl fun b o _ _ _ c3 _=>Db c3 (Cs hw0 (by omega) (by omega) ?_)
   have k48:∀ A n c A' n' c' σa τ2,Aj 3 [.int .i64] τ A n c (rdK g.open G[k].wants (j + 1)) σa->Aj 3 [.int .i64] σa A' n' c' (Lf g.open G[k].wants (j + 1)) τ2->J48 A n c A' n' c' τ2:=by
    intro A n c A' n' c' σa τ2 h1 h2
    rw [h48]
    intro _
    exact AQ (by omega) (AY _ (by omega) ⟨j + 1,σa,rfl,by omega,by omega,h1,h2⟩)
   rw [es,AbH] at k48
   have hr:=hwr (gt G[k].wants (j:Nat)) (by rw [B6 hjl]; exact List.getElem_mem hjl)
   obtain ⟨r,er⟩:=Int.eq_ofNat_of_zero_le hr.1
   have hrl:r < g.B.length:=by omega
   have ef:(g.flg g.open)[r]'(by omega)=decide ((r:Int)∈g.open):=by unfold Gal.flg; simp
   rw [er]
   rw [er] at k48
   refine Acb (hr3τ.sub hss) (by omega) ?_
   rw [ef]
   refine AA (fun e3=>heτ'.group hkl fun b o _ _ _ c3 _=>Db c3 (Cs hw0 (by omega) (by omega) ?_)) (fun e3=>?_)
   ·rw [if_pos e3,if_pos e3] at k48
    obtain ⟨σ1,p1,p2⟩:=hoa.swap hob
    refine BO p2 (AX ?_ (BO p1 (AX ?_ ?_)))
    ·show (rdK g.open G[k].wants j).length + 1<=_
     have:=Acl g.open G[k].wants j
     omega
    ·show (Lf g.open G[k].wants j).length + 1<=_
     omega
    ·rw [er]
     intro A73 n73 c73 σ74 o74 A75 n75 c75 σ76 o76
     exact k48 _ _ _ _ _ _ _ _ o74 o76
   ·rw [if_neg e3,if_neg e3] at k48
    exact k48 _ _ _ _ _ _ _ _ hoa hob
  ·obtain rfl:j=G[k].wants.length:=by omega
   exact k30 _ _ _ _ _ _ _ _ hoa hob
 ·obtain rfl:k=G.length:=by omega
  rw [h9]
  intro _ A11 n11 c11 σ12 o11
  have hs3:=hoG.sub.trans o11.sub
  refine Ah ⟨l',⟨A11,n11,c11⟩,ws',ys,rfl,hs2.trans (hsx.trans hs3),⟨(heτ.sub o11.sub).r,?_,fun i hi=>?_⟩,o11.rd,hyl,fun i h1 h2=>(hy i h1 h2).sub hs3⟩
  ·rw [Xu]
   exact hoG.rd.sub o11.sub
  ·have hi':i < G.length:=by rwa [Gal.red_len] at hi
   have e3:(g.red G)[i].wants=N7 g.open G[i].wants:=congrArg Grp.wants (Gal.red_get hi hi')
   have:=(hw i hi').sub hs3
   rw [Aa7 hi'] at this
   rw [e3]
   exact this
end
end Go.Proofs.YthhadkggldcolaaGreat
namespace Go.Proofs.YthhadkggldcolaaGreat
open Go.RowKit
def mxt (G:List Grp) (hs:List Int):Nat->Int
 | 0=>0
 | T + 1=>if gst G hs (T:Nat) G.length > mxt G hs T then gst G hs (T:Nat) G.length else mxt G hs T
def PrT (G:List Grp) (hs:List Int) (t:Int) (j:Nat):Prop:=(gd G j).came<=t/\(gt hs (j:Nat) < 0∨t < gt hs (j:Nat))
theorem Aa6 {G:List Grp} {hs:List Int} {s t:Int} (hz:∀ j:Nat,j < G.length->0<=(gd G j).size):∀ k,k<=G.length->(∀ j,j < k->PrT G hs t j->PrT G hs s j)->gst G hs t k<=gst G hs s k
 | 0,_,_=>by unfold gst; omega
 | k + 1,hk,h=>by
  have ih:=Aa6 hz k (by omega) fun j hj=>h j (by omega)
  have h0:=hz k (by omega)
  unfold gst
  by_cases e:(gd G k).came<=t/\(gt hs (k:Nat) < 0∨t < gt hs (k:Nat))
  ·have e2:(gd G k).came<=s/\(gt hs (k:Nat) < 0∨s < gt hs (k:Nat)):=h k (by omega) e
   rw [if_pos e,if_pos e2]
   omega
  ·rw [if_neg e]
   split <;> omega
theorem WH {G:List Grp} {hs:List Int} {t:Int}:∀ k,(∀ j,j < k->¬ PrT G hs t j)->gst G hs t k=0
 | 0,_=>rfl
 | k + 1,h=>by
  have ih:=WH k fun j hj=>h j (by omega)
  have e2:¬ ((gd G k).came<=t/\(gt hs (k:Nat) < 0∨t < gt hs (k:Nat))):=h k (by omega)
  unfold gst
  rw [if_neg e2]
  exact ih
theorem Vm {G:List Grp} {hs:List Int} {t:Int}:∀ k,(∀ j,j < k->¬ PrT G hs t j)∨∃ i,i < k/\PrT G hs t i/\∀ j,j < k->PrT G hs t j->(gd G j).came<=(gd G i).came
 | 0=>.inl fun j hj=>by omega
 | k + 1=>by
  by_cases hk:PrT G hs t k
  ·rcases Vm k with h | ⟨i,h1,h2,h3⟩
   ·refine .inr ⟨k,by omega,hk,fun j hj hp=>?_⟩
    rcases Nat.lt_or_ge j k with h4 | h4
    ·exact absurd hp (h j h4)
    ·obtain rfl:j=k:=by omega
     exact Int.le_refl _
   ·rcases Int.le_total (gd G i).came (gd G k).came with h5 | h5
    ·refine .inr ⟨k,by omega,hk,fun j hj hp=>?_⟩
     rcases Nat.lt_or_ge j k with h4 | h4
     ·exact Int.le_trans (h3 j h4 hp) h5
     ·obtain rfl:j=k:=by omega
      exact Int.le_refl _
    ·refine .inr ⟨i,by omega,h2,fun j hj hp=>?_⟩
     rcases Nat.lt_or_ge j k with h4 | h4
     ·exact h3 j h4 hp
     ·obtain rfl:j=k:=by omega
      exact h5
  ·rcases Vm k with h | ⟨i,h1,h2,h3⟩
   ·refine .inl fun j hj=>?_
    rcases Nat.lt_or_ge j k with h4 | h4
    ·exact h j h4
    ·obtain rfl:j=k:=by omega
     exact hk
   ·refine .inr ⟨i,by omega,h2,fun j hj hp=>?_⟩
    rcases Nat.lt_or_ge j k with h4 | h4
    ·exact h3 j h4 hp
    ·obtain rfl:j=k:=by omega
     exact absurd hp hk
theorem Xv {G:List Grp} {hs:List Int}:∀ k,0<=mst G hs k
 | 0=>by unfold mst; omega
 | k + 1=>by
  have ih:=Xv (G:=G) (hs:=hs) k
  unfold mst
  split <;> omega
theorem AbI {G:List Grp} {hs:List Int}:∀ k i:Nat,i < k->gst G hs (gd G i).came G.length<=mst G hs k
 | 0,_,h=>absurd h (Nat.not_lt_zero _)
 | k + 1,i,h=>by
  unfold mst
  rcases Nat.lt_or_ge i k with h1 | h1
  ·have ih:=AbI (G:=G) (hs:=hs) k i h1
   split <;> omega
  ·obtain rfl:i=k:=by omega
   split <;> omega
theorem Aaz {G:List Grp} {hs:List Int} {M:Int} (h0:0<=M):∀ k,(∀ i:Nat,i < k->gst G hs (gd G i).came G.length<=M)->mst G hs k<=M
 | 0,_=>by unfold mst; omega
 | k + 1,h=>by
  have ih:=Aaz h0 k fun i hi=>h i (by omega)
  have:=h k (by omega)
  unfold mst
  split <;> omega
theorem AaY {G:List Grp} {hs:List Int}:∀ T,0<=mxt G hs T
 | 0=>by unfold mxt; omega
 | T + 1=>by
  have ih:=AaY (G:=G) (hs:=hs) T
  unfold mxt
  split <;> omega
theorem Abn {G:List Grp} {hs:List Int}:∀ T t:Nat,t < T->gst G hs (t:Nat) G.length<=mxt G hs T
 | 0,_,h=>absurd h (Nat.not_lt_zero _)
 | T + 1,t,h=>by
  unfold mxt
  rcases Nat.lt_or_ge t T with h1 | h1
  ·have ih:=Abn (G:=G) (hs:=hs) T t h1
   split <;> omega
  ·obtain rfl:t=T:=by omega
   split <;> omega
theorem AbF {G:List Grp} {hs:List Int} {M:Int} (h0:0<=M) (h:∀ t:Nat,gst G hs (t:Nat) G.length<=M):∀ T,mxt G hs T<=M
 | 0=>by unfold mxt; omega
 | T + 1=>by
  have ih:=AbF h0 h T
  have:=h T
  unfold mxt
  split <;> omega
theorem AcO {w:Int} {B:List BthG} {G:List Grp} (hv:Val w B G) {hs:List Int}:mxt G hs 4001=mst G hs G.length:=by
 have hgd:∀ j:Nat,(hj:j < G.length)->gd G j=G[j]:=fun j hj=>by unfold gd; simp [List.getD,hj]
 have hz:∀ j:Nat,j < G.length->0<=(gd G j).size:=fun j hj=>by
  rw [hgd j hj]
  have:=(hv.g _ (List.getElem_mem hj)).2.1
  omega
 refine Int.le_antisymm (AbF (Xv _) (fun t=>?_) _) (Aaz (AaY _) _ fun i hi=>?_)
 ·rcases Vm (G:=G) (hs:=hs) (t:=(t:Nat)) G.length with h | ⟨i,h1,h2,h3⟩
  ·rw [WH _ h]
   exact Xv _
  ·refine Int.le_trans (Aa6 (s:=(gd G i).came) hz G.length (Nat.le_refl _) fun j hj hp=>⟨h3 j hj hp,?_⟩) (AbI G.length i h1)
   rcases hp.2 with h4 | h4
   ·exact .inl h4
   ·exact .inr (Int.lt_of_le_of_lt h2.1 h4)
 ·have hc:=(hv.g _ (List.getElem_mem hi)).1
  rw [← hgd i hi] at hc
  obtain ⟨c,hc2⟩:=Int.eq_ofNat_of_zero_le hc.1
  rw [hc2] at hc ⊢
  exact Abn 4001 c (by omega)
section
variable {σ:Hp} {W:GaW} {g:Gal} {l:SL} {ws:Nat->SL} {G:List Grp}
theorem AaN (hq:E9 g.w g.B G=0):∀ k,(h:k < (g.red G).length)->(g.red G)[k].wants.length<=4294967296:=fun k hk=>by
 have:=((C6 (Gal.red_chk hq)).g _ (List.getElem_mem hk)).2.2.2.1
 omega
theorem Abs (h:GaR σ W g) (he:EvR σ W.r g.B l ws G) (hg:Gm g) (hq:E9 g.w g.B G=0) (hc:W.e.n<=W.e.c):Af Tryz.prog Ub #[W.v g,l.v] σ fun v σ'=>∃ s:SL,v=s.v/\Hp.Sub σ σ'/\RdS [.int .i64] σ' s.A s.n (g.homes G):=by
 refine QU _ _ _ _ _ _ _ _ _ _ _ _ _ _ _ _ _ _ _ _ _ _ _ _ _ _ _ _ _ _ _ _ _ _ _ _ _ ?_
 unfold H4
 have hv:=C6 hq
 have hn60:=hv.n
 have hm8:=hv.m
 refine Be Ol (Ab3 h he hg hq hc) ?_
 rintro v σ2 ⟨s,q,ws',ys,rfl,hs2,he2,_⟩
 refine ⟨_,_,_,_,_,_,rfl,?_⟩
 refine Be NZ (ZP (w:=g.w) he2 (by omega) (by rw [Gal.red_len]; omega) (AaN hq)) ?_
 rintro v σ6 ⟨s6,rfl,hs6,hr6⟩
 have eh:ofL (E9 g.w g.B (g.red G)) ((Ngt.played g.w g.B (g.red G)).parties.map Pty.home)=g.homes G:=VB (Gal.red_chk hq)
 have hr6:RdS [.int .i64] σ6 s6.A s6.n (g.homes G):=(congrArg (fun z:List Int=>RdS [.int .i64] σ6 s6.A s6.n z) eh).mp hr6
 exact ⟨_,_,_,_,rfl,Ah ⟨s6,rfl,hs2.trans hs6,hr6⟩⟩
theorem X9 (h:GaR σ W g) (he:EvR σ W.r g.B l ws G) (hB:g.B.length<=4294967296) (hc:W.e.n<=W.e.c) (hG:G.length<=4294967296) (hW:∀ k,(h:k < G.length)->G[k].wants.length<=4294967296):Af Tryz.prog Sp #[W.v g,l.v] σ fun v σ'=>v=.tuple #[.int .i64 (g.pres G),.int .i64 (g.chkG G)]/\Hp.Sub σ σ':=by
 refine NU _ _ _ _ _ _ _ _ _ _ _ _ _ _ _ _ _ _ _ _ _ _ _ _ _ _ _ _ _ _ _ _ _ _ _ _ _ ?_
 unfold Gk
 have hln:=he.lenL
 refine clI Hy (Tj h he hB hc hG hW) (Br (fun e=>Ah ⟨?_,Hp.Sub.refl _⟩) (fun e=>?_))
 ·have:g.pres G=0:=if_neg e
  rw [this]
 obtain ⟨hg,hq⟩:=Gal.chkG_ok e
 have hv:=C6 hq
 have hn60:=hv.n
 refine Be Np (Abs h he hg hq hc) ?_
 rintro v σ5 ⟨s,rfl,hs5,hr⟩
 have hhl:=Us (g:=g) (G:=G)
 have ep:g.pres G=mst G (g.homes G) G.length:=if_pos e
 rw [ep,e]
 clear ep
 have he5:=he.sub hs5
 generalize g.homes G=hs at hr hhl ⊢
 refine ⟨_,_,_,rfl,Ad fun J9 h9=>?_⟩
 refine ⟨fun q m t τ=>∃ T:Nat,q=4001 - T/\m=mxt G hs T/\t=T/\T<=4001/\τ=σ5,⟨_,0,rfl,rfl,rfl,by omega,rfl⟩,?_⟩
 rintro q m t τ ⟨T,rfl,rfl,rfl,hT,rfl⟩ _
 refine AA (fun hlt=>?_) (fun hlt=>?_)
 ·refine Ad fun J19 h19=>Ad fun J26 h26=>?_
  have k26:J26 (gst G hs (T:Nat) G.length) τ:=by
   rw [h26]
   intro _
   rw [h19]
   intro _
   exact AQ (by omega) (AY _ (by omega) ⟨T + 1,rfl,rfl,rfl,by omega,rfl⟩)
  clear h26 h19
  refine ⟨fun q s i τ'=>∃ j:Nat,q=G.length - j/\s=gst G hs (T:Nat) j/\i=j/\j<=G.length/\τ'=τ,⟨_,0,rfl,rfl,rfl,by omega,rfl⟩,?_⟩
  rintro q2 s2 i2 τ' ⟨j,rfl,rfl,rfl,hj,rfl⟩ _
  refine AA (fun hlt2=>?_) (fun hlt2=>?_)
  ·have hjl:j < G.length:=by omega
   have ej:gd G j=G[j]:=by unfold gd; simp [List.getD,hjl]
   have hb1:=Vi hv (hs:=hs) (t:=(T:Nat)) (j + 1) (by omega)
   refine Ad fun J36 h36=>Ad fun J43 h43=>?_
   have k36:J36 (gst G hs (T:Nat) (j + 1)) τ':=by
    rw [h36]
    intro _
    exact AQ (by omega) (AY _ (by omega) ⟨j + 1,rfl,rfl,rfl,by omega,rfl⟩)
   have k43:∀ x,x=decide ((gd G j).came<=(T:Nat)/\(gt hs (j:Nat) < 0∨((T:Nat):Int) < gt hs (j:Nat)))->J43 x τ':=by
    rintro x rfl
    rw [h43]
    intro _
    unfold gst at k36 hb1
    refine AA (fun e=>?_) (fun e=>?_)
    ·rw [if_pos e,ej] at k36 hb1
     exact he5.group hjl fun b o _ c1 _ _ _=>Ba c1 (AQ (by omega) k36)
    ·rw [if_neg e] at k36
     exact k36
   refine he5.group hjl fun b o c0 _ _ _ _=>Ba c0 ?_
   rw [← ej]
   refine AA (fun e=>Cs hr (by omega) (by omega) (AA (fun e2=>k43 _ ?_) (fun e2=>Cs hr (by omega) (by omega) (k43 _ ?_)))) (fun e=>k43 _ ?_)
   ·simp [e,e2]
   ·simp [e,e2]
   ·simp [e]
  ·obtain rfl:j=G.length:=by omega
   exact k26
 ·obtain rfl:T=4001:=by omega
  rw [h9]
  intro _
  refine BH hs5 ⟨?_,Hp.Sub.refl _⟩
  rw [AcO hv]
theorem Y3 (h:GaR σ W g) (he:EvR σ W.r g.B l ws G):Af Tryz.prog Sw #[W.v g,l.v] σ fun v σ'=>v=.bool (Aa3 g || X4 g.B G)/\σ'=σ:=by
 refine OY _ _ _ _ _ _ _ _ _ _ _ _ _ _ _ _ _ _ _ _ _ _ _ _ _ _ _ _ _ _ _ _ _ _ _ _ _ ?_
 unfold FY
 refine clB P0 (Ad1 h) (BJ (fun e=>Ah ⟨?_,rfl⟩) (fun e=>clB Pr (Aez (w:=g.w) he) (Ah ⟨?_,rfl⟩)))
 ·rw [e]; rfl
 ·rw [e]; rfl
theorem XC (he:EvR σ W.r g.B l ws G) (hG:G.length<=4294967296) (hW:∀ k,(h:k < G.length)->G[k].wants.length<=4294967296):Af Tryz.prog Th #[l.v] σ fun v σ'=>∃ (l':SL) (ws':Nat->SL),v=l'.v/\Hp.Sub σ σ'/\∀ {r:SL} {B:List BthG},RdS sB σ' r.A r.n (B.map Nf)->EvR σ' r B l' ws' G:=by
 refine Pe _ _ _ _ _ ?_
 unfold G9
 refine Be DL (VJ he hG hW) ?_
 rintro v σ2 ⟨l',ws',rfl,hs,h1,h2⟩
 exact ⟨_,_,_,rfl,Ah ⟨l',ws',rfl,hs,fun hr=>⟨hr,h1,h2⟩⟩⟩
end
end Go.Proofs.YthhadkggldcolaaGreat
