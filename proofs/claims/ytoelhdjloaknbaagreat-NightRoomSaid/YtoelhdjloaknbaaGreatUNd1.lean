/- What this claim rests on. -/
import Derived.Test.YtoelhdjloaknbaaGreatUNc1
namespace Go.Proofs.YtoelhdjloaknbaaGreat
set_option maxRecDepth 100000
open Go.RowKit Go.Proofs.Tryz
def Nt (op ws:List Int) (k:Nat):List Int:=((List.range k).filter fun i:Nat=>decide (gt ws (i:Nat)∈op)).map fun i:Nat=>(i:Int)
def wis (op ws:List Int):List Int:=Nt op ws ws.length
def Pz (op ws:List Int):List Int:=(wis op ws).map (gt ws)
def XL (op:List Int) (x:Grp):Grp:={ x with wants:=Pz op x.wants }
theorem VY {op ws:List Int} {k:Nat}:Nt op ws (k+1)=if gt ws (k:Nat)∈op then Nt op ws k++[(k:Int)] else Nt op ws k:=by
 unfold Nt
 rw [List.range_succ,List.filter_append,List.map_append]
 by_cases h:gt ws (k:Nat)∈op
 ·rw [if_pos h,List.filter_cons_of_pos (by simpa using h)];rfl
 ·rw [if_neg h,List.filter_cons_of_neg (by simpa using h)];simp
theorem SS (op ws:List Int) (k:Nat):(Nt op ws k).length<=k:=by
 unfold Nt
 rw [List.length_map]
 exact Nat.le_trans (List.length_filter_le _ _) (by simp)
theorem Aa7 {op ws:List Int} {i:Int} (h:i∈wis op ws):0<=i/\i<ws.length/\gt ws i∈op:=by
 unfold wis Nt at h
 rw [List.mem_map] at h
 obtain ⟨j,hj,rfl⟩:=h
 rw [List.mem_filter,List.mem_range] at hj
 exact ⟨by omega,by omega,of_decide_eq_true hj.2⟩
theorem TM {op ws:List Int}:(Pz op ws).length=(wis op ws).length:=by simp [Pz]
abbrev NRow:=Int×Int×Int×(aA×Nat×Nat)×Int×(aA×Nat×Nat)
abbrev sN:List Sh:=[.int .i64,.int .i64,.int .i64,.slc,.int .i64,.slc]
abbrev GRow:=Int×Int×Int×(aA×Nat×Nat)×Int
def NRow.w (q:NRow):SL:=⟨q.2.2.2.1.1,q.2.2.2.1.2.1,q.2.2.2.1.2.2⟩
def NRow.v (q:NRow):SL:=⟨q.2.2.2.2.2.1,q.2.2.2.2.2.2.1,q.2.2.2.2.2.2.2⟩
def NRow.g (q:NRow):GRow:=(q.1,q.2.1,q.2.2.1,q.2.2.2.1,q.2.2.2.2.1)
structure PaR (σ:Hp) (op:List Int) (x:Grp) (q:NRow):Prop where
 a:q.1=x.came
 s:q.2.1=x.size
 t:q.2.2.1=x.tokens
 p:q.2.2.2.2.1=x.patience
 w:RdS aM σ (NRow.w q).A (NRow.w q).n (Pz op x.wants)
 v:RdS aM σ (NRow.v q).A (NRow.v q).n (wis op x.wants)
theorem PaR.sub {σ σ':Hp} {op:List Int} {x:Grp} {q:NRow} (h:PaR σ op x q) (hs:Hp.Sub σ σ'):PaR σ' op x q:=⟨h.a,h.s,h.t,h.p,h.w.sub hs,h.v.sub hs⟩
def So (σ:Hp) (op:List Int) (G:List Grp) (P:List NRow):Prop:=P.length=G.length/\∀ i,(h:i<G.length)->(h':i<P.length)->PaR σ op G[i] P[i]
theorem So.snoc {σ σ':Hp} {op:List Int} {G:List Grp} {P:List NRow} {k:Nat} {q:NRow} (h:So σ op (G.take k) P) (hk:k<G.length) (hs:Hp.Sub σ σ') (hq:PaR σ' op G[k] q):So σ' op (G.take (k+1)) (P++[q]):=by
 have htl:(G.take k).length=k:=by simp;omega
 have hl:P.length=k:=by rw [h.1,htl]
 refine ⟨by simp;omega,fun i h1 h2=>?_⟩
 rw [List.length_take] at h1
 rcases Nat.lt_or_ge i k with h3 | h3
 ·have:=(h.2 i (by omega) (by omega)).sub hs
  simp only [List.getElem_take] at this ⊢
  rw [List.getElem_append_left (by omega)]
  exact this
 ·obtain rfl:i=k:=by omega
  simp only [List.getElem_take]
  have e:(P++[q])[i]'h2=q:=by rw [List.getElem_append_right (by omega)];simp [hl]
  rw [e]
  exact hq
structure NiR (σ:Hp) (b:Nat) (r:SL) (w:Int) (ps:SL) (op:List Int) (G:List Grp) (P:List NRow):Prop where
 b:σ b=some (.cells #[r.v,aD w,ps.v] 118 (0,0),true)
 ps:RdS sN σ ps.A ps.n P
 pa:So σ op G P
theorem NiR.sub {σ σ':Hp} {b:Nat} {r:SL} {w:Int} {ps:SL} {op:List Int} {G:List Grp} {P:List NRow} (h:NiR σ b r w ps op G P) (hs:Hp.Sub σ σ'):NiR σ' b r w ps op G P:=⟨hs _ _ h.b,h.ps.sub hs,h.pa.1,fun i h1 h2=>(h.pa.2 i h1 h2).sub hs⟩
def Gal.chkG (g:Gal) (G:List Grp):Int:=if g.chk=0 then Fs g.w g.B G else g.chk
theorem Gal.chkG_ok {g:Gal} {G:List Grp} (h:g.chkG G=0):Iw g/\Fs g.w g.B G=0:=by
 unfold Gal.chkG at h
 split at h
 ·rename_i e
  exact ⟨Gal.chk_ok e,h⟩
 ·rename_i e
  exact absurd h e
def Gal.red (g:Gal) (G:List Grp):List Grp:=G.map (XL g.open)
section
variable {σ:Hp} {W:GaW} {g:Gal} {l:SL} {ws:Nat->SL} {G:List Grp}
theorem WG {A:aA} {n c:Nat} {xs:List Int} {x:Int} (hx:RdS aM σ A n xs) (hl:xs.length<=4294967296):Af prog 89 #[aN A n c,aD x] σ fun v σ'=>v=.bool (decide (x∈xs))/\σ'=σ:=by
 apply HX
 unfold Cw
 have hn:=hx.lenI
 have hi:Af prog 146 #[aN A n c,aD x] σ fun v σ'=>v=aD (fxN (fun y=>decide (x=y)) xs)/\σ'=σ:=by
  apply JV
  unfold DE
  refine Ah fun J3 h3=>?_
  refine ⟨fun m i τ=>∃ k:Nat,m=xs.length-k/\i=k/\k<=xs.length/\τ=σ/\∀ j,(h:j<xs.length)->j<k->decide (x=xs[j])=false,⟨_,0,rfl,rfl,by omega,rfl,fun j _ h=>by omega⟩,?_⟩
  rintro m i τ ⟨k,rfl,rfl,hk,rfl,hj⟩ _
  refine AF (fun hlt=>?_) (fun hlt=>?_)
  ·have hkl:k<xs.length:=by omega
   refine EJ hx (by omega) (by omega) ?_
   rw [B3 hkl]
   refine AF (fun e=>Al ⟨?_,rfl⟩) (fun e=>AS (by omega) (Be _ (by omega) ⟨k+1,rfl,by omega,by omega,rfl,fun j h1 h2=>?_⟩))
   ·rw [OV hkl (decide_eq_true e) hj]
   ·rcases Nat.lt_or_ge j k with h3 | h3
    ·exact hj j h1 h3
    ·obtain rfl:j=k:=by omega
     exact decide_eq_false e
  ·obtain rfl:k=xs.length:=by omega
   rw [h3]
   intro _
   exact Al ⟨by rw [Iq fun j h=>hj j h h],rfl⟩
 refine clI (aV 146) hi (Al ⟨?_,rfl⟩)
 rw [Nd]
 congr 1
 by_cases h:x∈xs
 ·rw [decide_eq_true h]
  exact List.any_eq_true.2 ⟨x,h,by simp⟩
 ·rw [decide_eq_false h,List.any_eq_false]
  intro y hy
  simp only [decide_eq_true_eq]
  rintro rfl
  exact h hy
theorem Zk {b:Nat} {x:NRow} {τ:Hp} (h:τ b=some (.cells #[aD x.1,aD x.2.1,aD x.2.2.1,(NRow.w x).v,aD x.2.2.2.2.1,(NRow.v x).v] 115 (0,0),true)):RdS sN τ (some ⟨b,0,none⟩) 1 [x]:=by
 refine ⟨rfl,.inr ⟨b,0,_,_,_,true,rfl,h,?_⟩⟩
 intro i j hi hj
 have hi0:i=0:=Nat.lt_one_iff.1 hi
 subst hi0
 have hj:j<6:=hj
 rw [show 0+(0*(sN).length+j)=j by omega]
 match j,hj with
 | 0,_=>rfl
 | 1,_=>rfl
 | 2,_=>rfl
 | 3,_=>rfl
 | 4,_=>rfl
 | 5,_=>rfl
theorem TN (h:GaR σ W g) (he:EvR σ W.r g.B l ws G):Af prog 46 #[W.v g,l.v] σ fun v σ'=>(¬ g.chkG G=0/\v=.tuple #[.pointer none,aD (g.chkG G)]/\σ'=σ) ∨
  (g.chkG G=0/\∃ (b:Nat) (ps:SL) (P:List NRow),v=.tuple #[.pointer (some ⟨b,0,none⟩),aD 0]/\Hp.Sub σ σ'/\NiR σ' b W.r g.w ps g.open G P):=by
 apply Ox
 unfold Hy
 refine clI (aV 32) (SV h) (BQ (fun e=>Al (.inl ?_)) (fun e=>?_))
 ·have:g.chkG G=g.chk:=if_neg e
  rw [this]
  exact ⟨e,rfl,rfl⟩
 have eG:g.chkG G=Fs g.w g.B G:=if_pos e
 refine clI (aV 68) (Sk he) (BQ (fun e2=>Al (.inl ?_)) (fun e2=>?_))
 ·rw [eG]
  exact ⟨e2,rfl,rfl⟩
 rw [eG]
 have hg:=Gal.chk_ok e
 have hv:=Cu e2
 have hn60:=hv.n
 have hln:=he.lenL
 refine AW (aV 36) (S8 h hg) ?_
 rintro v s8 ⟨A9,n9,c9,rfl,ho⟩
 have hs8:=ho.sub
 have hop:=ho.rd
 have hol:g.open.length<=4294967296:=by
  have:=Gal.opS_len (g:=g) g.rel.length (Nat.le_refl _)
  have:=hg.rel_len
  have:=hg.n
  show (g.opS g.rel.length).2.length<=_
  omega
 clear ho
 refine ⟨_,_,_,rfl,Ah fun J12 h12=>?_⟩
 refine ⟨fun q i rA rn rc wk' xs τ=>∃ k:Nat,q=G.length-k/\i=k/\k<=G.length/\rA=W.r.A/\rn=W.r.n/\rc=W.r.c/\wk'=g.w/\Hp.Sub s8 τ/\So τ g.open (G.take k) xs,⟨_,Fi.2 ⟨0,rfl,rfl,by omega,rfl,rfl,rfl,rfl,Hp.Sub.refl _,rfl,fun i hi=>absurd hi (by simp)⟩⟩,?_⟩
 rintro q i rA rn rc wk' xs τ ⟨k,rfl,rfl,hk,rfl,rfl,rfl,rfl,hs,hP⟩ _
 have htl:(G.take k).length=k:=by simp;omega
 have hxl:xs.length=k:=by rw [hP.1,htl]
 refine AF (fun hlt=>?_) (fun hlt=>?_)
 ·have hkl:k<G.length:=by omega
  have het:=he.sub (hs8.trans hs)
  refine Ah fun J32 h32=>het.group hkl fun b o c0 c1 c2 c3 c4=>?_
  refine AV c0 (AV c1 (AV c2 (Qj c3 (AV c4 ?_))))
  have hw:=het.w k hkl
  have hwn:(ws k).n=G[k].wants.length:=hw.lenI
  have hw10:=(hv.g _ (List.getElem_mem hkl)).2.2.2.1
  refine Ah fun J48 h48=>?_
  have k48:J48 G[k].came G[k].size G[k].tokens (Pz g.open G[k].wants) G[k].patience (wis g.open G[k].wants) τ:=by
   rw [h48]
   intro _ A55 n55 c55 s56 o55 A57 n57 c57 s58 o57 b59 nb59
   have hs58:=o55.sub.trans o57.sub
   have hs59:Hp.Sub s58 _:=Hp.Sub.ins (.cells #[aD G[k].came,aD G[k].size,aD G[k].tokens,aN A55 n55 c55,aD G[k].patience,aN A57 n57 c57] 115 (0,0)) nb59
   have hb59:=Zk (b:=b59) (x:=(G[k].came,G[k].size,G[k].tokens,(A55,n55,c55),G[k].patience,(A57,n57,c57))) (τ:=s58.ins b59 (.cells #[aD G[k].came,aD G[k].size,aD G[k].tokens,aN A55 n55 c55,aD G[k].patience,aN A57 n57 c57] 115 (0,0))) (Hp.ins_same ..)
   refine ⟨hs59,_,hb59,AY (by show xs.length+1<=_;omega) ?_⟩
   rw [h32]
   intro _
   exact AS (by omega) (Be _ (by omega) ⟨k+1,rfl,by omega,by omega,rfl,rfl,rfl,rfl,hs.trans (hs58.trans hs59),hP.snoc hkl (hs58.trans hs59) ⟨rfl,rfl,rfl,rfl,o55.rd.sub (o57.sub.trans hs59),o57.rd.sub hs59⟩⟩)
  clear h48 h32
  refine ⟨fun q i came size tok xsW pat xsV t'=>∃ j:Nat,q=G[k].wants.length-j/\i=j/\j<=G[k].wants.length/\came=G[k].came/\size=G[k].size/\tok=G[k].tokens/\pat=G[k].patience/\t'=τ/\xsV=Nt g.open G[k].wants j/\xsW=(Nt g.open G[k].wants j).map (gt G[k].wants),⟨_,Fi.2 (Fi.2 ⟨0,rfl,rfl,by omega,rfl,rfl,rfl,rfl,rfl,rfl,rfl⟩)⟩,?_⟩
  rintro q i came size tok xsW pat xsV t' ⟨j,rfl,rfl,hj,rfl,rfl,rfl,rfl,rfl,rfl,rfl⟩ _
  have hvl:=SS g.open G[k].wants j
  refine AF (fun hlt2=>?_) (fun hlt2=>?_)
  ·have hjl:j<G[k].wants.length:=by omega
   have es:=VY (op:=g.open) (ws:=G[k].wants) (k:=j)
   refine Ah fun J79 h79=>EJ hw (by omega) (by omega) ?_
   have k79:J79 G[k].came G[k].size G[k].tokens ((Nt g.open G[k].wants (j+1)).map (gt G[k].wants)) G[k].patience (Nt g.open G[k].wants (j+1)) t':=by
    rw [h79]
    intro _
    exact AS (by omega) (Be _ (by omega) ⟨j+1,rfl,by omega,by omega,rfl,rfl,rfl,rfl,rfl,rfl,rfl⟩)
   rw [es] at k79
   refine clB (aV 89) (WG (hop.sub hs) hol) (AF (fun e3=>AY ?_ (AY ?_ ?_)) (fun e3=>?_))
   ·show ((Nt g.open G[k].wants j).map (gt G[k].wants)).length+1<=_
    rw [List.length_map];omega
   ·show (Nt g.open G[k].wants j).length+1<=_
    omega
   ·rw [if_pos e3,List.map_append] at k79
    exact k79
   ·rw [if_neg e3] at k79
    exact k79
  ·obtain rfl:j=G[k].wants.length:=by omega
   exact k48
 ·obtain rfl:k=G.length:=by omega
  rw [List.take_length] at hP
  rw [h12]
  intro _ A16 n16 c16 s17 o16 b18 n18
  have hs18:Hp.Sub s17 (s17.ins b18 (.cells #[W.r.v,aD g.w,aN A16 n16 c16] 118 (0,0))):=Hp.Sub.ins _ n18
  refine Al (.inr ⟨e2,b18,⟨A16,n16,c16⟩,xs,rfl,hs8.trans (hs.trans (o16.sub.trans hs18)),⟨Hp.ins_same ..,o16.rd.sub hs18,hP.1,fun i h1 h2=>(hP.2 i h1 h2).sub (o16.sub.trans hs18)⟩⟩)
end
theorem Qa {w:Int} {B:List BthG} {G:List Grp}:Fs w B G=0↔Ny w B=true/\G.length<=60/\∀ x∈G,okG B.length x=true:=by
 unfold Fs
 constructor
 ·intro h
  split at h
  ·omega
  ·rename_i h1
   split at h
   ·omega
   ·rename_i h2
    split at h
    ·omega
    ·rename_i h3
     refine ⟨by simpa using h1,by omega,fun x hx=>?_⟩
     have h3:((List.range G.length).all fun k=>okG B.length (gd G k))=true:=by simpa using h3
     obtain ⟨i,hi,rfl⟩:=List.getElem_of_mem hx
     have:=H8 h3 hi
     have e1:gd G i=G[i]:=by unfold gd;simp [List.getD,hi]
     rwa [e1] at this
 ·rintro ⟨h1,h2,h3⟩
  rw [if_neg (by rw [h1];decide),if_neg (by omega),if_neg]
  have:((List.range G.length).all fun k:Nat=>okG B.length (gd G k))=true:=ZC fun j hj=>by
   have e1:gd G j=G[j]:=by unfold gd;simp [List.getD,hj]
   rw [e1]
   exact h3 _ (List.getElem_mem hj)
  rw [this]
  decide
theorem YG {op ws:List Int} {j:Nat} (hj:j<(Pz op ws).length) (hj':j<(wis op ws).length):(Pz op ws)[j]=gt ws (wis op ws)[j]:=List.getElem_map ..
theorem ZB {m:Nat} {op:List Int} {x:Grp} (h:okG m x=true):okG m (XL op x)=true:=by
 unfold okG at h ⊢
 simp only [Bool.and_eq_true,decide_eq_true_eq] at h ⊢
 obtain ⟨b1,b2,b3,b4,b5,b6⟩:=h
 refine ⟨b1,b2,b3,b4,?_,?_⟩
 ·show (Pz op x.wants).length<=10
  have:=SS op x.wants x.wants.length
  rw [TM]
  unfold wis
  omega
 ·refine ZC fun j hj=>?_
  have hj:j<(Pz op x.wants).length:=hj
  show okW m (gt (Pz op x.wants) j)=true
  have hj':j<(wis op x.wants).length:=by rwa [TM] at hj
  rw [B3 hj,YG hj hj']
  have hm:=Aa7 (List.getElem_mem hj')
  generalize (wis op x.wants)[j]'_=i at *
  have:=H8 b6 (k:=i.toNat) (by omega)
  have e:(i.toNat:Int)=i:=by omega
  rwa [e] at this
theorem Gal.red_chk {g:Gal} {G:List Grp} (h:Fs g.w g.B G=0):Fs g.w g.B (g.red G)=0:=by
 rw [Qa] at h ⊢
 refine ⟨h.1,by unfold Gal.red;rw [List.length_map];exact h.2.1,fun x hx=>?_⟩
 unfold Gal.red at hx
 obtain ⟨y,hy,rfl⟩:=List.mem_map.1 hx
 exact ZB (h.2.2 y hy)
theorem Gal.red_len {g:Gal} {G:List Grp}:(g.red G).length=G.length:=by simp [Gal.red]
theorem Gal.red_get {g:Gal} {G:List Grp} {i:Nat} (h:i<(g.red G).length) (h':i<G.length):(g.red G)[i]=XL g.open G[i]:=List.getElem_map ..
def gst (G:List Grp) (hs:List Int) (t:Int):Nat->Int
 | 0=>0
 | k+1=>if (gd G k).came<=t/\(gt hs (k:Nat)<0∨t<gt hs (k:Nat)) then gst G hs t k+(gd G k).size else gst G hs t k
def mst (G:List Grp) (hs:List Int):Nat->Int
 | 0=>0
 | k+1=>if gst G hs (gd G k).came G.length>mst G hs k then gst G hs (gd G k).came G.length else mst G hs k
def Gal.homes (g:Gal) (G:List Grp):List Int:=(Ngt.played g.w g.B (g.red G)).parties.map Pty.home
def Gal.pres (g:Gal) (G:List Grp):Int:=if g.chkG G=0 then mst G (g.homes G) G.length else 0
theorem Rr {g:Gal} {G:List Grp}:(g.homes G).length=G.length:=by
 unfold Gal.homes
 rw [List.length_map,(OX g.w g.B (g.red G)).len,Gal.red_len]
theorem VJ {w:Int} {B:List BthG} {G:List Grp} (hv:Val w B G) {hs:List Int} {t:Int}:∀ k,k<=G.length->0<=gst G hs t k/\gst G hs t k<=40*k
 | 0,_=>by unfold gst;omega
 | k+1,hk=>by
  have ih:=VJ hv (hs:=hs) (t:=t) k (by omega)
  have e:gd G k=G[k]:=by unfold gd;simp [List.getD,show k<G.length by omega]
  have:=(hv.g _ (List.getElem_mem (show k<G.length by omega))).2.1
  unfold gst
  rw [e]
  split<;>omega
def nr0:NRow:=(0,0,0,(none,0,0),0,(none,0,0))
theorem Qt {g:Gal} {G:List Grp} {P:List NRow} (hl:P.length=G.length) (hp:∀ i,(h:i<G.length)->(h':i<P.length)->P[i].1=G[i].came/\P[i].2.1=G[i].size/\P[i].2.2.1=G[i].tokens/\P[i].2.2.2.2.1=G[i].patience):
  ((g.red G).mapIdx fun i x=>((x.came,x.size,x.tokens,((NRow.w (P.getD i nr0)).A,(NRow.w (P.getD i nr0)).n,(NRow.w (P.getD i nr0)).c),x.patience):GRow))=P.map NRow.g:=by
 apply List.ext_getElem
 ·rw [List.length_mapIdx,List.length_map,Gal.red_len,hl]
 ·intro i h1 h2
  have hi:i<P.length:=by simpa using h2
  obtain ⟨a,b,c,d⟩:=hp i (by omega) hi
  rw [List.getElem_mapIdx,List.getElem_map]
  unfold Gal.red
  rw [List.getElem_map]
  have e2:P.getD i nr0=P[i]:=by simp [List.getD,hi]
  rw [e2]
  show (G[i].came,G[i].size,G[i].tokens,_,G[i].patience)=NRow.g P[i]
  rw [← a,← b,← c,← d]
  rfl
section
variable {σ:Hp} {W:GaW} {g:Gal} {l:SL} {ws:Nat->SL} {G:List Grp}
theorem YK {A:aA} {n:Nat} {xs:List NRow} {i:Nat} {K:Int->Int->Int->aA->Nat->Nat->Int->aA->Nat->Nat->Prop} (h:RdS sN σ A n xs) (hn:i<xs.length) (hk:∀ q:NRow,xs[i]=q->K q.1 q.2.1 q.2.2.1 q.2.2.2.1.1 q.2.2.2.1.2.1 q.2.2.2.1.2.2 q.2.2.2.2.1 q.2.2.2.2.2.1 q.2.2.2.2.2.2.1 q.2.2.2.2.2.2.2):
  ix A n (i:Nat) 6 fun b a=>ldI σ .i64 b a fun x1=>ldI σ .i64 b (a+1) fun x2=>ldI σ .i64 b (a+2) fun x3=>ldS σ b (a+3) fun y1 y2 y3=>ldI σ .i64 b (a+4) fun x5=>ldS σ b (a+5) fun z1 z2 z3=>K x1 x2 x3 y1 y2 y3 x5 z1 z2 z3:=by
 refine Eg (ss:=sN) h rfl (by omega) (by rw [Int.toNat_natCast];exact hn) fun b o hc=>?_
 refine AV (hc 0 (by decide)) (AV (hc 1 (by decide)) (AV (hc 2 (by decide)) (Qj (hc 3 (by decide)) (AV (hc 4 (by decide)) (Qj (hc 5 (by decide)) (hk _ rfl))))))
theorem WT {b:Nat} {r:SL} {w:Int} {ps:SL} {P:List NRow} {B:List BthG} (h:NiR σ b r w ps g.open G P) (hr:RdS sB σ r.A r.n (B.map Kv)) (hG:G.length<=4294967295):
  Af prog 54 #[.pointer (some ⟨b,0,none⟩)] σ fun v σ'=>∃ (s:SL) (ws':Nat->SL),v=s.v/\Hp.Sub σ σ'/\EvR σ' r B s ws' (g.red G):=by
 refine G9 _ _ _ ?_
 unfold Cm
 have hpn:ps.n=P.length:=h.ps.1
 have hPl:=h.pa.1
 refine Ah fun J3 h3=>AG (Bu h.b rfl ?_)
 refine ⟨fun q xs i τ=>∃ k:Nat,q=P.length-k/\i=k/\k<=P.length/\τ=σ/\xs=(P.take k).map NRow.g,⟨_,Fi.2 ⟨0,rfl,rfl,by omega,rfl,rfl⟩⟩,?_⟩
 rintro q xs i τ ⟨k,rfl,rfl,hk,rfl,rfl⟩ _
 refine AF (fun hlt=>?_) (fun hlt=>?_)
 ·have hkl:k<P.length:=by omega
  refine YK h.ps hkl fun q hq=>AY ?_ (AS (by omega) (Be _ (by omega) ⟨k+1,rfl,by omega,by omega,rfl,?_⟩))
  ·show ((P.take k).map NRow.g).length+1<=_
   rw [List.length_map,List.length_take];omega
  ·rw [List.take_succ_eq_append_getElem hkl,List.map_append,hq]
   rfl
 ·obtain rfl:k=P.length:=by omega
  rw [List.take_length,h3]
  intro _ A n c s6 ho
  have hs:=ho.sub
  have e:=Qt (g:=g) hPl fun i h1 h2=>let hp:=h.pa.2 i h1 h2;⟨hp.a,hp.s,hp.t,hp.p⟩
  refine Al ⟨⟨A,n,c⟩,fun i=>NRow.w (P.getD i nr0),rfl,hs,hr.sub hs,(congrArg (fun z:List GRow=>RdS sG s6 A n z) e).mpr ho.rd,fun i hi=>?_⟩
  have hi':i<G.length:=by rwa [Gal.red_len] at hi
  have hp:=h.pa.2 i hi' (by omega)
  have e2:P.getD i nr0=P[i]'(by omega):=by simp [List.getD,show i<P.length by omega]
  have e3:(g.red G)[i].wants=Pz g.open G[i].wants:=congrArg Grp.wants (Gal.red_get hi hi')
  rw [e3,e2]
  exact hp.w.sub hs
theorem RL (h:GaR σ W g) (he:EvR σ W.r g.B l ws G):Af prog 23 #[W.v g,l.v] σ fun v σ'=>v=.tuple #[aD (g.pres G),aD (g.chkG G)]/\σ'=σ:=by
 apply Mk
 unfold FV
 refine AW (aV 46) (TN h he) ?_
 rintro v σ2 (⟨e,rfl,rfl⟩ | ⟨e,b,ps,P,rfl,hs2,hN⟩)
 ·refine ⟨_,_,rfl,BQ (fun _=>Al ⟨?_,rfl⟩) (fun e2=>absurd e2 e)⟩
  unfold Gal.pres;rw [if_neg e]
 obtain ⟨hg,hq⟩:=Gal.chkG_ok e
 have hv:=Cu hq
 have hn60:=hv.n
 have hrd:=Gal.red_chk hq
 have hPl:=hN.pa.1
 refine ⟨_,_,rfl,BQ (fun e2=>absurd rfl e2) (fun _=>AG (Bu hN.b rfl (Bh hN.b rfl ?_)))⟩
 refine AW (aV 54) (WT hN (h.r.sub hs2) (by omega)) ?_
 rintro v s10 ⟨s,ws',rfl,hs10,he10⟩
 refine ⟨_,_,_,rfl,hs10,?_⟩
 refine AW (aV 50) (Yk (w:=g.w) he10) ?_
 rintro v σ13 ⟨s13,rfl,ho13⟩
 have hs13:=ho13.sub
 have eh:ofL (Fs g.w g.B (g.red G)) ((Ngt.played g.w g.B (g.red G)).parties.map Pty.home)=g.homes G:=UP hrd
 have ho13:Ak 3 aM s10 s13.A s13.n s13.c (g.homes G) σ13:=(congrArg (fun z:List Int=>Ak 3 aM s10 s13.A s13.n s13.c z σ13) eh).mp ho13
 have hrdH:=ho13.RdI
 have hhl:=Rr (g:=g) (G:=G)
 have hN13:=hN.sub (hs10.trans hs13)
 have hsσ:=hs2.trans (hs10.trans hs13)
 clear ho13 eh
 rw [hrd]
 have ep:g.pres G=mst G (g.homes G) G.length:=if_pos e
 rw [ep]
 clear ep
 generalize g.homes G=hs at hrdH hhl ⊢
 refine ⟨_,_,_,_,rfl,BQ (fun e2=>absurd rfl e2) (fun _=>Ah fun J18 h18=>AG (Bu hN13.b rfl ?_))⟩
 have hpn:ps.n=P.length:=hN13.ps.1
 refine ⟨fun q m i τ=>∃ k:Nat,q=P.length-k/\m=mst G hs k/\i=k/\k<=P.length/\τ=σ13,⟨_,0,rfl,rfl,rfl,by omega,rfl⟩,?_⟩
 rintro q m i τ ⟨k,rfl,rfl,rfl,hk,rfl⟩ _
 refine AF (fun hlt=>?_) (fun hlt=>?_)
 ·have hkl:k<P.length:=by omega
  refine Ah fun J31 h31=>YK hN13.ps hkl fun q hq=>Ah fun J46 h46=>?_
  have ek:gd G k=G[k]'(by omega):=by unfold gd;simp [List.getD,show k<G.length by omega]
  have hq1:q.1=(gd G k).came:=by rw [ek,← hq];exact (hN13.pa.2 k (by omega) hkl).a
  rw [hq1]
  have k46:J46 (gst G hs (gd G k).came G.length) τ:=by
   rw [h46]
   intro _
   rw [h31]
   intro _
   exact AS (by omega) (Be _ (by omega) ⟨k+1,rfl,rfl,by omega,by omega,rfl⟩)
  generalize (gd G k).came=t at *
  clear h46 h31
  refine AG (Bu hN13.b rfl ?_)
  refine ⟨fun q s i t'=>∃ j:Nat,q=P.length-j/\s=gst G hs t j/\i=j/\j<=P.length/\t'=τ,⟨_,0,rfl,rfl,rfl,by omega,rfl⟩,?_⟩
  rintro q2 s2 i2 t' ⟨j,rfl,rfl,rfl,hj,rfl⟩ _
  refine AF (fun hlt2=>?_) (fun hlt2=>?_)
  ·have hjl:j<P.length:=by omega
   refine Ah fun J59 h59=>YK hN13.ps hjl fun q3 hq3=>Ah fun J74 h74=>?_
   have ej:gd G j=G[j]'(by omega):=by unfold gd;simp [List.getD,show j<G.length by omega]
   have hp3:=hN13.pa.2 j (by omega) hjl
   have e31:q3.1=(gd G j).came:=by rw [ej,← hq3];exact hp3.a
   have e32:q3.2.1=(gd G j).size:=by rw [ej,← hq3];exact hp3.s
   rw [e32] at h74
   rw [e31]
   clear e31 e32 hp3 hq3
   have k59:J59 (gst G hs t (j+1)) t':=by
    rw [h59]
    intro _
    exact AS (by omega) (Be _ (by omega) ⟨j+1,rfl,rfl,by omega,by omega,rfl⟩)
   have hb1:=VJ hv (hs:=hs) (t:=t) (j+1) (by omega)
   have k74:∀ x,x=decide ((gd G j).came<=t/\(gt hs (j:Nat)<0∨t<gt hs (j:Nat)))->J74 x t':=by
    rintro x rfl
    rw [h74]
    intro _
    unfold gst at k59 hb1
    refine AF (fun e=>?_) (fun e=>?_)
    ·rw [if_pos e] at k59 hb1
     exact AS (by omega) k59
    ·rw [if_neg e] at k59
     exact k59
   refine AF (fun e=>EJ hrdH (by omega) (by omega) (AF (fun e2=>k74 _ ?_) (fun e2=>EJ hrdH (by omega) (by omega) (k74 _ ?_)))) (fun e=>k74 _ ?_)
   ·simp [e,e2]
   ·simp [e,e2]
   ·simp [e]
  ·obtain rfl:j=P.length:=by omega
   rw [← hPl] at k46
   exact k46
 ·obtain rfl:k=P.length:=by omega
  rw [h18]
  intro _
  refine Bm hsσ ⟨?_,rfl⟩
  rw [e,hPl]
def N5:Gal:=⟨exB,1,⟨[],[1],[100,100]⟩,[(5,4,0,0,0),(5,4,1,0,0)],5,⟨[(-1,20,2,100)],[(0,0,15,0),(0,0,10,0)],50,5,230⟩,[60,60],[2,0]⟩
def exH:List Grp:=[⟨0,3,20,[0],100⟩,⟨0,2,30,[0],100⟩]
theorem RI:N5.chk=0:=by kernel_rfl
theorem P1:N5.open=[0]:=by kernel_rfl
theorem QK:N5.chkG exG=0:=by kernel_rfl
theorem Wj:N5.red exG=exH:=by
 unfold Gal.red
 rw [P1]
 kernel_rfl
def ezN (t b0 e0 tk ln:Int) (on:List Int) (q:List (Int×Int)) (p0 p1:Int×Int×Int×Int) (vs:List (Int×Int×Int×Bool×Int×Int)):Ngt:=
 ⟨1,[⟨⟨4,2,3,1,false⟩,on,b0,e0,q,tk,ln⟩,⟨⟨2,5,2,0,false⟩,[],0,(-1),[],0,0⟩],[⟨⟨0,3,20,[0],100⟩,p0.1,p0.2.1,p0.2.2.1,p0.2.2.2⟩,⟨⟨0,2,30,[0],100⟩,p1.1,p1.2.1,p1.2.2.1,p1.2.2.2⟩],t,vs⟩
def ez1:Ngt:=ezN 1 0 (-1) 0 0 [] [] (0,20,1,-1) (0,30,1,-1) []
def ez2:Ngt:=ezN 2 1 (-1) 6 2 [0] [(1,1)] (1,14,-1,-1) (0,30,-1,-1) [(0,0,0,true,1,1)]
def ez5:Ngt:=ezN 5 1 4 6 2 [] [(1,1)] (1,14,-1,4) (0,30,-1,-1) [(0,0,0,true,1,1)]
def ez6:Ngt:=ezN 6 5 4 10 2 [1] [] (1,14,-1,4) (1,26,-1,-1) [(0,0,0,true,1,1),(1,0,0,true,1,5)]
def ez9:Ngt:=ezN 9 5 8 10 2 [] [] (1,14,-1,4) (1,26,-1,8) [(0,0,0,true,1,1),(1,0,0,true,1,5)]
theorem AbL:Ngt.run 1 exB exH 1=ez1:=by kernel_rfl
theorem AbD:Ngt.run 1 exB exH 2=ez2:=(congrArg Ngt.tick1 AbL).trans (by kernel_rfl)
theorem AbP:Ngt.run 1 exB exH 3=ez2.setT 3:=(congrArg Ngt.tick1 AbD).trans (by kernel_rfl)
theorem AbH:Ngt.run 1 exB exH 4=ez2.setT 4:=(congrArg Ngt.tick1 AbP).trans (by kernel_rfl)
theorem AbG:Ngt.run 1 exB exH 5=ez5:=(congrArg Ngt.tick1 AbH).trans (by kernel_rfl)
theorem AbN:Ngt.run 1 exB exH 6=ez6:=(congrArg Ngt.tick1 AbG).trans (by kernel_rfl)
theorem AbK:Ngt.run 1 exB exH 7=ez6.setT 7:=(congrArg Ngt.tick1 AbN).trans (by kernel_rfl)
theorem AbJ:Ngt.run 1 exB exH 8=ez6.setT 8:=(congrArg Ngt.tick1 AbK).trans (by kernel_rfl)
theorem Abd:Ngt.run 1 exB exH 9=ez9:=(congrArg Ngt.tick1 AbJ).trans (by kernel_rfl)
theorem Yr:Dy (Ngt.run 1 exB exH 9):=by
 rw [Abd]
 refine ⟨by decide,fun x hx=>?_,fun x hx=>?_⟩
 ·rcases List.mem_cons.1 hx with rfl | hx
  ·exact ⟨rfl,rfl,by decide⟩
  ·rw [List.mem_singleton.1 hx]
   exact ⟨rfl,rfl,by decide⟩
 ·rcases List.mem_cons.1 hx with rfl | hx
  ·exact ⟨by decide,rfl⟩
  ·rw [List.mem_singleton.1 hx]
   exact ⟨by decide,rfl⟩
theorem XI:N5.homes exG=[4,8]:=by
 have e:(Ngt.run 1 exB exH 4001).parties=ez9.parties:=by
  obtain ⟨j,hj⟩:∃ j,4001=9+j:=⟨3992,rfl⟩
  rw [hj,(Yr.run j).2.1,Abd]
 unfold Gal.homes
 rw [Wj]
 show (Ngt.played 1 exB exH).parties.map Pty.home=_
 rw [KC,e]
 rfl
theorem Zm:N5.pres exG=5:=by
 unfold Gal.pres
 rw [if_pos QK,XI]
 kernel_rfl
end
end Go.Proofs.YtoelhdjloaknbaaGreat
