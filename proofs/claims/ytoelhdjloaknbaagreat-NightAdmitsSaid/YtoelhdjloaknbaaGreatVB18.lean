/- What this claim rests on. -/
import Derived.Test.YtoelhdjloaknbaaGreatVB17
import Derived.Test.YtoelhdjloaknbaaGreatVQ5
namespace Go.Proofs.YtoelhdjloaknbaaGreat
open Go.RowKit Go.Proofs.Tryz
theorem Aaz {rs ss:List Rel} (h:rs.Perm ss):(∀ R∈rs,Au R)->∀ {σ σ':Hp},Cs rs σ σ'->Cs ss σ σ':=by
 induction h with
 | nil=>exact fun _ _ _ h=>h
 | cons R p ih=>
  intro hp σ σ' hs
  obtain ⟨s1,h1,h2⟩:=hs
  exact ⟨s1,ih (fun R hR=>hp R (List.mem_cons_of_mem _ hR)) h1,h2⟩
 | swap R S l=>
  intro hp σ σ' hs
  obtain ⟨s1,⟨σ2,h1,h2⟩,h3⟩:=hs
  obtain ⟨s3,q1,q2⟩:=Au.swap (hp R (by simp)) (hp S (by simp)) h2 h3
  exact ⟨s3,⟨σ2,h1,q1⟩,q2⟩
 | trans p q ih1 ih2=>
  intro hp σ σ' hs
  exact ih2 (fun R hR=>hp R (p.mem_iff.2 hR)) (ih1 hp hs)
theorem Aaj:∀ {rs:List Rel} {σ:Hp},(∀ R∈rs,R σ σ)->Cs rs σ σ
 | [],_,_=>rfl
 | _::_,σ,h=>⟨σ,Aaj fun R hR=>h R (List.mem_cons_of_mem _ hR),h _ (List.mem_cons_self ..)⟩
def CK (n k:Nat) (a b:Int):List Int:=(List.range n).map fun i=>if i<k then a else b
theorem UJ {n:Nat} {a b:Int}:CK n 0 a b=List.replicate n b:=by
 apply List.ext_getElem<;>simp [CK]
theorem VE {n:Nat} {a b:Int}:CK n n a b=List.replicate n a:=by
 apply List.ext_getElem
 ·simp [CK]
 ·intro i h1 h2
  have:i<n:=by simpa [CK] using h1
  simp [CK,this]
theorem VK {n k:Nat} {a b:Int}:(CK n k a b).length=n:=by simp [CK]
theorem Um {n k:Nat} {a b:Int} (h:k<n):CK n (k+1) a b=(CK n k a b).set k a:=by
 refine NE h (fun i _ e=>?_) (if_pos (by omega))
 by_cases e2:i<k
 ·rw [if_pos (show i<k+1 by omega),if_pos e2]
 ·rw [if_neg (show ¬ i<k+1 by omega),if_neg e2]
section
variable {w:Int} {B:List BthG} {G:List Grp} {ws:Nat->SL}
def Pl.raw (w:Int) (B:List BthG) (G:List Grp) (j k:Nat):Pl:=⟨w,B,G,0,(G.take k).map fun g=>⟨0,-1,0,g.tokens⟩,List.replicate B.length [],CK B.length j (-1) 0,CK B.length j (-1) 0,[],List.replicate B.length 0,List.replicate B.length 0,CK G.length k (-1) 0⟩
theorem Pl.raw_all:Pl.raw w B G B.length G.length=Pl.init w B G:=by
 unfold Pl.raw Pl.init
 rw [VE,VE,List.take_length]
theorem TM (hv:Val w B G):∀ k:Nat,k<=4001->(Pl.run w B G k).Ok (540*k)/\(Pl.run w B G k).now=k/\(Pl.run w B G k).B=B/\(Pl.run w B G k).G=G
 | 0,_=>⟨Pl.Ok.init hv,rfl,rfl,rfl⟩
 | k+1,hk=>by
  obtain ⟨h1,h2,h3,h4⟩:=TM hv k (by omega)
  obtain ⟨t1,t2⟩:=h1.tick
  refine ⟨?_,rfl,t2.b.trans h3,t2.g.trans h4⟩
  exact (t1.mono (by omega)).later (by omega) (by omega)
def Agf (σ:Hp) (ws:Nat->SL) (S:Pl):aB:=fun v σ'=>∃ W:PW,v=.pointer (some ⟨W.pb,0,none⟩)/\PSt W σ S ws/\AO W σ σ' S
theorem AO.gnew {W:PW} {s0 σ:Hp} {S:Pl} (h:AO W s0 σ S):∃ (v:SL) (s1:Hp),σ W.pb=some (.cells (Xg W S v) 178 (0,0),true)/\Aj 237 sGs s1 W.gu.A W.gu.n W.gu.c (S.guests.map gsT) σ /\
  ∀ (xs:List Gs) (s:SL) (σ2:Hp),Aj 237 sGs s1 s.A s.n s.c (xs.map gsT) σ2->σ2.wr ⟨W.pb,4,none⟩/\AO { W with gu:=s } s0 (σ2.put ⟨W.pb,4,none⟩ s.v) { S with guests:=xs }:=by
 obtain ⟨v,hb⟩:=h.pblk
 obtain ⟨s1,h1,h2⟩:=h.at_ 1 (by omega)
 refine ⟨v,s1,hb,h1,fun xs s σ2 ho=>?_⟩
 have h3:=h2 (ownP 237 sGs s (xs.map gsT)) σ2 σ2 Au.ownP ho (Hp.Sub.refl _)
 have hp:∀ R∈(Iw W S).set 1 (ownP 237 sGs s (xs.map gsT)),Au R:=fun R hR=>by
  rcases List.mem_or_eq_of_mem_set hR with hR | rfl
  ·exact G6 R hR
  ·exact Au.ownP
 obtain ⟨s4,⟨v4,s5,q1,q2⟩,q3⟩:=Il (k:=0) hp (by show 0<8;omega) h3
 obtain ⟨w1,w2,w3⟩:=q1.st q2.sub (k:=4) (show 4<12 by omega) s.v
 exact ⟨w1,q3 (coreP { W with gu:=s } { S with guests:=xs }) _ _ Au.coreP ⟨v4,_,w2,q2.putb q1.get s.v⟩ (Hp.Sub.refl _)⟩
set_option maxRecDepth 20000 in
theorem AcD {σ:Hp} {r l:SL} (he:EvR σ r B l ws G) (hv:Val w B G):Af prog 101 #[.agg #[r.v,aD w],l.v] σ (Agf σ ws (Pl.run w B G 4001)):=by
 apply QQ
 unfold Hv
 have hrn:=he.lenR
 have hln:=he.lenL
 have hn:=hv.n
 have hm:=hv.m
 refine Ad fun J3 h3=>?_
 have k3:∀ (W:PW) (τ:Hp),W.f=r->W.l=l->AO W σ τ (Pl.raw w B G 0 0)->J3 (some ⟨W.pb,0,none⟩) τ:=by
  intro W σ2 hf hl h2
  have hS:∀ (s:SL) (S:Pl),S.B=B->S.G=G->PSt { W with gu:=s } σ S ws:=fun s S e1 e2=>⟨by rw [e1,e2];show EvR σ W.f B W.l ws G;rw [hf,hl];exact he⟩
  rw [h3]
  intro _
  refine Ad fun J7 h7=>?_
  have k7:∀ τ,AO W σ τ (Pl.raw w B G B.length 0)->J7 τ:=by
   intro s6 h6
   rw [h7]
   intro _
   refine Ad fun J10 h10=>?_
   have k10:∀ s τ,AO { W with gu:=s } σ τ (Pl.init w B G)->J10 τ:=by
    intro s s9 h9
    rw [h10]
    intro _
    refine Ad fun J13 h13=>?_
    have k13:∀ τ,AO { W with gu:=s } σ τ (Pl.run w B G 4001)->J13 τ:=by
     intro τ ht
     rw [h13]
     intro _
     obtain ⟨_,_,e1,e2⟩:=TM hv 4001 (Nat.le_refl _)
     exact Ai ⟨{ W with gu:=s },rfl,hS s _ e1 e2,ht⟩
    obtain ⟨w1,h16⟩:=h9.now 0
    refine AF ⟨w1,?_⟩
    refine ⟨fun m τ=>∃ k:Nat,m=4001-k/\k<=4001/\AO { W with gu:=s } σ τ (Pl.run w B G k),⟨_,0,rfl,by omega,h16⟩,?_⟩
    rintro m τ ⟨k,rfl,hk,ht⟩ _
    obtain ⟨ok,en,e1,e2⟩:=TM hv k hk
    obtain ⟨v,hb⟩:=ht.pblk
    refine AF (Bu hb rfl ?_)
    rw [en]
    refine Az (fun hle=>?_) (fun hle=>?_)
    ·refine Bd (aW 164) (AfB (W:={ W with gu:=s }) (hS s _ e1 e2) ht ok (by omega)) ?_
     rintro _ τ2 ⟨rfl,ht2⟩
     obtain ⟨_,sm⟩:=ok.tick
     obtain ⟨v2,hb2⟩:=ht2.pblk
     refine AF (Bu hb2 rfl ?_)
     rw [sm.n,en]
     refine AQ (by omega) ?_
     obtain ⟨w2,h3⟩:=ht2.now ((k:Int)+1)
     exact AF ⟨w2,AX _ (by omega) ⟨k+1,rfl,by omega,h3⟩⟩
    ·have:k=4001:=by omega
     subst this
     exact k13 _ ht
   refine ⟨fun m i τ=>∃ (k:Nat) (s:SL),m=G.length-k/\i=k/\k<=G.length/\AO { W with gu:=s } σ τ (Pl.raw w B G B.length k),⟨_,0,W.gu,rfl,rfl,by omega,h6⟩,?_⟩
   rintro m i τ ⟨k,s,rfl,rfl,hk,ht⟩ _
   refine Az (fun hlt=>?_) (fun hlt=>?_)
   ·have hkl:k<G.length:=by omega
    obtain ⟨v,s1,hb,ho,hnew⟩:=ht.gnew
    refine AF (Bf hb rfl ((he.sub ht.sub).group hkl fun b o _ _ d2 _ _=>AV d2 (BX ho (AY ?_ (AF fun A50 l50 c50 s51 ho51=>?_)))))
    ·show (List.map gsT ((G.take k).map _)).length+1<=_
     rw [List.length_map,List.length_map,List.length_take]
     omega
    have eg:(((G.take k).map fun g:Grp=>(⟨0,-1,0,g.tokens⟩:Gs))++[(⟨0,-1,0,G[k].tokens⟩:Gs)]).map gsT=((G.take k).map fun g:Grp=>(⟨0,-1,0,g.tokens⟩:Gs)).map gsT++[gsT ⟨0,-1,0,G[k].tokens⟩]:=by simp
    obtain ⟨w1,h52⟩:=hnew (((G.take k).map fun g:Grp=>(⟨0,-1,0,g.tokens⟩:Gs))++[(⟨0,-1,0,G[k].tokens⟩:Gs)]) ⟨A50,l50,c50⟩ s51 ((congrArg (fun z:List (TyR sGs)=>Aj 237 sGs s1 A50 l50 c50 z s51) eg).mpr ho51)
    refine ⟨w1,?_⟩
    obtain ⟨v2,hb2⟩:=h52.pblk
    refine AF (Bf hb2 rfl (h52.stHo (by omega) (by show (k:Int)<((CK G.length k (-1) 0).length:Int);rw [VK];omega) fun τ2 ht2=>AQ (by omega) (AX (G.length-(k+1)) (by omega) ⟨k+1,⟨A50,l50,c50⟩,rfl,by omega,by omega,?_⟩)))
    have e1:Pl.raw w B G B.length (k+1)={ Pl.raw w B G B.length k with guests:=((G.take k).map fun g:Grp=>(⟨0,-1,0,g.tokens⟩:Gs))++[(⟨0,-1,0,G[k].tokens⟩:Gs)],homes:=(CK G.length k (-1) 0).set k (-1) }:=by
     unfold Pl.raw
     rw [← Um hkl,List.take_succ_eq_append_getElem hkl,List.map_append]
     rfl
    rw [e1]
    exact ht2
   ·have:k=G.length:=by omega
    subst this
    rw [Pl.raw_all] at ht
    exact k10 _ _ ht
  refine ⟨fun m i τ=>∃ k:Nat,m=B.length-k/\i=k/\k<=B.length/\AO W σ τ (Pl.raw w B G k 0),⟨_,0,rfl,rfl,by omega,h2⟩,?_⟩
  rintro m i τ ⟨k,rfl,rfl,hk,ht⟩ _
  refine Az (fun hlt=>?_) (fun hlt=>?_)
  ·have hkl:k<B.length:=by omega
   have hl0:(k:Int)<((CK B.length k (-1) 0).length:Int):=by rw [VK];omega
   obtain ⟨v,hb⟩:=ht.pblk
   refine AF (Bf hb rfl (ht.stBe (by omega) hl0 fun τ1 h1=>?_))
   obtain ⟨v1,hb1⟩:=h1.pblk
   refine AF (Bf hb1 rfl (h1.stEn (by omega) hl0 fun τ2 h2=>AQ (by omega) (AX _ (by omega) ⟨k+1,rfl,by omega,by omega,?_⟩)))
   have e1:Pl.raw w B G (k+1) 0={ Pl.raw w B G k 0 with began:=(CK B.length k (-1) 0).set k (-1),ended:=(CK B.length k (-1) 0).set k (-1) }:=by
    unfold Pl.raw
    rw [← Um hkl]
   rw [e1]
   exact h2
  ·have:k=B.length:=by omega
   subst this
   exact k7 _ ht
 refine VX ?_ 6 _ ?_
 ·simp only [Int.toNat_natCast]
  rw [hrn,hln]
  intro A82 l82 c82 s83 o82 A84 l84 c84 s85 o84 A86 l86 c86 s87 o86 A88 l88 c88 s89 o88 A90 l90 c90 s91 o90 A92 l92 c92 s93 o92 b94 n94
  refine k3 ⟨b94,⟨r.A,B.length,r.c⟩,⟨l.A,G.length,l.c⟩,⟨none,0,0⟩,⟨A82,l82,c82⟩,⟨A84,l84,c84⟩,⟨A86,l86,c86⟩,⟨A88,l88,c88⟩,⟨A90,l90,c90⟩,⟨A92,l92,c92⟩⟩ _ (by rw [← hrn]) (by rw [← hln]) (Lse.of ?_)
  have hz:CK B.length 0 (-1) 0=List.replicate B.length 0:=UJ
  have hz2:CK G.length 0 (-1) 0=List.replicate G.length 0:=UJ
  refine Aaz (rs:=[ownP 237 sGs ⟨none,0,0⟩ [],coreP ⟨b94,⟨r.A,B.length,r.c⟩,⟨l.A,G.length,l.c⟩,⟨none,0,0⟩,⟨A82,l82,c82⟩,⟨A84,l84,c84⟩,⟨A86,l86,c86⟩,⟨A88,l88,c88⟩,⟨A90,l90,c90⟩,⟨A92,l92,c92⟩⟩ (Pl.raw w B G 0 0),ownI ⟨A92,l92,c92⟩ (CK G.length 0 (-1) 0),ownI ⟨A90,l90,c90⟩ (List.replicate B.length 0),ownI ⟨A88,l88,c88⟩ (List.replicate B.length 0),ownI ⟨A86,l86,c86⟩ (CK B.length 0 (-1) 0),ownI ⟨A84,l84,c84⟩ (CK B.length 0 (-1) 0),queP ⟨A82,l82,c82⟩ (List.replicate B.length [])]) ?_ ?_ ?_
  ·refine (List.Perm.swap _ _ _).trans (.cons _ (.cons _ ?_))
   exact (List.reverse_perm [ownI ⟨A92,l92,c92⟩ (CK G.length 0 (-1) 0),ownI ⟨A90,l90,c90⟩ (List.replicate B.length 0),ownI ⟨A88,l88,c88⟩ (List.replicate B.length 0),ownI ⟨A86,l86,c86⟩ (CK B.length 0 (-1) 0),ownI ⟨A84,l84,c84⟩ (CK B.length 0 (-1) 0),queP ⟨A82,l82,c82⟩ (List.replicate B.length [])]).symm
  ·intro R hR
   simp only [List.mem_cons,List.not_mem_nil,or_false] at hR
   rcases hR with rfl | rfl | rfl | rfl | rfl | rfl | rfl | rfl
   ·exact Au.ownP
   ·exact Au.coreP
   ·exact Au.ownI
   ·exact Au.ownI
   ·exact Au.ownI
   ·exact Au.ownI
   ·exact Au.ownI
   ·exact Au.queP
  ·rw [hz,hz2]
   refine ⟨_,⟨s93,⟨s91,⟨s89,⟨s87,⟨s85,⟨s83,⟨σ,rfl,?_⟩,o84⟩,o86⟩,o88⟩,o90⟩,o92⟩,⟨⟨none,0,0⟩,_,⟨n94,rfl⟩,Aj.nil ..⟩⟩,Aj.nil ..⟩
   refine ⟨List.replicate B.length ⟨none,0,0⟩,by simp,s83,?_,Aaj fun R hR=>?_⟩
   ·have e:(List.replicate B.length (⟨none,0,0⟩:SL)).map slT=List.replicate B.length (none,0,0):=List.map_replicate ..
    exact (congrArg (fun z:List (TyR [.slc])=>Aj 26 [.slc] σ A82 l82 c82 z s83) e).mpr o82
   ·obtain ⟨i,hi,rfl⟩:=List.mem_map.1 hR
    have hi:i<B.length:=by simpa using hi
    have e1:(List.replicate B.length (⟨none,0,0⟩:SL)).getD i SL.d=⟨none,0,0⟩:=by simp [List.getD,hi]
    have e2:(List.replicate B.length ([]:List Int)).getD i []=[]:=by simp [List.getD,hi]
    rw [e1,e2]
    exact Aj.nil ..
 ·intro c hc K hK
  simp only [List.mem_cons,List.not_mem_nil,or_false] at hc
  rcases hc with rfl | rfl | rfl | rfl | rfl | rfl<;>exact ⟨by omega,by omega,by omega,hK⟩
end
section
variable {σ:Hp} {w:Int} {r l:SL} {B:List BthG} {ws:Nat->SL} {G:List Grp}
theorem Rl.same {N:Ngt} {S:Pl} {pl:Int->Int} (h:Rl w B G 0 0 N S pl [] (-1)) (hp:∀ g:Int,0<=g->g<G.length->pl g<=4):S.homes=N.parties.map Pty.home/\S.guests.map Gs.tokens=N.parties.map Pty.purse /\
  S.takes=N.rides.map Bth.takes/\S.lines=N.rides.map Bth.line:=by
 have np:=h.np
 have nr:=h.nr
 refine ⟨?_,?_,?_,?_⟩
 ·apply List.ext_getElem
  ·rw [h.lh,List.length_map,np]
  ·intro i h1 h2
   have hi:i<G.length:=by rw [← h.lh];exact h1
   have hg:=h.gr i (by omega) (by omega)
   have:=hp i (by omega) (by omega)
   rcases hg.hm with hm | hm
   ·rw [← BJ h1,hm,List.getElem_map]
    have hi2:i<N.parties.length:=by rw [np];exact hi
    simp [Ngt.pa,List.getD,hi2]
   ·omega
 ·apply List.ext_getElem
  ·rw [List.length_map,h.lg,List.length_map,np]
  ·intro i h1 h2
   have hi:i<G.length:=by rw [List.length_map,h.lg] at h1;exact h1
   have hg:=(h.gr i (by omega) (by omega)).tk
   have hi2:i<N.parties.length:=by rw [np];exact hi
   have hi3:i<S.guests.length:=by rw [h.lg];exact hi
   rw [List.getElem_map,List.getElem_map]
   simp [Ngt.pa,Pl.gu,List.getD,hi2,hi3] at hg
   exact hg
 ·apply List.ext_getElem
  ·rw [h.lt,List.length_map,nr]
  ·intro i h1 h2
   have hi:i<B.length:=by rw [← h.lt];exact h1
   have hg:=(h.rt i (by omega) (by omega)).1
   have hi2:i<N.rides.length:=by rw [nr];exact hi
   rw [← BJ h1,hg,List.getElem_map]
   simp [Ngt.bo,List.getD,hi2]
 ·apply List.ext_getElem
  ·rw [h.ll,List.length_map,nr]
  ·intro i h1 h2
   have hi:i<B.length:=by rw [← h.ll];exact h1
   have hg:=(h.rt i (by omega) (by omega)).2
   have hi2:i<N.rides.length:=by rw [nr];exact hi
   rw [← BJ h1,hg,List.getElem_map]
   simp [Ngt.bo,List.getD,hi2]
theorem AbT (hv:Val w B G):(Pl.run w B G 4001).homes=(Ngt.played w B G).parties.map Pty.home/\(Pl.run w B G 4001).guests.map Gs.tokens=(Ngt.played w B G).parties.map Pty.purse /\
  (Pl.run w B G 4001).takes=(Ngt.played w B G).rides.map Bth.takes/\(Pl.run w B G 4001).lines=(Ngt.played w B G).rides.map Bth.line/\(Pl.run w B G 4001).visits=(Ngt.run w B G 4001).visits:=by
 obtain ⟨pl,h,_,_,hp⟩:=UP hv 4001 (Nat.le_refl _)
 rw [Mj,WZ]
 obtain ⟨a,b,c,d⟩:=h.same fun g g0 g1=>(hp g g0 g1).1
 exact ⟨a,b,c,d,h.vs⟩
theorem Xn (he:EvR σ r B l ws G) (hv:Val w B G):∃ S:Pl,(S.homes=(Ngt.played w B G).parties.map Pty.home/\S.guests.map Gs.tokens=(Ngt.played w B G).parties.map Pty.purse /\
  S.takes=(Ngt.played w B G).rides.map Bth.takes/\S.lines=(Ngt.played w B G).rides.map Bth.line/\S.visits=(Ngt.run w B G 4001).visits)/\S.visits.length<=2200000/\Af prog 101 #[.agg #[r.v,aD w],l.v] σ (Agf σ ws S):=
 ⟨_,AbT hv,Nat.le_trans (TM hv 4001 (Nat.le_refl _)).1.vl (by omega),AcD he hv⟩
def OfR (σ:Hp) (c:Int) (xs:List Int):aB:=fun v σ'=>∃ s:SL,v=.tuple #[s.v,aD c]/\Hp.Sub σ σ'/\RdS aM σ' s.A s.n (ofL c xs)
theorem OfR.err {c:Int} {xs:List Int} (h:¬ c=0):OfR σ c xs (.tuple #[aN none 0 0,aD c]) σ:=⟨⟨none,0,0⟩,rfl,Hp.Sub.refl _,by rw [ZN h];exact (Aj.nil 3 aM σ).rd⟩
theorem AaI (hr:EvR σ r B l ws G) (hB:B.length<=4294967296) (hG:G.length<=4294967296) (hW:∀ k,(h:k<G.length)->G[k].wants.length<=4294967296):Af prog 96 #[.agg #[r.v,aD w],l.v] σ (OfR σ (Ey w B G) ((Ngt.played w B G).parties.map Pty.home)):=by
 apply Tg
 unfold KH
 refine clI (aW 77) (Ps hr hB hG hW) (BO (fun hc=>?_) (fun hc=>?_))
 ·exact Ai (OfR.err (by simpa using hc))
 ·have hc:Ey w B G=0:=by simpa using hc
  have hv:=CB hc
  obtain ⟨S,sm,_,hpl⟩:=Xn hr hv
  refine Bd (aW 101) hpl ?_
  rintro _ τ ⟨W,rfl,hS,ht⟩
  obtain ⟨v,hb⟩:=ht.pblk
  refine ⟨_,rfl,AF (Bf hb rfl (Ai ⟨W.ho,by rw [hc];rfl,ht.sub,?_⟩))⟩
  rw [Uz hc,← sm.1]
  exact ht.ird.2.2.2.2
end
end Go.Proofs.YtoelhdjloaknbaaGreat
