/- What this claim rests on. -/
import Derived.Test.YtoelhdjloaknbaaGreatYKn1
import Derived.Test.YtoelhdjloaknbaaGreatYNx6
namespace Go.Proofs.YtoelhdjloaknbaaGreat
set_option maxRecDepth 100000
open Go.RowKit Go.ChangeShapes Go.WideShapes Go.Deep Go.Joins Go.Proofs.Tryz
section
variable {σ:Hp} {W:GaW} {g:Gal} {l:SL} {ws:Nat->SL} {G:List Grp}
theorem Aiz {c:Int} {xs:List Int} (h:g.shE G c xs=0):g.chkG G=0/\(0<=c/\c<=1000)/\Pu (AQ (g.tks G)*c) xs=0:=by
 unfold Gal.shE at h
 split at h
 ·rename_i h1
  split at h
  ·rename_i h2
   exact ⟨h1,of_decide_eq_true h2,h⟩
  ·exact absurd h (by decide)
 ·rename_i h1
  exact absurd h h1
theorem Ag7 {c:Int} {xs:List Int} (h:Pu c xs=0):Wgt xs:=by
 unfold Pu at h
 split at h
 ·split at h
  ·rename_i h2
   exact Wgt.of h2
  ·exact absurd h (by decide)
 ·exact absurd h (by decide)
theorem Aeu {B:List BthG} {G:List Grp} {V:List Vis} {k:Nat} (h:k<V.length):pvs B G (V.take (k+1))=pvs B G (V.take k)+Sn B G V[k]:=by
 unfold pvs
 rw [List.take_succ_eq_append_getElem h,List.map_append,Dw]
 simp [AQ]
theorem Acn {w:Int} {B:List BthG} {G:List Grp} (hv:Val w B G) {v:Vis} (h:(0<=v.1/\v.1<G.length)/\0<=v.ride/\v.ride<B.length):0<=Sn B G v/\Sn B G v<=4000:=by
 have hp:=(hv.bt h.2.1 h.2.2).2.1
 have hs:=(hv.gr h.1.1 h.1.2).2.1
 unfold Sn
 split
 ·exact ⟨Int.mul_nonneg hp.1 (by omega),Int.le_trans (Int.mul_le_mul hp.2 hs.2 (by omega) (by omega)) (by omega)⟩
 ·omega
theorem Af6 {w:Int} {B:List BthG} {G:List Grp} (hv:Val w B G) {V:List Vis} (h:∀ v∈V,(0<=v.1/\v.1<G.length)/\0<=v.ride/\v.ride<B.length) (hl:V.length<=600) (k:Nat):0<=pvs B G (V.take k)/\pvs B G (V.take k)<=2400000:=by
 have hm:∀ x∈(V.take k).map (Sn B G),0<=x/\x<=4000:=fun x hx=>by
  obtain ⟨v,hv',rfl⟩:=List.mem_map.1 hx
  exact Acn hv (h v (List.mem_of_mem_take hv'))
 have h1:=Fu fun x hx=>(hm x hx).1
 have h2:=E8 (m:=4000) (l:=(V.take k).map (Sn B G)) fun x hx=>(hm x hx).2
 rw [List.length_map,List.length_take] at h2
 unfold pvs
 omega
theorem SQ {x c:Int} (hx:0<=x/\x<=2400000) (hc:0<=c/\c<=1000):0<=x*c/\x*c<=2400000000:=by
 have h1:=Int.mul_le_mul hx.2 hc.2 hc.1 (by omega)
 exact ⟨Int.mul_nonneg hx.1 hc.1,by omega⟩
theorem AbH {ce:Int} {xA:aA} {xn xc:Nat} {xs:List Int} (h:GaR σ W g) (hc:W.e.n<=W.e.c) (hl:RdS sG σ l.A l.n (G.mapIdx (C1 ws))) (hw:∀ i,(h:i<G.length)->RdS aM σ (ws i).A (ws i).n G[i].wants) (hx:RdS aM σ xA xn xs) (_:xn<=xc):Ag prog 8 #[W.v g,l.v,.agg #[aD ce,aN xA xn xc]] σ fun v _=>v=.bool true:=by
 have he:EvR σ W.r g.B l ws G:=⟨h.r,hl,hw⟩
 apply LD
 unfold DX
 have hxn:=hx.lenI
 refine Ae fun J3 h3=>Ae fun J176 h176=>?_
 have k176:J176 true σ:=by
  rw [h176]
  intro _
  exact AjB (OK (Aj rfl))
 refine clB (aW 18) (Adx h he) (BR (fun _=>k176) (fun hf=>?_))
 rw [Bool.or_eq_false_iff] at hf
 have hn:=AgZ hf.1
 obtain ⟨f1,f2,f3⟩:=AiD hf.2
 have hW:∀ k,(h:k<G.length)->G[k].wants.length<=4294967296:=fun k hk=>by have:=f3 k hk;omega
 rw [h176]
 intro _
 refine Ay (fun _=>OK (Aj rfl)) (fun hx20=>?_)
 rw [h3]
 intro _
 clear h3 h176 k176
 refine AZ (aW 13) (Aha h hn) ?_
 rintro v s5 ⟨Q,rfl,hs5,hq⟩
 refine ⟨_,_,_,_,_,_,_,_,_,_,_,_,_,_,_,_,_,_,_,_,_,_,_,_,_,_,_,_,_,_,_,_,rfl,Ae fun J22 h22=>?_⟩
 have k22:∀ (s:SL) τ,Hp.Sub s5 τ->RdS aM τ s.A s.n (g.shL G ce xs)->J22 s.A s.n s.c (g.shE G ce xs) τ:=by
  intro s τ hsτ hrA
  rw [h22]
  intro _
  have hs:=hs5.trans hsτ
  refine AZ (aW 25) (AeG (h.sub hs) (he.sub hs) (by omega) hc (by omega) hW (hx.sub hs) (by omega)) ?_
  rintro v s26 ⟨s2,rfl,hs26,hrB⟩
  refine ⟨_,_,_,_,rfl,Ae fun J31 h31=>Ae fun J105 h105=>?_⟩
  have hrA:=hrA.sub hs26
  have hsl:(g.shL G ce xs).length<=4294967296:=by
   unfold Gal.shL
   split
   ·rw [ZM]
    omega
   ·simp
  refine clB (aW 22) (AdY hrA hrB hsl) ?_
  rw [decide_eq_true rfl]
  have hsτ':=hsτ.trans hs26
  have hσ:=hs.trans hs26
  have k105:J105 false s26:=by
   rw [h105]
   intro _
   refine Aei ?_
   rw [h31]
   intro _
   refine Bu (fun _=>OK (Aj rfl)) (fun e0=>?_)
   obtain ⟨eG,hce,hsp⟩:=Aiz e0
   obtain ⟨hgo,hqo⟩:=Gal.chkG_ok eG
   have hv:=BO hqo
   have hwt:=Ag7 hsp
   have hmul:=YN (G:=G) hqo hce
   have hsL:g.shL G ce xs=W5 (AQ (g.tks G)*ce) xs:=if_pos e0
   have hsum:AQ (g.shL G ce xs)=AQ (g.tks G)*ce:=by rw [hsL];exact Aee hwt hmul.1
   have hnn:∀ x∈g.shL G ce xs,0<=x:=by
    rw [hsL]
    intro x hx
    obtain ⟨i,_,rfl⟩:=List.mem_map.1 hx
    have:=(hwt.qr hmul.1 i).1
    split<;>omega
   have hll:(g.shL G ce xs).length<=10:=by
    rw [hsL,ZM]
    exact hwt.n.2
   have htp:=AgM eG
   have hvr:=AbR eG
   have hvl:=AdP (g:=g) (G:=G)
   refine AZ (aW 20) (Wj (W:=W) (he.sub hσ) (by omega) hW) ?_
   rintro v s36 ⟨l',ws',rfl,hs36,hE⟩
   refine ⟨_,_,_,rfl,hs36,?_⟩
   have hq36:=hq.sub (hsτ'.trans hs36)
   refine AZ (aW 26) (Ahm hq36 (hE hq36.r)) ?_
   rintro v s39 ⟨s40,rfl,hs39,hrV⟩
   rw [eG]
   refine ⟨_,_,_,_,rfl,Bu (fun a=>absurd rfl a) (fun _=>Ae fun J44 h44=>?_)⟩
   have hA39:=hrA.sub (hs36.trans hs39)
   have hσ39:=hσ.trans (hs36.trans hs39)
   have he39:=he.sub hσ39
   have hrn:W.r.n=g.B.length:=h.rn
   have hln:l.n=G.length:=he.lenL
   have hsn:s.n=(g.shL G ce xs).length:=hA39.lenI
   have hVn:s40.n=(g.plays G).length:=hrV.1
   rw [htp] at hsum hmul
   have hpall:=Af6 hv hvr hvl (g.plays G).length
   have hptk:=Af6 hv hvr hvl
   clear h105 h31 hsL hsp e0
   generalize g.shL G ce xs=P at *
   generalize g.plays G=V at *
   rw [List.take_length] at hpall
   have hPle:∀ k,0<=AQ (P.take k)/\AQ (P.take k)<=AQ P:=by
    intro k
    have e1:AQ P=AQ (P.take k)+AQ (P.drop k):=by rw [← Dw,List.take_append_drop]
    have h1:=Fu fun x hx=>hnn x (List.mem_of_mem_take (i:=k) hx)
    have h2:=Fu fun x hx=>hnn x (List.mem_of_mem_drop (i:=k) hx)
    omega
   have k44:J44 (pvs g.B G V*ce) s39:=by
    rw [h44]
    intro _
    refine Ae fun J48 h48=>?_
    refine ⟨fun q n i t2=>∃ k:Nat,q=P.length-k/\n=pvs g.B G V*ce-AQ (P.take k)/\i=k/\k<=P.length/\t2=s39,⟨_,0,rfl,by simp [AQ],rfl,by omega,rfl⟩,?_⟩
    rintro q n i t2 ⟨k,rfl,rfl,rfl,hk,rfl⟩ _
    refine Ay (fun hlt=>?_) (fun hlt=>?_)
    ·have hkl:k<P.length:=by omega
     have es:=HG hkl
     have h1:=hPle k
     have h2:=hPle (k+1)
     have h3:=SQ hpall hce
     exact B1 hA39 (by omega) (by omega) (AL (by omega) (AL (by omega) (AY _ (by omega) ⟨k+1,rfl,by omega,by omega,by omega,rfl⟩)))
    ·obtain rfl:k=P.length:=by omega
     rw [List.take_length,hsum,h48]
     intro _
     refine Ay (fun _=>OK (Aj rfl)) (fun a=>absurd (by omega) a)
   refine ⟨fun q n i t2=>∃ k:Nat,q=V.length-k/\n=pvs g.B G (V.take k)*ce/\i=k/\k<=V.length/\t2=s39,⟨_,0,rfl,by simp [pvs,AQ],rfl,by omega,rfl⟩,?_⟩
   rintro q n i t2 ⟨k,rfl,rfl,rfl,hk,rfl⟩ _
   refine Ay (fun hlt=>?_) (fun hlt=>?_)
   ·have hkl:k<V.length:=by omega
    obtain ⟨⟨a1,a2⟩,a3,a4⟩:=hvr V[k] (List.getElem_mem hkl)
    have hpy:=Acn hv (hvr V[k] (List.getElem_mem hkl))
    have hst:=Aeu (B:=g.B) (G:=G) hkl
    have hp1:=SQ (hptk (k+1)) hce
    have hp0:=SQ (hptk k) hce
    refine Ae fun J74 h74=>RdS.vix hrV hkl rfl fun b1' o1 c0 c1 c2 c3 c4 c5=>A0 c0 (A0 c1 (A0 c2 (VU c3 (A0 c4 (A0 c5 ?_)))))
    have k74:∀ n,n=pvs g.B G (V.take (k+1))*ce->J74 n t2:=by
     rintro n rfl
     rw [h74]
     intro _
     exact AL (by omega) (AY _ (by omega) ⟨k+1,rfl,rfl,by omega,by omega,rfl⟩)
    clear h74
    rw [hst] at hp1 k74
    generalize V[k]=x at *
    refine Ae fun J89 h89=>Ae fun J101 h101=>?_
    have k101:J101 false t2:=by
     rw [h101]
     intro _
     refine Aei ?_
     rw [h89]
     intro _
     refine BR (fun eon=>?_) (fun eon=>k74 _ ?_)
     ·have ep:Sn g.B G x=(bd g.B x.ride).price*(gd G x.1).size:=if_pos eon
      rw [ep] at hpy k74 hp1
      refine he39.rix a3 a4 fun b a _ d1 _ _ _=>A0 d1 (he39.gix a1 a2 fun b a _ d1 _ _ _=>A0 d1 ?_)
      refine AL (by omega) ?_
      have hm3:=SQ (x:=(bd g.B x.ride).price*(gd G x.1).size) (by omega) hce
      rw [Int.add_mul] at hp1 k74
      exact AL (by omega) (AL (by omega) (k74 _ rfl))
     ·have ep:Sn g.B G x=0:=by
       unfold Sn
       rw [if_neg]
       show ¬ x.2.2.2.1=true
       rw [eon]
       decide
      rw [ep,Int.add_zero]
    have a3:0<=x.2.2.1:=a3
    have a4:x.2.2.1<g.B.length:=a4
    refine Ay (fun a=>absurd a (by omega)) (fun _=>Ay (fun a=>absurd a (by omega)) (fun _=>Ay (fun a=>absurd a (by omega)) (fun _=>?_)))
    rw [decide_eq_false (by omega)]
    exact k101
   ·obtain rfl:k=V.length:=by omega
    rw [List.take_length]
    exact k44
  refine AhI ?_
  rw [show (!decide (g.shE G ce xs=g.shE G ce xs))=false by simp]
  exact k105
 clear h22
 have tail:∀ (l':SL) (ws':Nat->SL) (s111:Hp),Hp.Sub s5 s111->(∀ {r:SL} {B:List BthG},RdS sB s111 r.A r.n (B.map Nv)->EvR s111 r B l' ws' G)->∀ (A:aA) (n c:Nat) (s115:Hp),Ak 3 aM s111 A n c xs s115->aC 24 #[Q.v g,l'.v,aD ce,aN A n c] s115 fun v s117=>∃ A118:aA,∃ l118 c118:Nat,∃ n119:Int,(v=.tuple #[aN A118 l118 c118,aD n119]/\J22 A118 l118 c118 n119 s117):=by
  intro l' ws' s111 hs hE A n c s115 ho
  have hq1:=hq.sub (hs.trans ho.sub)
  refine AZ (aW 24) (AeR hq1 ((hE (hq.sub hs).r).sub ho.sub) ho.RdI (by omega)) ?_
  rintro v s117 ⟨s,rfl,hs117,hr⟩
  exact ⟨_,_,_,_,rfl,k22 s _ (hs.trans (ho.sub.trans hs117)) hr⟩
 refine ⟨⟨?_,?_⟩,?_,?_,?_⟩
 all_goals
  refine AZ (aW 20) (Wj (W:=W) (he.sub hs5) (by omega) hW) ?_
  rintro v s111 ⟨l',ws',rfl,hs111,hE⟩
  refine ⟨_,_,_,rfl,hs111,?_⟩
  try refine And.intro ?_ ?_
  all_goals exact ⟨xs,hx.sub (hs5.trans hs111),Bb (by show 0+xs.length<=_;omega) fun A n c τ ho=>tail l' ws' s111 hs111 hE A n c τ ho⟩
end
theorem Xo (os:Os) (started:os.Started) (H:Type) (enc:TypeId×Value->H):
  ReturnsInHanded {} Tryz.checked os 8 .any (Rows.nightSharesSpec.pre6 enc prog Tryz.f8 Rows.nightSharesRow.domain false) (Rows.nightSharesSpec.post enc prog Tryz.f8 false true false false):=by
 refine returnsInHanded_of_change (C:=Tryz.checked) Tryz.own started (by kernel_rfl) Tryz.func8
  (ChangeSpec.witness6 (enc:=enc) (C:=Tryz.checked) false ⟨#[],#[.agg #[aN none 0 0,aD 0,aN none 0 0,aN none 0 0,aN none 0 0,aN none 0 0,aD 0,aN none 0 0,aN none 0 0,aD 0,aD 0,aD 0,aN none 0 0,aN none 0 0],aN none 0 0,.agg #[aD 0,aN none 0 0]],[]⟩ 8 (by kernel_rfl) (by kernel_rfl) (by kernel_rfl) (by kernel_rfl)) ?_
 intro W base args ds gs before hval0 hW _ _
 have hval:∀ (j:Nat) t v,Tryz.f8.params[j]? = some t->args[j]? = some v->Value.okWide prog W .any base t v:=hval0
 have hW':=hW
 obtain ⟨p,q,hA0,hV,rfl,hfz,hnd⟩:=hW
 have hA:DataW.TrodAll enc prog W 0 (fun _=>true) true Tryz.f8.params.toList args.toList ds p:=hA0
 have hA1:=hA
 rw [Tryz.params8] at hA hval
 obtain ⟨v0,v1,v2,d0,d1,d2,p0,p1,p2,rfl,rfl,rfl,h0,h1,h2⟩:=trodAll_three hA
 obtain ⟨rfl,rfl⟩:=trodVars_none hV
 obtain ⟨W0,g,rfl,hgc,hg⟩:=Ac8 (hval 0 35 v0 rfl rfl) h0
 obtain ⟨l,ws,G,rfl,hl,hw⟩:=ZY (hval 1 57 v1 rfl rfl) h1
 obtain ⟨ce,xA,xn,xc,xs,rfl,hxc,hxs⟩:=YD (hval 2 69 v2 rfl rfl) h2
 simp only [List.append_nil] at hW' hA1
 exact Af2 Tryz.laidOut (by kernel_rfl) rfl Tryz.underlying4 rfl rfl hW' hA1 (AbH hg hgc hl hw hxs hxc)
theorem WA:(Rows.nightSharesRow.inPlace==prog.inPlace 8)=true:=by kernel_rfl
theorem Wu:(Rows.nightSharesRow.unfollowed==prog.unfollowed 8)=true:=by kernel_rfl
theorem WN:(Rows.nightSharesRow.recurses==prog.recurses 8)=true:=by kernel_rfl
theorem V9:(Rows.nightSharesRow.named==prog.varsNamed 8)=true:=by kernel_rfl
theorem Rf:joinedFacts prog 8 Tryz.f8 Rows.nightSharesSpec Rows.nightSharesRow=true:=by
 unfold joinedFacts
 refine BW (BW (BW (BW (BW (BW (BW (BW (BW (BW (BW (BW (BW (BW (BW (BW (BW (BW (BW (BW (BW (BW (BW (BW (BW (BW (BW (BW (BW (BW (BW ?_ Tryz.laidOut) Ag1) ?_) ?_) ?_) AfD) ?_) AfB) WA) Wu) WN) V9) ?_) ?_) ?_) ?_) ?_) ?_) ?_) ?_) ?_) Af8) ?_) Aff) Afr) Ag2) AhF) ?_) ?_) ?_) ?_
 all_goals kernel_rfl
theorem nightShares_holds:Rows.NightSharesSaid:=
 OpenClaim.holds_of_wide 8 Tryz.f8 rfl rfl rfl rfl rfl rfl rfl ⟨rfl,rfl,rfl,rfl,rfl⟩ rfl rfl rfl rfl rfl (by kernel_rfl) Tryz.func8 Rf
  (of_decide_eq_true (by kernel_rfl)) (by unfold Func.isWrapper;rw [if_neg (of_decide_eq_false (by kernel_rfl))];exact ⟨rfl,rfl⟩)
  (fun os started H enc _=>Xo os started H enc)
end Go.Proofs.YtoelhdjloaknbaaGreat
