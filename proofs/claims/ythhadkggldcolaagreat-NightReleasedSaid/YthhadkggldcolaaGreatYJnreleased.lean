/- Trimmed by wip/trim.py to what this claim rests on. -/
import Derived.Test.YthhadkggldcolaaGreatYKn1
import Derived.Test.YthhadkggldcolaaGreatYSa1
import Derived.Test.YthhadkggldcolaaGreatYW2
namespace Go.Proofs.YthhadkggldcolaaGreat
set_option maxRecDepth 100000
open Go.RowKit Go.ChangeShapes Go.WideShapes Go.Deep Go.Joins
theorem Rx {σ:Hp} {W:GaW} {g:Gal} {l:SL} {ws:Nat->SL} {G:List Grp} (h:GaR σ W g) (hl:RdS sG σ l.A l.n (G.mapIdx (Hq ws))) (hw:∀ i,(h:i<G.length)->RdS [.int .i64] σ (ws i).A (ws i).n G[i].wants):Ae Tryz.prog AX #[W.v g,l.v] σ fun v _=>v=.bool true:=by
 have he:EvR σ W.r g.B l ws G:=⟨h.r,hl,hw⟩
 refine HC _ _ _ _ _ _ _ _ _ _ _ _ _ _ _ _ _ _ _ _ _ _ _ _ _ _ _ _ _ _ _ _ _ _ _ _ _ ?_
 unfold Cu
 refine clB JQ (Wl h he) (Cq (fun _=>K4 (Ak rfl)) (fun hf=>?_))
 rw [Bool.or_eq_false_iff] at hf
 have hn:=YL hf.1
 obtain ⟨f1,f2,f3⟩:=Z3 hf.2
 have hrn:=h.rn
 have hln:=he.lenL
 refine AS Mi (Yr h hn) ?_
 rintro v σ8 ⟨Q,rfl,hs8,hq⟩
 refine ⟨_,_,_,_,_,_,_,_,_,_,_,_,_,_,_,_,_,_,_,_,_,_,_,_,_,_,_,_,_,_,_,_,rfl,?_⟩
 refine AS Fe (P7 (W:=W) (he.sub hs8) (by omega) fun k hk=>by have:=f3 k hk;omega) ?_
 rintro v σ24 ⟨l',ws',rfl,hs24,hE⟩
 refine ⟨_,_,_,rfl,hs24,?_⟩
 have hq24:=hq.sub hs24
 refine AS Mx (Yu hq24 (hE hq24.r)) ?_
 rintro v σ27 ⟨s27,rfl,hs27,hr27⟩
 refine ⟨_,_,_,_,rfl,BA (fun _=>K4 (Ak rfl)) (fun e=>?_)⟩
 obtain ⟨hg,hqc⟩:=Gal.chkG_ok e
 have e0:=Gal.chkG_0 e
 have hn8:=hg.n
 have hq27:=hq24.sub hs27
 refine AS FA (SA hq27) ?_
 rintro v σ34 ⟨A35,n35,c35,rfl,ho35⟩
 have hs34:=ho35.sub
 have eo:g.opn=g.open:=if_pos e0
 have hr35:RdS [.int .i64] σ34 A35 n35 g.opn:=ho35.RdI
 rw [eo] at hr35
 clear ho35
 have hn35:n35=g.open.length:=hr35.lenI
 have hq34:=hq27.sub hs34
 have hr34:=hr27.sub hs34
 have hpl:=VW (g:=g) (G:=G)
 have hs0:=hs8.trans (hs24.trans (hs27.trans hs34))
 have he34:=he.sub hs0
 refine ⟨_,_,_,_,rfl,BA (fun a=>absurd e0 a) (fun _=>Ag fun J39 h39=>?_)⟩
 have hol:=hg.open_len
 have hSL:=hg.nL
 have hlt2:∀ k,Lt g.open k<256:=fun k=>Nat.lt_of_lt_of_le (hg.setK_lt k) (by rw [hSL];exact Nat.le_trans (Nat.pow_le_pow_right (by omega) hn8) (by decide))
 -- the rides that are open are released
 refine ⟨fun q m i τ=>∃ k:Nat,q=g.open.length-k/\m=(Lt g.open k:Nat)/\i=k/\k<=g.open.length/\Hp.Sub σ34 τ,⟨_,0,rfl,rfl,rfl,by omega,Hp.Sub.refl _⟩,?_⟩
 rintro q m i τ ⟨k,rfl,rfl,rfl,hk,hsτ⟩ _
 have hrτ:=hr35.sub hsτ
 refine AD (fun hlt=>?_) (fun hlt=>?_)
 ·have hkl:k<g.open.length:=by omega
  have hgk:gt g.open (k:Nat)=g.open[k]:=CD hkl
  have hm:=List.getElem_mem hkl
  have hin:=hg.open_in hm
  have hrel:=g.open_sub.subset hm
  have hsc:=VD hkl
  refine Ag fun J118 h118=>Ag fun J125 h125=>Ag fun J145 h145=>?_
  have k125:J125 τ:=by
   rw [h125]
   intro _
   refine GP hrτ (by omega) (by omega) ?_
   rw [hgk]
   have k118:∀ τ',Hp.Sub τ τ'->J118 ((Lt g.open (k+1):Nat):Int) τ':=by
    intro τ' hs'
    rw [h118]
    intro _
    exact AU (by omega) (Bf _ (by omega) ⟨k+1,rfl,rfl,by omega,by omega,hsτ.trans hs'⟩)
   rw [hsc] at k118
   have hW:=Zr ((hq34.sub hsτ).k) hg.dayE hrel
   have hb1:=hlt2 k
   have hb2:=hlt2 (k+1)
   rw [hsc] at hb2
   generalize g.open[k]=r at *
   generalize Lt g.open k=s at *
   obtain ⟨j,rfl⟩:∃ j:Nat,r=j:=⟨r.toNat,by omega⟩
   have hj:j<=30:=by omega
   have e1:=RQ (n:=j) (by omega)
   have e2:=R2 hj
   have e0:0<2^j:=Nat.pow_pos (by omega)
   have e3:=XF (a:=s) (b:=2^j) (by omega) (by omega)
   rw [Int.toNat_natCast] at hb2 k118
   have e4:((s ||| 2^j:Nat):Int)=((Mw s j:Nat):Int):=rfl
   refine W9 (by omega) ⟨by omega,?_⟩
   rw [e1]
   refine AU (by omega) ?_
   rw [e3,e4]
   refine AU (by omega) (GP hrτ (by omega) (by omega) ?_)
   rw [hgk]
   refine AS Lm hW ?_
   rintro v τ' ⟨A,c,rfl,hs'⟩
   refine ⟨_,_,_,_,rfl,Ag fun J141 h141=>BA (fun a=>absurd rfl a) (fun _=>?_)⟩
   have:decide ((0:Int)<((0:Nat):Int))=false:=by decide
   rw [this,h141]
   intro _
   exact W6 (k118 _ hs')
  have k145:J145 false τ:=by
   rw [h145]
   intro _
   exact W6 k125
  refine GP hrτ (by omega) (by omega) (AD (fun a=>?_) (fun _=>GP hrτ (by omega) (by omega) ?_))
  ·rw [hgk] at a;omega
  ·rw [hgk,decide_eq_false (by omega)]
   exact k145
 ·obtain rfl:k=g.open.length:=by omega
  rw [h39]
  intro _
  clear h39
  have hqτ:=hq34.sub hsτ
  obtain ⟨_,hfit⟩:=g.open_set
  have hbit:=@Ci.set_bit g
  have hfe:=hg.fits_e (hg.setK_lt g.open.length)
  have hb:=hlt2 g.open.length
  clear hlt2
  generalize Lt g.open g.open.length=s at *
  refine AS Gn (Xm hqτ.s) ?_
  rintro v τ' ⟨rfl,rfl⟩
  refine ⟨_,_,_,rfl,Ag fun J48 h48=>Ag fun J108 h108=>?_⟩
  have k48:J48 τ':=by
   rw [h48]
   intro _
   refine Ag fun J51 h51=>?_
   have k51:J51 τ':=by
    rw [h51]
    intro _
    refine AD (fun _=>K4 (Ak rfl)) (fun hall=>?_)
    have hall:¬ g.open.length<g.B.length:=by omega
    have heτ:=he34.sub hsτ
    refine AS Gg (WT (w:=g.w) heτ (by omega)) ?_
    rintro v σ56 ⟨r',rfl,ho⟩
    have hs56:=ho.sub
    refine ⟨_,_,_,_,rfl,?_⟩
    refine AS Fe (P7 (W:=W) (heτ.sub hs56) (by omega) fun k hk=>by have:=f3 k hk;omega) ?_
    rintro v σ60 ⟨l2,ws2,rfl,hs60,hE2⟩
    refine ⟨_,_,_,rfl,?_⟩
    refine AS F4 (Z5 (w:=g.w) (hE2 (ho.rd.sub hs60))) ?_
    rintro v σ63 ⟨s63,rfl,hs63,hr63⟩
    rw [hqc] at hr63 ⊢
    have evl:vsL 0 (Ngt.played g.w g.B G).visits=(Ngt.played g.w g.B G).visits:=if_pos rfl
    rw [evl] at hr63
    refine ⟨_,_,_,_,rfl,AD (fun _=>?_) (fun a=>absurd rfl a)⟩
    refine clB HG (Wk (((hr34.sub hsτ).sub hs56).sub (hs60.trans hs63)) hr63 (by omega) (VL e hall)) ?_
    exact AaY (K4 (Ak rfl))
   -- the visits
   have hrV:=hr34.sub hsτ
   have hok:=Xu e
   have hnV:s27.n=(g.plays G).length:=hrV.1
   have heτ:=he34.sub hsτ
   clear h51 h48 h108
   generalize g.plays G=V at *
   refine ⟨fun q i τ2=>∃ k:Nat,q=V.length-k/\i=k/\k<=V.length/\τ2=τ',⟨_,0,rfl,rfl,by omega,rfl⟩,?_⟩
   rintro q i τ2 ⟨k,rfl,rfl,hk2,rfl⟩ _
   refine AD (fun hlt3=>?_) (fun hlt3=>?_)
   ·have hkl:k<V.length:=by omega
    obtain ⟨⟨a1,a2⟩,⟨b1,b2⟩,b3,b4⟩:=hok V[k] (List.getElem_mem hkl)
    have hin:=hg.open_in b4
    have hbt:=hbit b4
    refine Ag fun J79 h79=>?_
    refine RdS.vix hrV hkl rfl fun b1' o1 c0 c1 c2 c3 c4 c5=>AP c0 (AP c1 (AP c2 (NM c3 (AP c4 (AP c5 ?_)))))
    generalize V[k]=x at *
    refine Ag fun J93 h93=>?_
    have k93:J93 false τ2:=by
     rw [h93]
     intro _
     refine W6 ?_
     rw [h79]
     intro _
     exact AU (by omega) (Bf _ (by omega) ⟨k+1,rfl,by omega,by omega,rfl⟩)
    obtain ⟨j,hj⟩:∃ j:Nat,x.2.2.1=j:=⟨x.2.2.1.toNat,by omega⟩
    rw [hj,Int.toNat_natCast] at hbt
    have ebit:=Xj (m:=s) (i:=j) (by omega)
    rw [hbt,if_pos rfl] at ebit
    refine AD (fun a=>by omega) (fun _=>AD (fun a=>by omega) (fun _=>W9 (by omega) ⟨by omega,?_⟩))
    rw [hj,ebit]
    refine AU (by omega) (AD (fun a=>absurd a (by decide)) (fun _=>AD (fun a=>by omega) (fun _=>AD (fun a=>by omega) (fun _=>AD (fun a=>by omega) (fun _=>?_)))))
    have ewn:wn G x.1=(gd G x.1).wants:=rfl
    refine EvR.gix heτ a1 a2 fun b o _ _ c3 _ hw3=>NT c3 ?_
    have hwn:(ws x.1.toNat).n=(gd G x.1).wants.length:=hw3.lenI
    rw [ewn] at b2 b3
    refine AD (fun a=>by omega) (fun _=>EvR.gix heτ a1 a2 fun b o _ _ c3 _ hw3=>NT c3 (GP hw3 b1 b2 ?_))
    rw [b3,hj,show (!decide (((j:Nat):Int)=(j:Nat)))=false by simp]
    exact k93
   ·exact k51
  have k108:J108 false τ':=by
   rw [h108]
   intro _
   exact W6 k48
  refine AD (fun a=>BA (fun a2=>absurd hfe a2) (fun _=>?_)) (fun _=>k108)
  rcases hfit with hfit | hfit
  ·rw [hfit] at hn35
   simp at hn35
   omega
  ·rw [hfit]
   exact k108
theorem Pj (os:Os) (started:os.Started) (H:Type) (enc:TypeId×Value->H):
  ReturnsInHanded {} Tryz.checked os AX .any (Rows.nightReleasedSpec.pre6 enc Tryz.prog Tryz.f6 Rows.nightReleasedRow.domain false) (Rows.nightReleasedSpec.post enc Tryz.prog Tryz.f6 false true false false):=by
 refine returnsInHanded_of_change (C:=Tryz.checked) Tryz.own started (by kernel_rfl) Tryz.func6
  (ChangeSpec.witness6 (enc:=enc) (C:=Tryz.checked) false ⟨#[],#[.agg #[.slice none 0 0,.int .i64 0,.slice none 0 0,.slice none 0 0,.slice none 0 0,.slice none 0 0,.int .i64 0,.slice none 0 0,.slice none 0 0,.int .i64 0,.int .i64 0,.int .i64 0,.slice none 0 0,.slice none 0 0],.slice none 0 0],[]⟩ 8 (by kernel_rfl) (by kernel_rfl) (by kernel_rfl) (by kernel_rfl)) ?_
 intro W base args ds gs before hval0 hW _ _
 have hval:∀ (j:Nat) t v,Tryz.f6.params[j]? = some t->args[j]? = some v->Value.okWide Tryz.prog W .any base t v:=hval0
 have hW':=hW
 obtain ⟨p,q,hA0,hV,rfl,hfz,hnd⟩:=hW
 have hA:DataW.TrodAll enc Tryz.prog W 0 (fun _=>true) true Tryz.f6.params.toList args.toList ds p:=hA0
 have hA1:=hA
 rw [Tryz.params6] at hA hval
 obtain ⟨v0,v1,d0,d1,p0,p1,rfl,rfl,rfl,h0,h1⟩:=trodAll_two hA
 obtain ⟨rfl,rfl⟩:=trodVars_none hV
 obtain ⟨W0,g,rfl,hgc,hg⟩:=Vx (hval 0 35 v0 rfl rfl) h0
 obtain ⟨l,ws,G,rfl,hl,hw⟩:=Sl (hval 1 48 v1 rfl rfl) h1
 simp only [List.append_nil] at hW' hA1
 exact WB Tryz.laidOut (by kernel_rfl) rfl Tryz.underlying4 rfl rfl hW' hA1 (Rx hg hl hw)
theorem On:(Rows.nightReleasedRow.inPlace==Tryz.prog.inPlace AX)=true:=by kernel_rfl
theorem Ow:(Rows.nightReleasedRow.unfollowed==Tryz.prog.unfollowed AX)=true:=by kernel_rfl
theorem OB:(Rows.nightReleasedRow.recurses==Tryz.prog.recurses AX)=true:=by kernel_rfl
theorem NS:(Rows.nightReleasedRow.named==Tryz.prog.varsNamed AX)=true:=by kernel_rfl
theorem KJ:joinedFacts Tryz.prog AX Tryz.f6 Rows.nightReleasedSpec Rows.nightReleasedRow=true:=by
 unfold joinedFacts
 refine Bk (Bk (Bk (Bk (Bk (Bk (Bk (Bk (Bk (Bk (Bk (Bk (Bk (Bk (Bk (Bk (Bk (Bk (Bk (Bk (Bk (Bk (Bk (Bk (Bk (Bk (Bk (Bk (Bk (Bk (Bk ?_ Tryz.laidOut) YT) ?_) ?_) ?_) XW) ?_) WP) On) Ow) OB) NS) ?_) ?_) ?_) ?_) ?_) ?_) ?_) ?_) ?_) Xp) ?_) Yc) XK) YW) Yo) ?_) ?_) ?_) ?_
 all_goals kernel_rfl
theorem nightReleased_holds:Rows.NightReleasedSaid:=
 OpenClaim.holds_of_wide AX Tryz.f6 rfl rfl rfl rfl rfl rfl rfl ⟨rfl,rfl,rfl,rfl,rfl⟩ rfl rfl rfl rfl rfl (by kernel_rfl) Tryz.func6 KJ
  (of_decide_eq_true (by kernel_rfl)) (by unfold Func.isWrapper;rw [if_neg (of_decide_eq_false (by kernel_rfl))];exact ⟨rfl,rfl⟩)
  (fun os started H enc _=>Pj os started H enc)
end Go.Proofs.YthhadkggldcolaaGreat
